import Derived.Test.YtomomjgdeomgiaaGreatBA11
set_option maxRecDepth 100000
set_option maxHeartbeats 8000000
set_option linter.all false
namespace Go.Proofs.Aud
open Go Go.RowKit Go.Proofs.E Go.Proofs.Cus Go.Proofs.Rid Go.Proofs.Far
def mQ (o:Option Nat):Int:=match o with|some i=>(i:Int)|none=> -1
theorem AN {α:Type} {p:α->Bool} {xs:List α} {k:Nat} {x:α} (h: ∀y∈xs.take k,p y=false) (hx:xs[k]?=some x) (hp:p x=true):xs.findIdx? p=some k:=by
 obtain ⟨h1,h2⟩:=ai.1 hx
 rw [mo]
 refine ⟨h1,by rw [h2];exact hp,λj hj=>?_⟩
 have:=h _ (aq (l:=xs.take k) (i:=j) (a:=xs[j]) (by rw [List.getElem?_take,aB hj,ah (by omega)]))
 rw [this];decide
theorem AP {α:Type} {p:α->Bool} {xs:List α} {k:Nat} (h: ∀y∈xs.take k,p y=false) (hk:xs.length<=k):xs.findIdx? p=none:=by
 rw [bo hk] at h
 rw [List.findIdx?_eq_none_iff]
 exact h
theorem AO {α:Type} {p:α->Bool} {xs:List α} {k:Nat} {x:α} (h: ∀y∈xs.take k,p y=false) (hx:xs[k]?=some x) (hp:p x=false): ∀y∈xs.take (k+1),p y=false:=λy hy=>by
 rw [dY xs k x hx] at hy
 rcases bO.1 hy with hy|hy
 ·exact h y hy
 rw [cm.1 hy];exact hp
def rT (p:Net.Py):List Value:=[.int .i64 p.bn, .int .i64 p.rider, .int .i64 p.fU]
theorem uJ {w:World} {b:Nat} {t:TypeId} {cs:List Value} (h:(box b t cs).A w):jS w b 0 cs:=Net.uJ h
theorem u6 {w:World} {b:Nat} {t:TypeId} {cs:List Value} (h:(box b t cs).A w):b<w.heap.size:=Net.u6 h
theorem Pg {fs:Array Field} (h:Tryz.prog.underlying 78=some (.struct fs):=by exact bE):df Tryz.prog fs [(0,1),(1,1),(2,2),(4,2),(6,1),(7,1),(8,1),(9,1),(10,1),(11,1),(12,1)]:=by
 rw [bE] at h
 cases h
 intro w
 kernel_rfl
theorem Rv {fs:Array Field} (h:Tryz.prog.underlying 81=some (.struct fs):=by exact ct):df Tryz.prog fs [(0,1),(1,1),(2,1),(3,1)]:=by
 rw [ct] at h
 cases h
 intro w
 kernel_rfl
theorem Tp {fs:Array Field} (h:Tryz.prog.underlying 96=some (.struct fs):=by exact fO):df Tryz.prog fs [(0,1),(1,1),(2,1)]:=by
 rw [fO] at h
 cases h
 intro w
 kernel_rfl
theorem D5 (x:RX) (id:Int) (b:Nat) (w:World) (hb:jS w b 0 [.int .i64 id]) (hbl:b<w.heap.size):Calls Tryz.prog 454 #[.agg (RX.cells x).toArray, .pointer (some ⟨b,0,none⟩)] w λe w'=>e= .returned (.bool (decide (x.r.id=id)))/\fM w w':=by
 refine dd Tryz.func454 rfl Tryz.ntmps454 rfl ?_
 refine ak ?_
 refine R0 ?_
 refine cd (v:= .agg _) rfl rfl λb2=>?_
 refine xV (aU (v:= .bool _) (q0 rfl)) rfl rfl ?_
 refine XN ?_
 refine ad ?_
 refine ak ?_
 refine R0 ?_
 refine xV (az bE rfl ae rfl (q0 rfl)) rfl rfl ?_
 refine xV (eL aj (q0 rfl)) rfl rfl ?_
 refine xV (gB (v:= .int .i64 id) aj (q0 rfl) (HD hb hbl rfl)) rfl rfl ?_
 refine xV (jE (q0 rfl) (q0 rfl)) rfl rfl ?_
 refine xV (aU (v:= .bool _) (q0 rfl)) rfl rfl ?_
 refine XN ?_
 refine ad ?_
 refine dq ?_
 exact cu (v:= .bool _) rfl rfl rfl λw' hw=>⟨rfl,hw.1⟩
theorem D4 (A:Option Addr) (n c:Nat) (xs:List RX) (id:Int) (b:Nat) (w:World) (hx:eG w 13 RX.cells A n xs) (hb:jS w b 0 [.int .i64 id]) (hbl:b<w.heap.size):
  Calls Tryz.prog 453 #[.slice A n c, .func (.func 454) #[] #[.pointer (some ⟨b,0,none⟩)]] w λe w'=>e= .returned (.int .i64 (mQ (xs.findIdx? λx=>decide (x.r.id=id))))/\fM w w':=by
 have hl:=hx.1
 have hn:=hx.2.1
 refine dd Tryz.func453 rfl Tryz.ntmps453 rfl ?_
 refine ak ?_
 refine R0 ?_
 refine xV (aU (v:= .int _ _) (q0 rfl)) rfl rfl ?_
 refine XN ?_
 refine ad ?_
 refine ak ?_
 refine ak ?_
 refine R0 ?_
 refine xV (ay (v:= .slice _ _ _) (q0 rfl)) rfl rfl ?_
 refine xV (dw aT (q0 rfl)) rfl rfl ?_
 refine xV (ay (v:= .int _ _) (q0 rfl)) rfl rfl ?_
 refine XN ?_
 refine ad ?_
 refine cq ?_
 refine ef [4,5,8,9,10,11,12,13,14,15,16,17,18] (λk:Nat=>[(8, .int .i64 k)]) (λ_=>[]) (λk=>k<=n/\ ∀x∈xs.take k,decide (x.r.id=id)=false) (λk=>n -k) 0 ⟨rfl,trivial⟩ (λw hw=>hw) rfl ⟨bj _,λx h=>by simp at h⟩ ?_
 rintro k g ⟨hk,hall⟩
 refine ak ?_
 refine R0 ?_
 refine xV (gK (q0 rfl) (q0 rfl)) rfl rfl ?_
 refine XN ?_
 refine ad ?_
 refine ak ?_
 refine bD rfl (λhlt=>?_) (λhlt=>?_)
 ·have hlt':k<n:=by simpa using hlt
  obtain ⟨pb,off,x,rfl,hpbl,hpk,hrp⟩:=hx.at_ hlt'
  refine bZ ?_
  refine ad ?_
  refine ak ?_
  refine cq ?_
  refine ak ?_
  refine R0 ?_
  refine xV (ay (v:= .int _ _) (q0 rfl)) rfl rfl ?_
  refine xV (aU (v:= .int _ _) (q0 rfl)) rfl rfl ?_
  refine XN ?_
  refine ad ?_
  refine ak ?_
  refine R0 ?_
  refine xV (ay (q0 rfl)) rfl rfl ?_
  refine xV (ay (v:= .slice _ _ _) (q0 rfl)) rfl rfl ?_
  refine xV (ay (v:= .int _ _) (q0 rfl)) rfl rfl ?_
  refine xV (cx _ aT ba (q0 rfl) (q0 rfl) (λ_=>⟨rfl,by omega⟩)) rfl rfl ?_
  refine xV (eS fT ba (q0 rfl)) rfl rfl ?_
  refine xC (vU (cap:=[.pointer (some ⟨b,0,none⟩)]) (al:=[.agg (RX.cells x).toArray, .pointer (some ⟨b,0,none⟩)]) Tryz.call454 (q0 rfl) (λhg=>by rw [iQ (q0 (v:= .agg _) rfl) hg];rfl)) (λ_ w hw=>D5 x id b w (λj u hu=>EY hb hbl rfl w hw j u hu) (fZ hbl hw.1.size)) rfl rfl ?_
  refine XN ?_
  refine ad ?_
  refine bD rfl (λhv=>?_) (λhv=>?_)
  ·rw [AN hall hpk hv]
   refine ak ?_
   refine R0 ?_
   refine xV (ay (v:= .int _ _) (q0 rfl)) rfl rfl ?_
   refine xV (aU (v:= .int _ _) (q0 rfl)) rfl rfl ?_
   refine XN ?_
   refine ad ?_
   refine dq ?_
   refine dU ?_
   refine cw ?_
   refine iJ ?_
   refine dU ?_
   refine cw ?_
   exact cu (v:= .int _ _) rfl rfl rfl λw' hw=>⟨rfl,hw.1⟩
  refine bZ ?_
  refine bc ?_
  refine ad ?_
  refine R0 ?_
  refine xV (eT (q0 rfl) (q0 rfl) (λ_=>⟨rfl,by omega,by omega⟩)) rfl rfl ?_
  refine xV (ay (v:= .int _ _) (q0 rfl)) rfl rfl ?_
  refine XN ?_
  exact aH (k+1) (by repeat (first|exact aK|exact aN|refine a8 rfl ?_|refine aJ rfl ?_|refine aD rfl ?_)) ⟨rfl,trivial⟩ (λw hw=>hw) rfl ⟨hlt',AO hall hpk hv⟩ (by show n -(k+1)<n -k;omega)
 have hke:k=n:=by simp at hlt;omega
 rw [AP hall (by omega)]
 refine fz ?_
 refine cJ ?_
 refine cM ?_
 refine cK ?_
 refine ad ?_
 refine ak ?_
 refine R0 ?_
 refine xV (aU (v:= .int _ _) (q0 rfl)) rfl rfl ?_
 refine XN ?_
 refine ad ?_
 refine dq ?_
 exact cu (v:= .int _ _) rfl rfl rfl λw' hw=>⟨rfl,hw.1⟩
theorem Mm (A:Option Addr) (n c:Nat) (xs:List RX) (id:Int) (w:World) (hx:eG w 13 RX.cells A n xs):Calls Tryz.prog 447 #[.slice A n c, .int .i64 id] w λe w'=>e= .returned (.int .i64 (mQ (xs.findIdx? λx=>decide (x.r.id=id))))/\fM w w':=by
 refine dd Tryz.func447 rfl Tryz.ntmps447 rfl ?_
 refine ak ?_
 refine R0 ?_
 refine cd (v:= .int _ _) rfl rfl λb3=>?_
 refine xV (aU (v:= .int _ _) (q0 rfl)) rfl rfl ?_
 refine XN ?_
 refine ad ?_
 refine ak ?_
 refine R0 ?_
 refine xV (ay (v:= .slice _ _ _) (q0 rfl)) rfl rfl ?_
 refine xV AA rfl rfl ?_
 refine xC (en (al:=[.slice A n c, .func (.func 454) #[] #[.pointer (some ⟨b3,0,none⟩)]]) Tryz.call453 (λ_=>rfl)) (λ_ w hw=>D4 A n c xs id b3 w (hx.mem hw) (uJ (hw.item (k:=0) rfl)) (u6 (hw.item (k:=0) rfl))) rfl rfl ?_
 refine xV (aU (v:= .int _ _) (q0 rfl)) rfl rfl ?_
 refine XN ?_
 refine ad ?_
 refine dq ?_
 exact cu (v:= .int _ _) rfl rfl rfl λw' hw=>⟨rfl,hw.1⟩
theorem EE (x:FX) (id:Int) (b:Nat) (w:World) (hb:jS w b 0 [.int .i64 id]) (hbl:b<w.heap.size):Calls Tryz.prog 458 #[.agg (FX.cells x).toArray, .pointer (some ⟨b,0,none⟩)] w λe w'=>e= .returned (.bool (decide (x.b.bn=id)))/\fM w w':=by
 refine dd Tryz.func458 rfl Tryz.ntmps458 rfl ?_
 refine ak ?_
 refine R0 ?_
 refine cd (v:= .agg _) rfl rfl λb2=>?_
 refine xV (aU (v:= .bool _) (q0 rfl)) rfl rfl ?_
 refine XN ?_
 refine ad ?_
 refine ak ?_
 refine R0 ?_
 refine xV (az ct rfl ae rfl (q0 rfl)) rfl rfl ?_
 refine xV (eL aj (q0 rfl)) rfl rfl ?_
 refine xV (gB (v:= .int .i64 id) aj (q0 rfl) (HD hb hbl rfl)) rfl rfl ?_
 refine xV (jE (q0 rfl) (q0 rfl)) rfl rfl ?_
 refine xV (aU (v:= .bool _) (q0 rfl)) rfl rfl ?_
 refine XN ?_
 refine ad ?_
 refine dq ?_
 exact cu (v:= .bool _) rfl rfl rfl λw' hw=>⟨rfl,hw.1⟩
theorem ED (A:Option Addr) (n c:Nat) (xs:List FX) (id:Int) (b:Nat) (w:World) (hx:eG w 4 FX.cells A n xs) (hb:jS w b 0 [.int .i64 id]) (hbl:b<w.heap.size):
  Calls Tryz.prog 457 #[.slice A n c, .func (.func 458) #[] #[.pointer (some ⟨b,0,none⟩)]] w λe w'=>e= .returned (.int .i64 (mQ (xs.findIdx? λx=>decide (x.b.bn=id))))/\fM w w':=by
 have hl:=hx.1
 have hn:=hx.2.1
 refine dd Tryz.func457 rfl Tryz.ntmps457 rfl ?_
 refine ak ?_
 refine R0 ?_
 refine xV (aU (v:= .int _ _) (q0 rfl)) rfl rfl ?_
 refine XN ?_
 refine ad ?_
 refine ak ?_
 refine ak ?_
 refine R0 ?_
 refine xV (ay (v:= .slice _ _ _) (q0 rfl)) rfl rfl ?_
 refine xV (dw cj (q0 rfl)) rfl rfl ?_
 refine xV (ay (v:= .int _ _) (q0 rfl)) rfl rfl ?_
 refine XN ?_
 refine ad ?_
 refine cq ?_
 refine ef [4,5,8,9,10,11,12,13,14,15,16,17,18] (λk:Nat=>[(8, .int .i64 k)]) (λ_=>[]) (λk=>k<=n/\ ∀x∈xs.take k,decide (x.b.bn=id)=false) (λk=>n -k) 0 ⟨rfl,trivial⟩ (λw hw=>hw) rfl ⟨bj _,λx h=>by simp at h⟩ ?_
 rintro k g ⟨hk,hall⟩
 refine ak ?_
 refine R0 ?_
 refine xV (gK (q0 rfl) (q0 rfl)) rfl rfl ?_
 refine XN ?_
 refine ad ?_
 refine ak ?_
 refine bD rfl (λhlt=>?_) (λhlt=>?_)
 ·have hlt':k<n:=by simpa using hlt
  obtain ⟨pb,off,x,rfl,hpbl,hpk,hrp⟩:=hx.at_ hlt'
  refine bZ ?_
  refine ad ?_
  refine ak ?_
  refine cq ?_
  refine ak ?_
  refine R0 ?_
  refine xV (ay (v:= .int _ _) (q0 rfl)) rfl rfl ?_
  refine xV (aU (v:= .int _ _) (q0 rfl)) rfl rfl ?_
  refine XN ?_
  refine ad ?_
  refine ak ?_
  refine R0 ?_
  refine xV (ay (q0 rfl)) rfl rfl ?_
  refine xV (ay (v:= .slice _ _ _) (q0 rfl)) rfl rfl ?_
  refine xV (ay (v:= .int _ _) (q0 rfl)) rfl rfl ?_
  refine xV (cx _ cj dx (q0 rfl) (q0 rfl) (λ_=>⟨rfl,by omega⟩)) rfl rfl ?_
  refine xV (eS su dx (q0 rfl)) rfl rfl ?_
  refine xC (vU (cap:=[.pointer (some ⟨b,0,none⟩)]) (al:=[.agg (FX.cells x).toArray, .pointer (some ⟨b,0,none⟩)]) Tryz.call458 (q0 rfl) (λhg=>by rw [iQ (q0 (v:= .agg _) rfl) hg];rfl)) (λ_ w hw=>EE x id b w (λj u hu=>EY hb hbl rfl w hw j u hu) (fZ hbl hw.1.size)) rfl rfl ?_
  refine XN ?_
  refine ad ?_
  refine bD rfl (λhv=>?_) (λhv=>?_)
  ·rw [AN hall hpk hv]
   refine ak ?_
   refine R0 ?_
   refine xV (ay (v:= .int _ _) (q0 rfl)) rfl rfl ?_
   refine xV (aU (v:= .int _ _) (q0 rfl)) rfl rfl ?_
   refine XN ?_
   refine ad ?_
   refine dq ?_
   refine dU ?_
   refine cw ?_
   refine iJ ?_
   refine dU ?_
   refine cw ?_
   exact cu (v:= .int _ _) rfl rfl rfl λw' hw=>⟨rfl,hw.1⟩
  refine bZ ?_
  refine bc ?_
  refine ad ?_
  refine R0 ?_
  refine xV (eT (q0 rfl) (q0 rfl) (λ_=>⟨rfl,by omega,by omega⟩)) rfl rfl ?_
  refine xV (ay (v:= .int _ _) (q0 rfl)) rfl rfl ?_
  refine XN ?_
  exact aH (k+1) (by repeat (first|exact aK|exact aN|refine a8 rfl ?_|refine aJ rfl ?_|refine aD rfl ?_)) ⟨rfl,trivial⟩ (λw hw=>hw) rfl ⟨hlt',AO hall hpk hv⟩ (by show n -(k+1)<n -k;omega)
 have hke:k=n:=by simp at hlt;omega
 rw [AP hall (by omega)]
 refine fz ?_
 refine cJ ?_
 refine cM ?_
 refine cK ?_
 refine ad ?_
 refine ak ?_
 refine R0 ?_
 refine xV (aU (v:= .int _ _) (q0 rfl)) rfl rfl ?_
 refine XN ?_
 refine ad ?_
 refine dq ?_
 exact cu (v:= .int _ _) rfl rfl rfl λw' hw=>⟨rfl,hw.1⟩
theorem M4 (A:Option Addr) (n c:Nat) (xs:List FX) (id:Int) (w:World) (hx:eG w 4 FX.cells A n xs):Calls Tryz.prog 449 #[.slice A n c, .int .i64 id] w λe w'=>e= .returned (.int .i64 (mQ (xs.findIdx? λx=>decide (x.b.bn=id))))/\fM w w':=by
 refine dd Tryz.func449 rfl Tryz.ntmps449 rfl ?_
 refine ak ?_
 refine R0 ?_
 refine cd (v:= .int _ _) rfl rfl λb3=>?_
 refine xV (aU (v:= .int _ _) (q0 rfl)) rfl rfl ?_
 refine XN ?_
 refine ad ?_
 refine ak ?_
 refine R0 ?_
 refine xV (ay (v:= .slice _ _ _) (q0 rfl)) rfl rfl ?_
 refine xV AA rfl rfl ?_
 refine xC (en (al:=[.slice A n c, .func (.func 458) #[] #[.pointer (some ⟨b3,0,none⟩)]]) Tryz.call457 (λ_=>rfl)) (λ_ w hw=>ED A n c xs id b3 w (hx.mem hw) (uJ (hw.item (k:=0) rfl)) (u6 (hw.item (k:=0) rfl))) rfl rfl ?_
 refine xV (aU (v:= .int _ _) (q0 rfl)) rfl rfl ?_
 refine XN ?_
 refine ad ?_
 refine dq ?_
 exact cu (v:= .int _ _) rfl rfl rfl λw' hw=>⟨rfl,hw.1⟩
theorem Ej (x:Net.Py) (id:Int) (b:Nat) (w:World) (hb:jS w b 0 [.int .i64 id]) (hbl:b<w.heap.size):Calls Tryz.prog 465 #[.agg (rT x).toArray, .pointer (some ⟨b,0,none⟩)] w λe w'=>e= .returned (.bool (decide (x.bn=id)))/\fM w w':=by
 refine dd Tryz.func465 rfl Tryz.ntmps465 rfl ?_
 refine ak ?_
 refine R0 ?_
 refine cd (v:= .agg _) rfl rfl λb2=>?_
 refine xV (aU (v:= .bool _) (q0 rfl)) rfl rfl ?_
 refine XN ?_
 refine ad ?_
 refine ak ?_
 refine R0 ?_
 refine xV (az fO rfl ae rfl (q0 rfl)) rfl rfl ?_
 refine xV (eL aj (q0 rfl)) rfl rfl ?_
 refine xV (gB (v:= .int .i64 id) aj (q0 rfl) (HD hb hbl rfl)) rfl rfl ?_
 refine xV (jE (q0 rfl) (q0 rfl)) rfl rfl ?_
 refine xV (aU (v:= .bool _) (q0 rfl)) rfl rfl ?_
 refine XN ?_
 refine ad ?_
 refine dq ?_
 exact cu (v:= .bool _) rfl rfl rfl λw' hw=>⟨rfl,hw.1⟩
theorem Ei (A:Option Addr) (n c:Nat) (xs:List Net.Py) (id:Int) (b:Nat) (w:World) (hx:eG w 3 rT A n xs) (hb:jS w b 0 [.int .i64 id]) (hbl:b<w.heap.size):
  Calls Tryz.prog 464 #[.slice A n c, .func (.func 465) #[] #[.pointer (some ⟨b,0,none⟩)]] w λe w'=>e= .returned (.int .i64 (mQ (xs.findIdx? λx=>decide (x.bn=id))))/\fM w w':=by
 have hl:=hx.1
 have hn:=hx.2.1
 refine dd Tryz.func464 rfl Tryz.ntmps464 rfl ?_
 refine ak ?_
 refine R0 ?_
 refine xV (aU (v:= .int _ _) (q0 rfl)) rfl rfl ?_
 refine XN ?_
 refine ad ?_
 refine ak ?_
 refine ak ?_
 refine R0 ?_
 refine xV (ay (v:= .slice _ _ _) (q0 rfl)) rfl rfl ?_
 refine xV (dw bM (q0 rfl)) rfl rfl ?_
 refine xV (ay (v:= .int _ _) (q0 rfl)) rfl rfl ?_
 refine XN ?_
 refine ad ?_
 refine cq ?_
 refine ef [4,5,8,9,10,11,12,13,14,15,16,17,18] (λk:Nat=>[(8, .int .i64 k)]) (λ_=>[]) (λk=>k<=n/\ ∀x∈xs.take k,decide (x.bn=id)=false) (λk=>n -k) 0 ⟨rfl,trivial⟩ (λw hw=>hw) rfl ⟨bj _,λx h=>by simp at h⟩ ?_
 rintro k g ⟨hk,hall⟩
 refine ak ?_
 refine R0 ?_
 refine xV (gK (q0 rfl) (q0 rfl)) rfl rfl ?_
 refine XN ?_
 refine ad ?_
 refine ak ?_
 refine bD rfl (λhlt=>?_) (λhlt=>?_)
 ·have hlt':k<n:=by simpa using hlt
  obtain ⟨pb,off,x,rfl,hpbl,hpk,hrp⟩:=hx.at_ hlt'
  refine bZ ?_
  refine ad ?_
  refine ak ?_
  refine cq ?_
  refine ak ?_
  refine R0 ?_
  refine xV (ay (v:= .int _ _) (q0 rfl)) rfl rfl ?_
  refine xV (aU (v:= .int _ _) (q0 rfl)) rfl rfl ?_
  refine XN ?_
  refine ad ?_
  refine ak ?_
  refine R0 ?_
  refine xV (ay (q0 rfl)) rfl rfl ?_
  refine xV (ay (v:= .slice _ _ _) (q0 rfl)) rfl rfl ?_
  refine xV (ay (v:= .int _ _) (q0 rfl)) rfl rfl ?_
  refine xV (cx _ bM eB (q0 rfl) (q0 rfl) (λ_=>⟨rfl,by omega⟩)) rfl rfl ?_
  refine xV (eS AZ eB (q0 rfl)) rfl rfl ?_
  refine xC (vU (cap:=[.pointer (some ⟨b,0,none⟩)]) (al:=[.agg (rT x).toArray, .pointer (some ⟨b,0,none⟩)]) Tryz.call465 (q0 rfl) (λhg=>by rw [iQ (q0 (v:= .agg _) rfl) hg];rfl)) (λ_ w hw=>Ej x id b w (λj u hu=>EY hb hbl rfl w hw j u hu) (fZ hbl hw.1.size)) rfl rfl ?_
  refine XN ?_
  refine ad ?_
  refine bD rfl (λhv=>?_) (λhv=>?_)
  ·rw [AN hall hpk hv]
   refine ak ?_
   refine R0 ?_
   refine xV (ay (v:= .int _ _) (q0 rfl)) rfl rfl ?_
   refine xV (aU (v:= .int _ _) (q0 rfl)) rfl rfl ?_
   refine XN ?_
   refine ad ?_
   refine dq ?_
   refine dU ?_
   refine cw ?_
   refine iJ ?_
   refine dU ?_
   refine cw ?_
   exact cu (v:= .int _ _) rfl rfl rfl λw' hw=>⟨rfl,hw.1⟩
  refine bZ ?_
  refine bc ?_
  refine ad ?_
  refine R0 ?_
  refine xV (eT (q0 rfl) (q0 rfl) (λ_=>⟨rfl,by omega,by omega⟩)) rfl rfl ?_
  refine xV (ay (v:= .int _ _) (q0 rfl)) rfl rfl ?_
  refine XN ?_
  exact aH (k+1) (by repeat (first|exact aK|exact aN|refine a8 rfl ?_|refine aJ rfl ?_|refine aD rfl ?_)) ⟨rfl,trivial⟩ (λw hw=>hw) rfl ⟨hlt',AO hall hpk hv⟩ (by show n -(k+1)<n -k;omega)
 have hke:k=n:=by simp at hlt;omega
 rw [AP hall (by omega)]
 refine fz ?_
 refine cJ ?_
 refine cM ?_
 refine cK ?_
 refine ad ?_
 refine ak ?_
 refine R0 ?_
 refine xV (aU (v:= .int _ _) (q0 rfl)) rfl rfl ?_
 refine XN ?_
 refine ad ?_
 refine dq ?_
 exact cu (v:= .int _ _) rfl rfl rfl λw' hw=>⟨rfl,hw.1⟩
theorem FO (A:Option Addr) (n c:Nat) (xs:List Net.Py) (id:Int) (w:World) (hx:eG w 3 rT A n xs):Calls Tryz.prog 460 #[.slice A n c, .int .i64 id] w λe w'=>e= .returned (.int .i64 (mQ (xs.findIdx? λx=>decide (x.bn=id))))/\fM w w':=by
 refine dd Tryz.func460 rfl Tryz.ntmps460 rfl ?_
 refine ak ?_
 refine R0 ?_
 refine cd (v:= .int _ _) rfl rfl λb3=>?_
 refine xV (aU (v:= .int _ _) (q0 rfl)) rfl rfl ?_
 refine XN ?_
 refine ad ?_
 refine ak ?_
 refine R0 ?_
 refine xV (ay (v:= .slice _ _ _) (q0 rfl)) rfl rfl ?_
 refine xV AA rfl rfl ?_
 refine xC (en (al:=[.slice A n c, .func (.func 465) #[] #[.pointer (some ⟨b3,0,none⟩)]]) Tryz.call464 (λ_=>rfl)) (λ_ w hw=>Ei A n c xs id b3 w (hx.mem hw) (uJ (hw.item (k:=0) rfl)) (u6 (hw.item (k:=0) rfl))) rfl rfl ?_
 refine xV (aU (v:= .int _ _) (q0 rfl)) rfl rfl ?_
 refine XN ?_
 refine ad ?_
 refine dq ?_
 exact cu (v:= .int _ _) rfl rfl rfl λw' hw=>⟨rfl,hw.1⟩
theorem Uy (x y:Lg) (w:World):(Op.equal 142 (.agg x.cells.toArray) (.agg y.cells.toArray)).run Tryz.prog w= .ok (decide (x=y)) w:=by
 have h:(Op.equalIn 10000 142 (.agg x.cells.toArray) (.agg y.cells.toArray)).run Tryz.prog w= .ok (x.bq==y.bq&&((x.from_.lo==y.from_.lo&&(x.from_.hi==y.from_.hi&&true))&&((x.jT.lo==y.jT.lo&&(x.jT.hi==y.jT.hi&&true))&&true))) w:=
  rI w iA (by kernel_rfl) (fL w (by decide) (bQ w aj rfl) (bQ w aj rfl) (run_equalIn_int w _ _ .i64 .i64 _ _ av)
   (fL w (by decide) (je w ff cz rfl) (je w ff cz rfl) (rI w eJ (by kernel_rfl) (fL w (by decide) (bQ w aj rfl) (bQ w aj rfl) (run_equalIn_int w _ _ .i64 .i64 _ _ av) (fL w (by decide) (bQ w aj rfl) (bQ w aj rfl) (run_equalIn_int w _ _ .i64 .i64 _ _ av) (oy w))))
   (fL w (by decide) (je w ff cz rfl) (je w ff cz rfl) (rI w eJ (by kernel_rfl) (fL w (by decide) (bQ w aj rfl) (bQ w aj rfl) (run_equalIn_int w _ _ .i64 .i64 _ _ av) (fL w (by decide) (bQ w aj rfl) (bQ w aj rfl) (run_equalIn_int w _ _ .i64 .i64 _ _ av) (oy w)))) (oy w))))
 have e:(x.bq==y.bq&&((x.from_.lo==y.from_.lo&&(x.from_.hi==y.from_.hi&&true))&&((x.jT.lo==y.jT.lo&&(x.jT.hi==y.jT.hi&&true))&&true)))=decide (x=y):=by
  rw [gQ]
  obtain ⟨a,⟨b,c⟩,⟨d,e⟩⟩:=x
  obtain ⟨a',⟨b',c'⟩,⟨d',e'⟩⟩:=y
  simp
 rw [<-e];exact h
theorem Ux (x y:Pz) (w:World):(Op.equal 284 (.agg x.cells.toArray) (.agg y.cells.toArray)).run Tryz.prog w= .ok (decide (x=y)) w:=by
 have h:(Op.equalIn 10000 284 (.agg x.cells.toArray) (.agg y.cells.toArray)).run Tryz.prog w= .ok ((x.from_.lo==y.from_.lo&&(x.from_.hi==y.from_.hi&&true))&&((x.jT.lo==y.jT.lo&&(x.jT.hi==y.jT.hi&&true))&&true)) w:=
  rI w v7 (by kernel_rfl)
   (fL w (by decide) (je w ff cz rfl) (je w ff cz rfl) (rI w eJ (by kernel_rfl) (fL w (by decide) (bQ w aj rfl) (bQ w aj rfl) (run_equalIn_int w _ _ .i64 .i64 _ _ av) (fL w (by decide) (bQ w aj rfl) (bQ w aj rfl) (run_equalIn_int w _ _ .i64 .i64 _ _ av) (oy w))))
   (fL w (by decide) (je w ff cz rfl) (je w ff cz rfl) (rI w eJ (by kernel_rfl) (fL w (by decide) (bQ w aj rfl) (bQ w aj rfl) (run_equalIn_int w _ _ .i64 .i64 _ _ av) (fL w (by decide) (bQ w aj rfl) (bQ w aj rfl) (run_equalIn_int w _ _ .i64 .i64 _ _ av) (oy w)))) (oy w)))
 have e:((x.from_.lo==y.from_.lo&&(x.from_.hi==y.from_.hi&&true))&&((x.jT.lo==y.jT.lo&&(x.jT.hi==y.jT.hi&&true))&&true))=decide (x=y):=by
  rw [gQ]
  obtain ⟨⟨b,c⟩,⟨d,e⟩⟩:=x
  obtain ⟨⟨b',c'⟩,⟨d',e'⟩⟩:=y
  simp
 rw [<-e];exact h
theorem TG (x y:CE) (w:World):(Op.equal 144 (.agg x.cells.toArray) (.agg y.cells.toArray)).run Tryz.prog w= .ok (decide (x=y)) w:=by
 have h:=oq w [x.kind,x.ref,x.fU] [y.kind,y.ref,y.fU] rfl j8 (by kernel_rfl) ⟨by decide,rfl,aj,⟨_,av⟩,by decide,rfl,aj,⟨_,av⟩,by decide,rfl,aj,⟨_,av⟩,trivial⟩ rfl
 have he:([x.kind,x.ref,x.fU]==[y.kind,y.ref,y.fU])=decide (x=y):=by
  obtain ⟨a,b,c⟩:=x
  obtain ⟨d,e,f⟩:=y
  rw [gQ]
  simp
 rw [<-he];exact h
theorem M9 (A B:Option Addr) (n m c d:Nat) (xs ys:List Lg) (w:World) (hx:eG w 5 Lg.cells A n xs) (hy:eG w 5 Lg.cells B m ys):
  Calls Tryz.prog 455 #[.slice A n c, .slice B m d] w λe w'=>e= .returned (.bool (decide (xs=ys)))/\fM w w':=by
 have hl:=hx.1
 have hn:=hx.2.1
 have hl2:=hy.1
 refine dd Tryz.func455 rfl Tryz.ntmps455 rfl ?_
 refine ak ?_
 refine R0 ?_
 refine xV (aU (v:= .bool _) (q0 rfl)) rfl rfl ?_
 refine XN ?_
 refine ad ?_
 refine ak ?_
 refine ak ?_
 refine R0 ?_
 refine xV (ay (v:= .slice _ _ _) (q0 rfl)) rfl rfl ?_
 refine xV (dw eU (q0 rfl)) rfl rfl ?_
 refine xV (ay (v:= .slice _ _ _) (q0 rfl)) rfl rfl ?_
 refine xV (dw eU (q0 rfl)) rfl rfl ?_
 refine xV (ki (q0 rfl) (q0 rfl)) rfl rfl ?_
 refine XN ?_
 refine ad ?_
 refine bD rfl (λh1=>?_) (λh1=>?_)
 ·rw [jy λe:xs=ys=>by rw [e] at hl;simp at h1;omega]
  refine ak ?_
  refine R0 ?_
  refine xV (aU (v:= .bool _) (q0 rfl)) rfl rfl ?_
  refine XN ?_
  refine ad ?_
  refine dq ?_
  refine cw ?_
  exact cu (v:= .bool _) rfl rfl rfl λw' hw=>⟨rfl,hw.1⟩
 have hnm:n=m:=by simp at h1;omega
 subst hnm
 refine bZ ?_
 refine ad ?_
 refine ak ?_
 refine ak ?_
 refine R0 ?_
 refine xV (ay (v:= .slice _ _ _) (q0 rfl)) rfl rfl ?_
 refine xV (dw eU (q0 rfl)) rfl rfl ?_
 refine xV (ay (v:= .int _ _) (q0 rfl)) rfl rfl ?_
 refine XN ?_
 refine ad ?_
 refine cq ?_
 refine ef [4,5,13,14,15,16,17,18,19,20,21,22,23,24,25] (λk:Nat=>[(13, .int .i64 k)]) (λ_=>[]) (λk=>k<=n/\xs.take k=ys.take k) (λk=>n -k) 0 ⟨rfl,trivial⟩ (λw hw=>hw) rfl ⟨bj _,rfl⟩ ?_
 rintro k g ⟨hk,hall⟩
 refine ak ?_
 refine R0 ?_
 refine xV (gK (q0 rfl) (q0 rfl)) rfl rfl ?_
 refine XN ?_
 refine ad ?_
 refine ak ?_
 refine bD rfl (λhlt=>?_) (λhlt=>?_)
 ·have hlt':k<n:=by simpa using hlt
  obtain ⟨b1,o1,x,rfl,hb1,hx1,hr1⟩:=hx.at_ hlt'
  obtain ⟨b2,o2,y,rfl,hb2,hy1,hr2⟩:=hy.at_ hlt'
  refine bZ ?_
  refine ad ?_
  refine ak ?_
  refine cq ?_
  refine ak ?_
  refine R0 ?_
  refine xV (ay (v:= .int _ _) (q0 rfl)) rfl rfl ?_
  refine xV (aU (v:= .int _ _) (q0 rfl)) rfl rfl ?_
  refine XN ?_
  refine ad ?_
  refine ak ?_
  refine R1 rfl (by decide+kernel) ?_
  refine xV (ay (v:= .slice _ _ _) (q0 rfl)) rfl rfl ?_
  refine xV (ay (v:= .int _ _) (q0 rfl)) rfl rfl ?_
  refine xV (cx _ eU ij (q0 rfl) (q0 rfl) (λ_=>⟨rfl,by omega⟩)) rfl rfl ?_
  refine xV (eS (vs:=Lg.cells x) Tryz.isAgg142 ij (q0 rfl) (EY hr1 hb1)) rfl rfl ?_
  refine xV (ay (v:= .slice _ _ _) (q0 rfl)) rfl rfl ?_
  refine xV (ay (v:= .int _ _) (q0 rfl)) rfl rfl ?_
  refine xV (cx _ eU ij (q0 rfl) (q0 rfl) (λ_=>⟨rfl,by omega⟩)) rfl rfl ?_
  refine xV (eS (vs:=Lg.cells y) Tryz.isAgg142 ij (q0 rfl) (EY hr2 hb2)) rfl rfl ?_
  refine xV (Aa (Uy x y) (by kernel_rfl) (q0 rfl) (q0 rfl)) rfl rfl ?_
  refine XN ?_
  refine ad ?_
  refine bD rfl (λhv=>?_) (λhv=>?_)
  ·have hv':x≠y:=by simpa using hv
   rw [jy λe:xs=ys=>hv' (by rw [e,hy1] at hx1;cases hx1;rfl)]
   refine ak ?_
   refine R0 ?_
   refine xV (aU (v:= .bool _) (q0 rfl)) rfl rfl ?_
   refine XN ?_
   refine ad ?_
   refine dq ?_
   refine dU ?_
   refine cw ?_
   refine iJ ?_
   refine dU ?_
   refine cw ?_
   exact cu (v:= .bool _) rfl rfl rfl λw' hw=>⟨rfl,hw.1⟩
  have hv':x=y:=by simpa using hv
  refine bZ ?_
  refine bc ?_
  refine ad ?_
  refine R0 ?_
  refine xV (eT (q0 rfl) (q0 rfl) (λ_=>⟨rfl,by omega,by omega⟩)) rfl rfl ?_
  refine xV (ay (v:= .int _ _) (q0 rfl)) rfl rfl ?_
  refine XN ?_
  exact aH (k+1) (by repeat (first|exact aK|exact aN|refine a8 rfl ?_|refine aJ rfl ?_|refine aD rfl ?_)) ⟨rfl,trivial⟩ (λw hw=>hw) rfl ⟨hlt',by rw [dY xs k x hx1,dY ys k y hy1,hall,hv']⟩ (by show n -(k+1)<n -k;omega)
 have hke:k=n:=by simp at hlt;omega
 rw [bo (by omega),bo (by omega)] at hall
 rw [iU hall]
 refine fz ?_
 refine cJ ?_
 refine cM ?_
 refine cK ?_
 refine ad ?_
 refine ak ?_
 refine R0 ?_
 refine xV (aU (v:= .bool _) (q0 rfl)) rfl rfl ?_
 refine XN ?_
 refine ad ?_
 refine dq ?_
 exact cu (v:= .bool _) rfl rfl rfl λw' hw=>⟨rfl,hw.1⟩
theorem H' (A B:Option Addr) (n m c d:Nat) (xs ys:List Pz) (w:World) (hx:eG w 4 Pz.cells A n xs) (hy:eG w 4 Pz.cells B m ys):
  Calls Tryz.prog 456 #[.slice A n c, .slice B m d] w λe w'=>e= .returned (.bool (decide (xs=ys)))/\fM w w':=by
 have hl:=hx.1
 have hn:=hx.2.1
 have hl2:=hy.1
 refine dd Tryz.func456 rfl Tryz.ntmps456 rfl ?_
 refine ak ?_
 refine R0 ?_
 refine xV (aU (v:= .bool _) (q0 rfl)) rfl rfl ?_
 refine XN ?_
 refine ad ?_
 refine ak ?_
 refine ak ?_
 refine R0 ?_
 refine xV (ay (v:= .slice _ _ _) (q0 rfl)) rfl rfl ?_
 refine xV (dw gq (q0 rfl)) rfl rfl ?_
 refine xV (ay (v:= .slice _ _ _) (q0 rfl)) rfl rfl ?_
 refine xV (dw gq (q0 rfl)) rfl rfl ?_
 refine xV (ki (q0 rfl) (q0 rfl)) rfl rfl ?_
 refine XN ?_
 refine ad ?_
 refine bD rfl (λh1=>?_) (λh1=>?_)
 ·rw [jy λe:xs=ys=>by rw [e] at hl;simp at h1;omega]
  refine ak ?_
  refine R0 ?_
  refine xV (aU (v:= .bool _) (q0 rfl)) rfl rfl ?_
  refine XN ?_
  refine ad ?_
  refine dq ?_
  refine cw ?_
  exact cu (v:= .bool _) rfl rfl rfl λw' hw=>⟨rfl,hw.1⟩
 have hnm:n=m:=by simp at h1;omega
 subst hnm
 refine bZ ?_
 refine ad ?_
 refine ak ?_
 refine ak ?_
 refine R0 ?_
 refine xV (ay (v:= .slice _ _ _) (q0 rfl)) rfl rfl ?_
 refine xV (dw gq (q0 rfl)) rfl rfl ?_
 refine xV (ay (v:= .int _ _) (q0 rfl)) rfl rfl ?_
 refine XN ?_
 refine ad ?_
 refine cq ?_
 refine ef [4,5,13,14,15,16,17,18,19,20,21,22,23,24,25] (λk:Nat=>[(13, .int .i64 k)]) (λ_=>[]) (λk=>k<=n/\xs.take k=ys.take k) (λk=>n -k) 0 ⟨rfl,trivial⟩ (λw hw=>hw) rfl ⟨bj _,rfl⟩ ?_
 rintro k g ⟨hk,hall⟩
 refine ak ?_
 refine R0 ?_
 refine xV (gK (q0 rfl) (q0 rfl)) rfl rfl ?_
 refine XN ?_
 refine ad ?_
 refine ak ?_
 refine bD rfl (λhlt=>?_) (λhlt=>?_)
 ·have hlt':k<n:=by simpa using hlt
  obtain ⟨b1,o1,x,rfl,hb1,hx1,hr1⟩:=hx.at_ hlt'
  obtain ⟨b2,o2,y,rfl,hb2,hy1,hr2⟩:=hy.at_ hlt'
  refine bZ ?_
  refine ad ?_
  refine ak ?_
  refine cq ?_
  refine ak ?_
  refine R0 ?_
  refine xV (ay (v:= .int _ _) (q0 rfl)) rfl rfl ?_
  refine xV (aU (v:= .int _ _) (q0 rfl)) rfl rfl ?_
  refine XN ?_
  refine ad ?_
  refine ak ?_
  refine R1 rfl (by decide+kernel) ?_
  refine xV (ay (v:= .slice _ _ _) (q0 rfl)) rfl rfl ?_
  refine xV (ay (v:= .int _ _) (q0 rfl)) rfl rfl ?_
  refine xV (cx _ gq jf (q0 rfl) (q0 rfl) (λ_=>⟨rfl,by omega⟩)) rfl rfl ?_
  refine xV (eS (vs:=Pz.cells x) Tryz.isAgg284 jf (q0 rfl) (EY hr1 hb1)) rfl rfl ?_
  refine xV (ay (v:= .slice _ _ _) (q0 rfl)) rfl rfl ?_
  refine xV (ay (v:= .int _ _) (q0 rfl)) rfl rfl ?_
  refine xV (cx _ gq jf (q0 rfl) (q0 rfl) (λ_=>⟨rfl,by omega⟩)) rfl rfl ?_
  refine xV (eS (vs:=Pz.cells y) Tryz.isAgg284 jf (q0 rfl) (EY hr2 hb2)) rfl rfl ?_
  refine xV (Aa (Ux x y) (by kernel_rfl) (q0 rfl) (q0 rfl)) rfl rfl ?_
  refine XN ?_
  refine ad ?_
  refine bD rfl (λhv=>?_) (λhv=>?_)
  ·have hv':x≠y:=by simpa using hv
   rw [jy λe:xs=ys=>hv' (by rw [e,hy1] at hx1;cases hx1;rfl)]
   refine ak ?_
   refine R0 ?_
   refine xV (aU (v:= .bool _) (q0 rfl)) rfl rfl ?_
   refine XN ?_
   refine ad ?_
   refine dq ?_
   refine dU ?_
   refine cw ?_
   refine iJ ?_
   refine dU ?_
   refine cw ?_
   exact cu (v:= .bool _) rfl rfl rfl λw' hw=>⟨rfl,hw.1⟩
  have hv':x=y:=by simpa using hv
  refine bZ ?_
  refine bc ?_
  refine ad ?_
  refine R0 ?_
  refine xV (eT (q0 rfl) (q0 rfl) (λ_=>⟨rfl,by omega,by omega⟩)) rfl rfl ?_
  refine xV (ay (v:= .int _ _) (q0 rfl)) rfl rfl ?_
  refine XN ?_
  exact aH (k+1) (by repeat (first|exact aK|exact aN|refine a8 rfl ?_|refine aJ rfl ?_|refine aD rfl ?_)) ⟨rfl,trivial⟩ (λw hw=>hw) rfl ⟨hlt',by rw [dY xs k x hx1,dY ys k y hy1,hall,hv']⟩ (by show n -(k+1)<n -k;omega)
 have hke:k=n:=by simp at hlt;omega
 rw [bo (by omega),bo (by omega)] at hall
 rw [iU hall]
 refine fz ?_
 refine cJ ?_
 refine cM ?_
 refine cK ?_
 refine ad ?_
 refine ak ?_
 refine R0 ?_
 refine xV (aU (v:= .bool _) (q0 rfl)) rfl rfl ?_
 refine XN ?_
 refine ad ?_
 refine dq ?_
 exact cu (v:= .bool _) rfl rfl rfl λw' hw=>⟨rfl,hw.1⟩
theorem KO (A B:Option Addr) (n m c d:Nat) (xs ys:List CE) (w:World) (hx:eG w 3 CE.cells A n xs) (hy:eG w 3 CE.cells B m ys):
  Calls Tryz.prog 459 #[.slice A n c, .slice B m d] w λe w'=>e= .returned (.bool (decide (xs=ys)))/\fM w w':=by
 have hl:=hx.1
 have hn:=hx.2.1
 have hl2:=hy.1
 refine dd Tryz.func459 rfl Tryz.ntmps459 rfl ?_
 refine ak ?_
 refine R0 ?_
 refine xV (aU (v:= .bool _) (q0 rfl)) rfl rfl ?_
 refine XN ?_
 refine ad ?_
 refine ak ?_
 refine ak ?_
 refine R0 ?_
 refine xV (ay (v:= .slice _ _ _) (q0 rfl)) rfl rfl ?_
 refine xV (dw ml (q0 rfl)) rfl rfl ?_
 refine xV (ay (v:= .slice _ _ _) (q0 rfl)) rfl rfl ?_
 refine xV (dw ml (q0 rfl)) rfl rfl ?_
 refine xV (ki (q0 rfl) (q0 rfl)) rfl rfl ?_
 refine XN ?_
 refine ad ?_
 refine bD rfl (λh1=>?_) (λh1=>?_)
 ·rw [jy λe:xs=ys=>by rw [e] at hl;simp at h1;omega]
  refine ak ?_
  refine R0 ?_
  refine xV (aU (v:= .bool _) (q0 rfl)) rfl rfl ?_
  refine XN ?_
  refine ad ?_
  refine dq ?_
  refine cw ?_
  exact cu (v:= .bool _) rfl rfl rfl λw' hw=>⟨rfl,hw.1⟩
 have hnm:n=m:=by simp at h1;omega
 subst hnm
 refine bZ ?_
 refine ad ?_
 refine ak ?_
 refine ak ?_
 refine R0 ?_
 refine xV (ay (v:= .slice _ _ _) (q0 rfl)) rfl rfl ?_
 refine xV (dw ml (q0 rfl)) rfl rfl ?_
 refine xV (ay (v:= .int _ _) (q0 rfl)) rfl rfl ?_
 refine XN ?_
 refine ad ?_
 refine cq ?_
 refine ef [4,5,13,14,15,16,17,18,19,20,21,22,23,24,25] (λk:Nat=>[(13, .int .i64 k)]) (λ_=>[]) (λk=>k<=n/\xs.take k=ys.take k) (λk=>n -k) 0 ⟨rfl,trivial⟩ (λw hw=>hw) rfl ⟨bj _,rfl⟩ ?_
 rintro k g ⟨hk,hall⟩
 refine ak ?_
 refine R0 ?_
 refine xV (gK (q0 rfl) (q0 rfl)) rfl rfl ?_
 refine XN ?_
 refine ad ?_
 refine ak ?_
 refine bD rfl (λhlt=>?_) (λhlt=>?_)
 ·have hlt':k<n:=by simpa using hlt
  obtain ⟨b1,o1,x,rfl,hb1,hx1,hr1⟩:=hx.at_ hlt'
  obtain ⟨b2,o2,y,rfl,hb2,hy1,hr2⟩:=hy.at_ hlt'
  refine bZ ?_
  refine ad ?_
  refine ak ?_
  refine cq ?_
  refine ak ?_
  refine R0 ?_
  refine xV (ay (v:= .int _ _) (q0 rfl)) rfl rfl ?_
  refine xV (aU (v:= .int _ _) (q0 rfl)) rfl rfl ?_
  refine XN ?_
  refine ad ?_
  refine ak ?_
  refine R1 rfl (by decide+kernel) ?_
  refine xV (ay (v:= .slice _ _ _) (q0 rfl)) rfl rfl ?_
  refine xV (ay (v:= .int _ _) (q0 rfl)) rfl rfl ?_
  refine xV (cx _ ml sk (q0 rfl) (q0 rfl) (λ_=>⟨rfl,by omega⟩)) rfl rfl ?_
  refine xV (eS (vs:=CE.cells x) Tryz.isAgg144 sk (q0 rfl) (EY hr1 hb1)) rfl rfl ?_
  refine xV (ay (v:= .slice _ _ _) (q0 rfl)) rfl rfl ?_
  refine xV (ay (v:= .int _ _) (q0 rfl)) rfl rfl ?_
  refine xV (cx _ ml sk (q0 rfl) (q0 rfl) (λ_=>⟨rfl,by omega⟩)) rfl rfl ?_
  refine xV (eS (vs:=CE.cells y) Tryz.isAgg144 sk (q0 rfl) (EY hr2 hb2)) rfl rfl ?_
  refine xV (Aa (TG x y) (by kernel_rfl) (q0 rfl) (q0 rfl)) rfl rfl ?_
  refine XN ?_
  refine ad ?_
  refine bD rfl (λhv=>?_) (λhv=>?_)
  ·have hv':x≠y:=by simpa using hv
   rw [jy λe:xs=ys=>hv' (by rw [e,hy1] at hx1;cases hx1;rfl)]
   refine ak ?_
   refine R0 ?_
   refine xV (aU (v:= .bool _) (q0 rfl)) rfl rfl ?_
   refine XN ?_
   refine ad ?_
   refine dq ?_
   refine dU ?_
   refine cw ?_
   refine iJ ?_
   refine dU ?_
   refine cw ?_
   exact cu (v:= .bool _) rfl rfl rfl λw' hw=>⟨rfl,hw.1⟩
  have hv':x=y:=by simpa using hv
  refine bZ ?_
  refine bc ?_
  refine ad ?_
  refine R0 ?_
  refine xV (eT (q0 rfl) (q0 rfl) (λ_=>⟨rfl,by omega,by omega⟩)) rfl rfl ?_
  refine xV (ay (v:= .int _ _) (q0 rfl)) rfl rfl ?_
  refine XN ?_
  exact aH (k+1) (by repeat (first|exact aK|exact aN|refine a8 rfl ?_|refine aJ rfl ?_|refine aD rfl ?_)) ⟨rfl,trivial⟩ (λw hw=>hw) rfl ⟨hlt',by rw [dY xs k x hx1,dY ys k y hy1,hall,hv']⟩ (by show n -(k+1)<n -k;omega)
 have hke:k=n:=by simp at hlt;omega
 rw [bo (by omega),bo (by omega)] at hall
 rw [iU hall]
 refine fz ?_
 refine cJ ?_
 refine cM ?_
 refine cK ?_
 refine ad ?_
 refine ak ?_
 refine R0 ?_
 refine xV (aU (v:= .bool _) (q0 rfl)) rfl rfl ?_
 refine XN ?_
 refine ad ?_
 refine dq ?_
 exact cu (v:= .bool _) rfl rfl rfl λw' hw=>⟨rfl,hw.1⟩
theorem TI (x y:yd) (w:World):(Op.equal 74 (.agg x.cells.toArray) (.agg y.cells.toArray)).run Tryz.prog w= .ok (decide (x=y)) w:=Jl x y w
theorem Hw (x y:RX) (w:World) (hx:tq w x) (hy:tq w y):Calls Tryz.prog 448 #[.agg x.cells.toArray, .agg y.cells.toArray] w λe w'=>e= .returned (.bool (decide (x.r=y.r)))/\fM w w':=by
 obtain ⟨r,⟨lA,lc,pA,pc⟩⟩:=x
 obtain ⟨s,⟨mA,mc,qA,qc⟩⟩:=y
 obtain ⟨hlg,hpz⟩:=hx
 obtain ⟨hmg,hqz⟩:=hy
 simp only at hlg hpz hmg hqz
 refine dd Tryz.func448 rfl Tryz.ntmps448 rfl ?_
 refine ak ?_
 refine R0 ?_
 refine cd (v:= .agg _) rfl rfl λb2=>?_
 refine cd (v:= .agg _) rfl rfl λb3=>?_
 refine xV (aU (v:= .bool _) (q0 rfl)) rfl rfl ?_
 refine XN ?_
 refine ad ?_
 refine ak ?_
 refine R0 ?_
 refine xV (az bE rfl ae rfl (q0 rfl)) rfl rfl ?_
 refine xV (eL aj (q0 rfl)) rfl rfl ?_
 refine xV (az bE rfl ae rfl (q0 rfl)) rfl rfl ?_
 refine xV (eL aj (q0 rfl)) rfl rfl ?_
 refine xV (jE (q0 rfl) (q0 rfl)) rfl rfl ?_
 refine xV (ay (v:= .bool _) (q0 rfl)) rfl rfl ?_
 refine dJ (az bE rfl ae rfl (q0 rfl)) rfl rfl rfl rfl ?_
 refine dJ (eL aj (q1 rfl)) rfl rfl rfl rfl ?_
 refine dJ (az bE rfl ae rfl (q0 rfl)) rfl rfl rfl rfl ?_
 refine dJ (eL aj (q1 rfl)) rfl rfl rfl rfl ?_
 refine dJ (jE (q1 rfl) (q1 rfl)) rfl rfl rfl rfl ?_
 refine xV (fH (q0 rfl) rfl (λh=>by first|rfl|(rw [h];rfl))) rfl rfl ?_
 refine xV (ay (v:= .bool _) (q0 rfl)) rfl rfl ?_
 refine dJ (az bE rfl cz rfl (q0 rfl)) rfl rfl rfl rfl ?_
 refine dJ (eP ff cz (q1 rfl)) rfl rfl rfl rfl ?_
 refine dJ (az bE rfl cz rfl (q0 rfl)) rfl rfl rfl rfl ?_
 refine dJ (eP ff cz (q1 rfl)) rfl rfl rfl rfl ?_
 refine dJ (Dr (λw=>TI _ _ w) (by kernel_rfl) (q1 rfl) (q1 rfl)) rfl rfl rfl rfl ?_
 refine xV (fH (q0 rfl) rfl (λh=>by first|rfl|(rw [h];rfl))) rfl rfl ?_
 refine xV (ay (v:= .bool _) (q0 rfl)) rfl rfl ?_
 refine dJ (az bE rfl cz rfl (q0 rfl)) rfl rfl rfl rfl ?_
 refine dJ (eP ff cz (q1 rfl)) rfl rfl rfl rfl ?_
 refine dJ (az bE rfl cz rfl (q0 rfl)) rfl rfl rfl rfl ?_
 refine dJ (eP ff cz (q1 rfl)) rfl rfl rfl rfl ?_
 refine dJ (Dr (λw=>TI _ _ w) (by kernel_rfl) (q1 rfl) (q1 rfl)) rfl rfl rfl rfl ?_
 refine xV (fH (q0 rfl) rfl (λh=>by first|rfl|(rw [h];rfl))) rfl rfl ?_
 refine xV (ay (v:= .bool _) (q0 rfl)) rfl rfl ?_
 refine dJ (az bE rfl gD rfl (q0 rfl)) rfl rfl rfl rfl ?_
 refine dJ (eL lP (q1 rfl)) rfl rfl rfl rfl ?_
 refine dJ (az bE rfl gD rfl (q0 rfl)) rfl rfl rfl rfl ?_
 refine dJ (eL lP (q1 rfl)) rfl rfl rfl rfl ?_
 refine dJ (Ni iM (q1 rfl) (q1 rfl)) rfl rfl rfl rfl ?_
 refine xV (fH (q0 rfl) rfl (λh=>by first|rfl|(rw [h];rfl))) rfl rfl ?_
 refine xV (ay (v:= .bool _) (q0 rfl)) rfl rfl ?_
 refine dJ (az bE rfl qM rfl (q0 rfl)) rfl rfl rfl rfl ?_
 refine dJ (eL qm (q1 rfl)) rfl rfl rfl rfl ?_
 refine dJ (az bE rfl qM rfl (q0 rfl)) rfl rfl rfl rfl ?_
 refine dJ (eL qm (q1 rfl)) rfl rfl rfl rfl ?_
 refine Hg (en Tryz.call455 (jn (q1 (v:= .slice _ _ _) rfl) (q1 (v:= .slice _ _ _) rfl))) (λ_ w hw=>M9 lA mA _ _ lc mc r.db s.db w (hlg.mem hw) (hmg.mem hw)) rfl rfl rfl rfl ?_
 refine xV (fH (q0 rfl) rfl (λh=>by first|rfl|(rw [h];rfl))) rfl rfl ?_
 refine xV (ay (v:= .bool _) (q0 rfl)) rfl rfl ?_
 refine dJ (az bE rfl qL rfl (q0 rfl)) rfl rfl rfl rfl ?_
 refine dJ (eL ql (q1 rfl)) rfl rfl rfl rfl ?_
 refine dJ (az bE rfl qL rfl (q0 rfl)) rfl rfl rfl rfl ?_
 refine dJ (eL ql (q1 rfl)) rfl rfl rfl rfl ?_
 refine Hg (en Tryz.call456 (jn (q1 (v:= .slice _ _ _) rfl) (q1 (v:= .slice _ _ _) rfl))) (λ_ w hw=>H' pA qA _ _ pc qc r.bV s.bV w (hpz.mem hw) (hqz.mem hw)) rfl rfl rfl rfl ?_
 refine xV (fH (q0 rfl) rfl (λh=>by first|rfl|(rw [h];rfl))) rfl rfl ?_
 refine xV (ay (v:= .bool _) (q0 rfl)) rfl rfl ?_
 refine dJ (az bE rfl ae rfl (q0 rfl)) rfl rfl rfl rfl ?_
 refine dJ (eL aj (q1 rfl)) rfl rfl rfl rfl ?_
 refine dJ (az bE rfl ae rfl (q0 rfl)) rfl rfl rfl rfl ?_
 refine dJ (eL aj (q1 rfl)) rfl rfl rfl rfl ?_
 refine dJ (jE (q1 rfl) (q1 rfl)) rfl rfl rfl rfl ?_
 refine xV (fH (q0 rfl) rfl (λh=>by first|rfl|(rw [h];rfl))) rfl rfl ?_
 refine xV (ay (v:= .bool _) (q0 rfl)) rfl rfl ?_
 refine dJ (az bE rfl ae rfl (q0 rfl)) rfl rfl rfl rfl ?_
 refine dJ (eL aj (q1 rfl)) rfl rfl rfl rfl ?_
 refine dJ (az bE rfl ae rfl (q0 rfl)) rfl rfl rfl rfl ?_
 refine dJ (eL aj (q1 rfl)) rfl rfl rfl rfl ?_
 refine dJ (jE (q1 rfl) (q1 rfl)) rfl rfl rfl rfl ?_
 refine xV (fH (q0 rfl) rfl (λh=>by first|rfl|(rw [h];rfl))) rfl rfl ?_
 refine xV (ay (v:= .bool _) (q0 rfl)) rfl rfl ?_
 refine dJ (az bE rfl ae rfl (q0 rfl)) rfl rfl rfl rfl ?_
 refine dJ (eL aj (q1 rfl)) rfl rfl rfl rfl ?_
 refine dJ (az bE rfl ae rfl (q0 rfl)) rfl rfl rfl rfl ?_
 refine dJ (eL aj (q1 rfl)) rfl rfl rfl rfl ?_
 refine dJ (jE (q1 rfl) (q1 rfl)) rfl rfl rfl rfl ?_
 refine xV (fH (q0 rfl) rfl (λh=>by first|rfl|(rw [h];rfl))) rfl rfl ?_
 refine xV (ay (v:= .bool _) (q0 rfl)) rfl rfl ?_
 refine dJ (az bE rfl ae rfl (q0 rfl)) rfl rfl rfl rfl ?_
 refine dJ (eL aj (q1 rfl)) rfl rfl rfl rfl ?_
 refine dJ (az bE rfl ae rfl (q0 rfl)) rfl rfl rfl rfl ?_
 refine dJ (eL aj (q1 rfl)) rfl rfl rfl rfl ?_
 refine dJ (jE (q1 rfl) (q1 rfl)) rfl rfl rfl rfl ?_
 refine xV (fH (q0 rfl) rfl (λh=>by first|rfl|(rw [h];rfl))) rfl rfl ?_
 refine xV (aU (v:= .bool _) (q0 rfl)) rfl rfl ?_
 refine XN ?_
 refine ad ?_
 refine dq ?_
 exact cu (v:= .bool _) rfl rfl rfl λw' hw=>⟨fK (by
  rw [gQ]
  cases r
  cases s
  simp [and_assoc]),hw.1⟩
theorem Hy (x y:FX) (w:World) (hx:eG w 3 CE.cells x.A x.b.items.length x.b.items) (hy:eG w 3 CE.cells y.A y.b.items.length y.b.items):Calls Tryz.prog 450 #[.agg x.cells.toArray, .agg y.cells.toArray] w λe w'=>e= .returned (.bool (decide (x.b=y.b)))/\fM w w':=by
 obtain ⟨b,A,c⟩:=x
 obtain ⟨b',B,d⟩:=y
 simp only at hx hy
 refine dd Tryz.func450 rfl Tryz.ntmps450 rfl ?_
 refine ak ?_
 refine R0 ?_
 refine cd (v:= .agg _) rfl rfl λb2=>?_
 refine cd (v:= .agg _) rfl rfl λb3=>?_
 refine xV (aU (v:= .bool _) (q0 rfl)) rfl rfl ?_
 refine XN ?_
 refine ad ?_
 refine ak ?_
 refine R0 ?_
 refine xV (az ct rfl ae rfl (q0 rfl)) rfl rfl ?_
 refine xV (eL aj (q0 rfl)) rfl rfl ?_
 refine xV (az ct rfl ae rfl (q0 rfl)) rfl rfl ?_
 refine xV (eL aj (q0 rfl)) rfl rfl ?_
 refine xV (jE (q0 rfl) (q0 rfl)) rfl rfl ?_
 refine xV (ay (v:= .bool _) (q0 rfl)) rfl rfl ?_
 refine dJ (az ct rfl ae rfl (q0 rfl)) rfl rfl rfl rfl ?_
 refine dJ (eL aj (q1 rfl)) rfl rfl rfl rfl ?_
 refine dJ (az ct rfl ae rfl (q0 rfl)) rfl rfl rfl rfl ?_
 refine dJ (eL aj (q1 rfl)) rfl rfl rfl rfl ?_
 refine dJ (jE (q1 rfl) (q1 rfl)) rfl rfl rfl rfl ?_
 refine xV (fH (q0 rfl) rfl (λh=>by first|rfl|(rw [h];rfl))) rfl rfl ?_
 refine xV (ay (v:= .bool _) (q0 rfl)) rfl rfl ?_
 refine dJ (az ct rfl Qy rfl (q0 rfl)) rfl rfl rfl rfl ?_
 refine dJ (eL Tryz.isAgg79 (q1 rfl)) rfl rfl rfl rfl ?_
 refine dJ (az ct rfl Qy rfl (q0 rfl)) rfl rfl rfl rfl ?_
 refine dJ (eL Tryz.isAgg79 (q1 rfl)) rfl rfl rfl rfl ?_
 refine Hg (en Tryz.call459 (jn (q1 (v:= .slice _ _ _) rfl) (q1 (v:= .slice _ _ _) rfl))) (λ_ w hw=>KO A B _ _ c d b.items b'.items w (hx.mem hw) (hy.mem hw)) rfl rfl rfl rfl ?_
 refine xV (fH (q0 rfl) rfl (λh=>by first|rfl|(rw [h];rfl))) rfl rfl ?_
 refine xV (ay (v:= .bool _) (q0 rfl)) rfl rfl ?_
 refine dJ (az ct rfl ae rfl (q0 rfl)) rfl rfl rfl rfl ?_
 refine dJ (eL aj (q1 rfl)) rfl rfl rfl rfl ?_
 refine dJ (az ct rfl ae rfl (q0 rfl)) rfl rfl rfl rfl ?_
 refine dJ (eL aj (q1 rfl)) rfl rfl rfl rfl ?_
 refine dJ (jE (q1 rfl) (q1 rfl)) rfl rfl rfl rfl ?_
 refine xV (fH (q0 rfl) rfl (λh=>by first|rfl|(rw [h];rfl))) rfl rfl ?_
 refine xV (aU (v:= .bool _) (q0 rfl)) rfl rfl ?_
 refine XN ?_
 refine ad ?_
 refine dq ?_
 exact cu (v:= .bool _) rfl rfl rfl λw' hw=>⟨fK (by
  rw [gQ]
  cases b
  cases b'
  simp [and_assoc]),hw.1⟩
abbrev Py:=Net.Py
def Ce (l:List Rd) (i:Int):Option Nat:=l.findIdx? λr=>decide (r.id=i)
def Ey (l:List jq) (i:Int):Option Nat:=l.findIdx? λr=>decide (r.bn=i)
def Lf (l:List Py) (i:Int):Option Nat:=l.findIdx? λr=>decide (r.bn=i)
def Ly (ys:List jq) (p:Py):Bool:=match Ey ys p.bn with
 |none=>true
 |some k=>!decide ((ys.getD k default).rider=p.rider)||!decide ((ys.getD k default).total=p.fU)
def nR (pd:List Py) (ss:List Rd) (ys:List jq) (i:Nat) (p:Py):List Fd:=if ((Ce ss p.bn).isSome&&Ly ys p||decide (mQ (Lf pd p.bn)<i))=true then [⟨6,p.bn,i⟩] else []
def sW (ss:List Rd) (i:Nat) (p:Py):List Fd:=if (Ce ss p.bn).isSome=true then [] else [⟨8,p.bn,i⟩]
def kd (pd:List Py) (ss:List Rd) (ys:List jq) (n:Nat):List Fd:=(List.range n).flatMap λi=>nR pd ss ys i (pd.getD i default)++sW ss i (pd.getD i default)
def km (pd:List Py) (l:List Rd):List Fd:=l.flatMap λr=>if (Lf pd r.id).isSome=true then [] else [⟨7,r.id,0⟩]
def sV (pd:List Py) (ss:List Rd) (ys:List jq):List Fd:=kd pd ss ys pd.length++km pd ss
theorem kj {α:Type} (g:Nat->List α) (k:Nat):(List.range (k+1)).flatMap g=(List.range k).flatMap g++g k:=by rw [pP];simp
theorem dX {α:Type} {g:Nat->List α} {m:Nat} (h: ∀a,(g a).length<=m): ∀k,((List.range k).flatMap g).length<=k*m
 |0=>by simp
 |k+1=>by
  have h1:=dX h k
  have h2:=h k
  rw [kj,aQ,uj]
  omega
theorem lM {α β:Type} {g:α->List β} {m:Nat} (h: ∀a,(g a).length<=m): ∀l:List α,(l.flatMap g).length<=l.length*m
 |[]=>by simp
 |x::l=>by
  have h1:=lM h l
  have h2:=h x
  rw [nj,aQ,cL,uj]
  omega
theorem vi {α β:Type} (g:α->List β) {l:List α} {k:Nat} {x:α} (h:l[k]?=some x):(l.take (k+1)).flatMap g=(l.take k).flatMap g++g x:=by rw [dY l k x h,jY];simp
theorem Ew {α β:Type} (f:α->β) (p:β->Bool): ∀l:List α,(l.map f).findIdx? p=l.findIdx? λx=>p (f x)
 |[]=>rfl
 |x::l=>by rw [kh,List.findIdx?_cons,List.findIdx?_cons,Ew f p l]
theorem vv {o:Option Nat}:decide (mQ o<0)=!o.isSome:=by
 cases o with
 |none=>rfl
 |some k=>exact jy (by show ¬((k:Int)<0);omega)
theorem Cb {o:Option Nat}:decide (0<=mQ o)=o.isSome:=by
 cases o with
 |none=>rfl
 |some k=>exact iU (by show (0:Int)<=k;omega)
theorem F' (k:Nat):mQ (some k)=k:=rfl
theorem Ga:mQ none= -1:=rfl
theorem yK (k:Nat):((k:Int)<0)=False:=eq_false (by omega)
theorem H3 {α:Type} {p:α->Bool} {l:List α} {k:Nat} (h:l.findIdx? p=some k): ∃x,l[k]?=some x/\p x=true:=by
 rw [mo] at h
 obtain ⟨h1,h2,_⟩:=h
 exact ⟨l[k],ah h1,h2⟩
structure SX where
 nodes:Int
 Gu:Sl
 cI:Sl
 FT:Sl
 handle:Int
 Lr:Sl
 size:Int
 Uf:Sl
 each:Int
 kB:Int
 least:Int
 width:Int
 ka:Int
 kb:Int
structure BX where
 settled:Int
 ev:Sl
 st:Sl
 rd:Sl
 vs:Sl
 fr:Sl
 pd:Sl
 rf:Sl
 rl:Sl
 sp:Sl
 pl:Sl
def hP (f:Fl) (fa:FA) (p:Pr) (a:tz) (x:SX) (b:BX):List Value:=[.int .i64 f.cv, .int .i64 f.q', .int .i64 f.bH, .slice fa.dA fa.dn fa.dc, .slice fa.tA fa.tn fa.tc, .slice a.t.A a.t.n a.t.c, .slice a.p.A a.p.n a.p.c, .slice a.pl.A a.pl.n a.pl.c, .slice a.d.A a.d.n a.d.c, .int .i64 p.cap, .slice a.f.A a.f.n a.f.c, .int .i64 p.days,
 .int .i64 x.nodes,x.Gu.v,x.cI.v,x.FT.v, .int .i64 x.handle,x.Lr.v, .int .i64 x.size,x.Uf.v, .int .i64 x.each, .int .i64 x.kB, .int .i64 x.least, .int .i64 x.width, .int .u64 x.ka, .int .u64 x.kb,
 .int .i64 b.settled,b.ev.v,b.st.v,b.rd.v,b.vs.v,b.fr.v,b.pd.v,b.rf.v,b.rl.v,b.sp.v,b.pl.v]
structure TX where
 r:Sl
 s:Sl
 f:Sl
 y:Sl
 h:Int
def TX.cells (t:TX):List Value:=[t.r.v,t.s.v,t.f.v,t.y.v, .int .i64 t.h]
def Iq (u:World) (s:Sl) (l:List Rd):Prop:= ∃xs:List RX,lZ u s.A s.n xs/\xs.map (·.r)=l
def Il (u:World) (s:Sl) (l:List jq):Prop:= ∃xs:List FX,(eG u 4 FX.cells s.A s.n xs/\ ∀x∈xs,eG u 3 CE.cells x.A x.b.items.length x.b.items)/\xs.map (·.b)=l
theorem Iq.mem {w0 w:World} {L:List E.Item} {s:Sl} {l:List Rd} (h:Iq w0 s l) (hm:Mem w0 L w):Iq w s l:=by
 obtain ⟨xs,h1,h2⟩:=h
 exact ⟨xs,h1.mem hm,h2⟩
theorem Il.mem {w0 w:World} {L:List E.Item} {s:Sl} {l:List jq} (h:Il w0 s l) (hm:Mem w0 L w):Il w s l:=by
 obtain ⟨xs,⟨h1,h2⟩,h3⟩:=h
 exact ⟨xs,⟨h1.mem hm,λx hx=>(h2 x hx).mem hm⟩,h3⟩
theorem Iq.len {u:World} {s:Sl} {l:List Rd} (h:Iq u s l):s.n=l.length:=by
 obtain ⟨xs,h1,h2⟩:=h
 rw [<-h2,aS]
 exact h1.1.1.symm
theorem Il.len {u:World} {s:Sl} {l:List jq} (h:Il u s l):s.n=l.length:=by
 obtain ⟨xs,⟨h1,_⟩,h2⟩:=h
 rw [<-h2,aS]
 exact h1.1.symm
theorem sQ (s:Sl) (l:List Rd) (id:Int) (w:World) (h:Iq w s l):Calls Tryz.prog 447 #[s.v, .int .i64 id] w λe w'=>e= .returned (.int .i64 (mQ (Ce l id)))/\fM w w':=by
 obtain ⟨xs,h1,rfl⟩:=h
 unfold Ce
 rw [Ew]
 exact Mm s.A s.n s.c xs id w h1.1
theorem ta (s:Sl) (l:List jq) (id:Int) (w:World) (h:Il w s l):Calls Tryz.prog 449 #[s.v, .int .i64 id] w λe w'=>e= .returned (.int .i64 (mQ (Ey l id)))/\fM w w':=by
 obtain ⟨xs,⟨h1,_⟩,rfl⟩:=h
 unfold Ey
 rw [Ew]
 exact M4 s.A s.n s.c xs id w h1
theorem Tq {fs:Array Field} (h:Tryz.prog.underlying 56=some (.struct fs):=by exact ax):df Tryz.prog fs [(0,26),(26,1),(27,1),(28,1),(29,1),(30,1),(31,1),(32,1),(33,1),(34,1),(35,1),(36,1)]:=by
 rw [ax] at h
 cases h
 intro w
 kernel_rfl
theorem Uu {fs:Array Field} (h:Tryz.prog.underlying 50=some (.struct fs):=by exact dZ):df Tryz.prog fs [(0,1)]:=by
 rw [dZ] at h
 cases h
 intro w
 kernel_rfl
theorem Rg (f:Fl) (fa:FA) (p:Pr) (a:tz) (x:SX) (b:BX) (t:TX) (pd:List Py) (ss:List Rd) (ys:List jq) (w:World) (hpd:eG w 3 rT b.pd.A b.pd.n pd) (hss:Iq w t.s ss) (hys:Il w t.y ys) (hn:pd.length<=10000/\ss.length<=10000):
  Calls Tryz.prog 451 #[.agg (hP f fa p a x b).toArray, .agg t.cells.toArray] w λe w'=> ∃z:Option Addr×Nat,e= .returned (.slice z.1 (sV pd ss ys).length z.2)/\Mem w [ee z.1 z.2 (sV pd ss ys)] w':=by
 have hpl:=hpd.1
 have hln: ∀i,(kd pd ss ys i).length<=i*2:=dX λi=>by
  have h1:(nR pd ss ys i (pd.getD i default)).length<=1:=by unfold nR;split<;>simp
  have h2:(sW ss i (pd.getD i default)).length<=1:=by unfold sW;split<;>simp
  rw [aQ];omega
 have hlu: ∀l:List Rd,(km pd l).length<=l.length*1:=lM λr=>by split<;>simp
 obtain ⟨⟨rA,rn,rcc⟩,⟨sA,sn,sc⟩,⟨fA,fn,fc⟩,⟨yA,yn,yc⟩,th⟩:=t
 obtain ⟨settled,ev,st,rd,vs,fr,⟨pA,pn,pc⟩,rf,rl,sp,pl⟩:=b
 simp only at hpd hpl hss hys
 refine dd Tryz.func451 rfl Tryz.ntmps451 rfl ?_
 refine ak ?_
 refine R0 ?_
 refine cd (v:= .agg _) rfl rfl λb2=>?_
 refine cd (v:= .agg _) rfl rfl λb3=>?_
 refine xV (aU (v:= .slice _ _ _) (q0 rfl)) rfl rfl ?_
 refine XN ?_
 refine ad ?_
 refine ak ?_
 refine R0 ?_
 refine xV (aU (v:= .slice _ _ _) (q0 rfl)) rfl rfl ?_
 refine XN ?_
 refine ad ?_
 refine ak ?_
 refine ak ?_
 refine R0 ?_
 refine xV (az ax rfl gJ rfl (q0 rfl)) rfl rfl ?_
 refine xV (az dZ rfl eK rfl (q0 rfl)) rfl rfl ?_
 refine xV (eL kD (q0 rfl)) rfl rfl ?_
 refine xV (dw bM (q0 rfl)) rfl rfl ?_
 refine xV (ay (v:= .int _ _) (q0 rfl)) rfl rfl ?_
 refine XN ?_
 refine ad ?_
 refine cq ?_
 refine ef [5,6,7,8,9,10,17,18,19,20,21,22,23,24,25,26,27,28,29,30,31,32,33,34,35,36,37,38,39,40,41,42,43,44,45,46,47,48,49,50,51,52,53,54,55,56,57,58,59,60,61,62,63,64,65,66,67,68,69,70,71,72,73,74,75,76,77,78,79,80,81,82,83,84,85,86,87] (λq:Nat×Option Addr×Nat=>[(17, .int .i64 q.1),(5, .slice q.2.1 (kd pd ss ys q.1).length q.2.2)]) (λq=>[ee q.2.1 q.2.2 (kd pd ss ys q.1),box b3 531 (TX.cells ⟨⟨rA,rn,rcc⟩,⟨sA,sn,sc⟩,⟨fA,fn,fc⟩,⟨yA,yn,yc⟩,th⟩),box b2 56 (hP f fa p a x ⟨settled,ev,st,rd,vs,fr,⟨pA,pn,pc⟩,rf,rl,sp,pl⟩)]) (λq=>q.1<=pn) (λq=>pn -q.1) (0,none,0) ⟨rfl,rfl,trivial⟩ (λw hw=>hw.fY _ _ _ rfl) rfl (bj _) ?_
 rintro ⟨i,A,c⟩ g hi
 have hi:i<=pn:=hi
 have hlni:=hln i
 refine ak ?_
 refine R0 ?_
 refine xV (gK (q0 rfl) (q0 rfl)) rfl rfl ?_
 refine XN ?_
 refine ad ?_
 refine ak ?_
 refine bD rfl (λhlt=>?_) (λhlt=>?_)
 ·have hlt':i<pn:=by simpa using hlt
  obtain ⟨pb,off,y,rfl,hpb,hpi,hrp⟩:=hpd.at_ hlt'
  have hgi:pd.getD i default=y:=by rw [ar,hpi];rfl
  have hst:kd pd ss ys (i+1)=kd pd ss ys i++nR pd ss ys i y++sW ss i y:=by unfold kd;rw [kj,hgi,cE]
  refine bZ ?_
  refine ad ?_
  refine ak ?_
  refine cq ?_
  refine ak ?_
  refine R0 ?_
  refine xV (ay (v:= .int _ _) (q0 rfl)) rfl rfl ?_
  refine xV (cx _ bM eB (q0 rfl) (q0 rfl) (λ_=>⟨rfl,by omega⟩)) rfl rfl ?_
  refine xV (eS AZ eB (q0 rfl)) rfl rfl ?_
  refine bS js rfl λb7=>?_
  refine xV (aU (v:= .int _ _) (q0 rfl)) rfl rfl ?_
  refine dN (v:= .agg _) rfl rfl eB ?_
  refine XN ?_
  refine ad ?_
  refine ak ?_
  refine R0 ?_
  refine xV (az da rfl di rfl (q0 rfl)) rfl rfl ?_
  refine xV (eL ib (q0 rfl)) rfl rfl ?_
  refine xV (az fO rfl ae rfl (q0 rfl)) rfl rfl ?_
  refine xV (eL aj (q0 rfl)) rfl rfl ?_
  refine xC (en Ba (jn (q0 rfl) (q0 rfl))) (λ_ w hw=>sQ ⟨sA,sn,sc⟩ ss y.bn w (hss.mem hw)) rfl rfl ?_
  refine xV (CQ (q0 rfl) (q0 rfl)) rfl rfl ?_
  refine xV (aU (v:= .bool _) (q0 rfl)) rfl rfl ?_
  refine XN ?_
  refine ad ?_
  refine ak ?_
  refine R0 ?_
  refine xV (az da rfl eM rfl (q0 rfl)) rfl rfl ?_
  refine xV (eL jL (q0 rfl)) rfl rfl ?_
  refine xV (az fO rfl ae rfl (q0 rfl)) rfl rfl ?_
  refine xV (eL aj (q0 rfl)) rfl rfl ?_
  refine xC (en A9 (jn (q0 rfl) (q0 rfl))) (λ_ w hw=>ta ⟨yA,yn,yc⟩ ys y.bn w (hys.mem hw)) rfl rfl ?_
  refine xV (aU (v:= .int _ _) (q0 rfl)) rfl rfl ?_
  refine XN ?_
  refine ad ?_
  refine ak ?_
  refine ke [10,33,34,35,36,37,38,39,40,41,42,43,44,45,46,47,48,49,50,51,52,53,54,55,56,57,58,59] (λ_:Unit=>[(10, .bool ((Ce ss y.bn).isSome&&Ly ys y))]) (λ_=>[box b7 96 (rT y),ee A c (kd pd ss ys i),box b3 531 (TX.cells ⟨⟨rA,rn,rcc⟩,⟨sA,sn,sc⟩,⟨fA,fn,fc⟩,⟨yA,yn,yc⟩,th⟩),box b2 56 (hP f fa p a x ⟨settled,ev,st,rd,vs,fr,⟨some ⟨pb,off,none⟩,pn,pc⟩,rf,rl,sp,pl⟩)]) (λ_=>True) ?_ ?_
  ·cases hk:Ey ys y.bn with
   |none=>
    have hw1:Ly ys y=true:=by unfold Ly;rw [hk]
    rw [hw1]
    refine R1 rfl (by decide+kernel) ?_
    refine xV (ay (v:= .bool _) (q0 rfl)) rfl rfl ?_
    refine xV (ay (v:= .bool _) (q0 rfl)) rfl rfl ?_
    refine dJ (ay (v:= .int _ _) (q0 rfl)) rfl rfl rfl rfl ?_
    refine dJ (gK (q1 rfl) (q0 rfl)) rfl rfl rfl rfl ?_
    refine dJ (ay (v:= .bool _) (q1 rfl)) rfl rfl rfl rfl ?_
    refine iv (cO (v:= .pointer none) ((by simp [mQ]))) rfl rfl rfl rfl ?_
    refine iv (cO (v:= .slice none 0 0) ((by simp [mQ]))) rfl rfl rfl rfl ?_
    refine iv (cO (v:= .int .i64 0) ((by simp [mQ]))) rfl rfl rfl rfl ?_
    refine iv (cO (v:= .pointer none) ((by simp [mQ]))) rfl rfl rfl rfl ?_
    refine iv (cO (v:= .pointer none) ((by simp [mQ]))) rfl rfl rfl rfl ?_
    refine iv (cO (v:= .int .i64 0) ((by simp [mQ]))) rfl rfl rfl rfl ?_
    refine iv (cO (v:= .pointer none) ((by simp [mQ]))) rfl rfl rfl rfl ?_
    refine iv (cO (v:= .int .i64 0) ((by simp [mQ]))) rfl rfl rfl rfl ?_
    refine iv (cO (v:= .bool false) ((by simp [mQ]))) rfl rfl rfl rfl ?_
    refine dJ (jJ (q1 rfl) rfl (λh=>by first|rfl|(rw [h];rfl))) rfl rfl rfl rfl ?_
    refine dJ (ay (v:= .bool _) (q1 rfl)) rfl rfl rfl rfl ?_
    refine iv (cO (v:= .pointer none) ((by simp [mQ]))) rfl rfl rfl rfl ?_
    refine iv (cO (v:= .slice none 0 0) ((by simp [mQ]))) rfl rfl rfl rfl ?_
    refine iv (cO (v:= .int .i64 0) ((by simp [mQ]))) rfl rfl rfl rfl ?_
    refine iv (cO (v:= .pointer none) ((by simp [mQ]))) rfl rfl rfl rfl ?_
    refine iv (cO (v:= .pointer none) ((by simp [mQ]))) rfl rfl rfl rfl ?_
    refine iv (cO (v:= .int .i64 0) ((by simp [mQ]))) rfl rfl rfl rfl ?_
    refine iv (cO (v:= .pointer none) ((by simp [mQ]))) rfl rfl rfl rfl ?_
    refine iv (cO (v:= .int .i64 0) ((by simp [mQ]))) rfl rfl rfl rfl ?_
    refine iv (cO (v:= .bool false) ((by simp [mQ]))) rfl rfl rfl rfl ?_
    refine dJ (jJ (q1 rfl) rfl (λh=>by first|rfl|(rw [h];rfl))) rfl rfl rfl rfl ?_
    refine xV (fH (q0 rfl) rfl (λh=>by first|rfl|(rw [h];rfl))) rfl rfl ?_
    refine xV (aU (v:= .bool _) (q0 rfl)) rfl rfl ?_
    refine XN ?_
    exact aO () (by repeat (first|exact aK|exact aN|refine a8 rfl ?_|refine aJ rfl ?_|refine aD rfl ?_)) ⟨aP Value.bool (by simp [Cb,Ga,F',yK]),trivial⟩ (λw hw=>hw) rfl trivial
   |some k=>
    obtain ⟨z,hz,_⟩:=H3 hk
    have hw1:Ly ys y=(!decide (z.rider=y.rider)||!decide (z.total=y.fU)):=by unfold Ly;rw [hk];simp only;rw [ar,hz];rfl
    rw [hw1]
    obtain ⟨xs,⟨hx1,_⟩,hx2⟩:=hys
    have hkl:k<yn:=by
     have h1:=(ai.1 hz).1
     have h2:xs.length=yn:=hx1.1
     rw [<-hx2,aS] at h1
     omega
    obtain ⟨yb,yo,v,rfl,hyb,hv,hrv⟩:=hx1.at_ hkl
    have hvz:v.b=z:=by
     rw [<-hx2,cV,hv] at hz
     cases hz;rfl
    subst hvz
    refine R1 rfl (by decide+kernel) ?_
    refine xV (ay (v:= .bool _) (q0 rfl)) rfl rfl ?_
    refine xV (ay (v:= .bool _) (q0 rfl)) rfl rfl ?_
    refine dJ (ay (v:= .int _ _) (q0 rfl)) rfl rfl rfl rfl ?_
    refine dJ (gK (q1 rfl) (q0 rfl)) rfl rfl rfl rfl ?_
    refine dJ (ay (v:= .bool _) (q1 rfl)) rfl rfl rfl rfl ?_
    refine iv (az da rfl eM rfl (q0 rfl)) rfl rfl rfl rfl ?_
    refine iv (eL jL (q1 rfl)) rfl rfl rfl rfl ?_
    refine iv (ay (v:= .int _ _) (q0 rfl)) rfl rfl rfl rfl ?_
    refine iv (cx _ cj dx (q1 rfl) (q1 rfl) (λ_=>⟨rfl,by omega⟩)) rfl rfl rfl rfl ?_
    refine iv (az ct rfl ae rfl (q1 rfl)) rfl rfl rfl rfl ?_
    refine iv (eL (v:= .int .i64 v.b.rider) aj (q1 rfl) (rc hrv hyb rfl)) rfl rfl rfl rfl ?_
    refine iv (az fO rfl ae rfl (q0 rfl)) rfl rfl rfl rfl ?_
    refine iv (eL aj (q1 rfl)) rfl rfl rfl rfl ?_
    refine iv (ki (q1 rfl) (q1 rfl)) rfl rfl rfl rfl ?_
    refine dJ (jJ (q1 rfl) rfl (λh=>by first|rfl|(rw [h];rfl))) rfl rfl rfl rfl ?_
    refine dJ (ay (v:= .bool _) (q1 rfl)) rfl rfl rfl rfl ?_
    refine iv (az da rfl eM rfl (q0 rfl)) rfl rfl rfl rfl ?_
    refine iv (eL jL (q1 rfl)) rfl rfl rfl rfl ?_
    refine iv (ay (v:= .int _ _) (q0 rfl)) rfl rfl rfl rfl ?_
    refine iv (cx _ cj dx (q1 rfl) (q1 rfl) (λ_=>⟨rfl,by omega⟩)) rfl rfl rfl rfl ?_
    refine iv (az ct rfl ae rfl (q1 rfl)) rfl rfl rfl rfl ?_
    refine iv (eL (v:= .int .i64 v.b.total) aj (q1 rfl) (rc hrv hyb rfl)) rfl rfl rfl rfl ?_
    refine iv (az fO rfl ae rfl (q0 rfl)) rfl rfl rfl rfl ?_
    refine iv (eL aj (q1 rfl)) rfl rfl rfl rfl ?_
    refine iv (ki (q1 rfl) (q1 rfl)) rfl rfl rfl rfl ?_
    refine dJ (jJ (q1 rfl) rfl (λh=>by first|rfl|(rw [h];rfl))) rfl rfl rfl rfl ?_
    refine xV (fH (q0 rfl) rfl (λh=>by first|rfl|(rw [h];rfl))) rfl rfl ?_
    refine xV (aU (v:= .bool _) (q0 rfl)) rfl rfl ?_
    refine XN ?_
    exact aO () (by repeat (first|exact aK|exact aN|refine a8 rfl ?_|refine aJ rfl ?_|refine aD rfl ?_)) ⟨aP Value.bool (by simp [Cb,Ga,F',yK]),trivial⟩ (λw hw=>hw) rfl trivial
  rintro ⟨⟩ g2 _
  refine ad ?_
  refine ak ?_
  refine ak ?_
  refine R0 ?_
  refine xV (ay (v:= .bool _) (q0 rfl)) rfl rfl ?_
  refine xV (ay (v:= .bool _) (q0 rfl)) rfl rfl ?_
  refine fE (az ax rfl gJ rfl (q0 rfl)) rfl rfl rfl rfl ?_
  refine fE (az dZ rfl eK rfl (q1 rfl)) rfl rfl rfl rfl ?_
  refine fE (eL kD (q1 rfl)) rfl rfl rfl rfl ?_
  refine fE (az fO rfl ae rfl (q0 rfl)) rfl rfl rfl rfl ?_
  refine fE (eL aj (q1 rfl)) rfl rfl rfl rfl ?_
  refine AE (en Tryz.call460 (jn (q1 (v:= .slice _ _ _) rfl) (q1 (v:= .int _ _) rfl))) (λ_ w hw=>FO _ pn pc pd y.bn w (hpd.mem hw)) rfl rfl rfl rfl ?_
  refine fE (ay (v:= .int _ _) (q0 rfl)) rfl rfl rfl rfl ?_
  refine fE (gK (q1 rfl) (q1 rfl)) rfl rfl rfl rfl ?_
  refine xV (jJ (q0 rfl) rfl (λh=>by first|rfl|(rw [h];rfl))) rfl rfl ?_
  refine XN ?_
  refine ad ?_
  refine ke [5,71,72,73,74,75,76,77] (λq:Option Addr×Nat=>[(5, .slice q.1 (kd pd ss ys i++nR pd ss ys i y).length q.2)]) (λq=>[ee q.1 q.2 (kd pd ss ys i++nR pd ss ys i y),box b7 96 (rT y),box b3 531 (TX.cells ⟨⟨rA,rn,rcc⟩,⟨sA,sn,sc⟩,⟨fA,fn,fc⟩,⟨yA,yn,yc⟩,th⟩),box b2 56 (hP f fa p a x ⟨settled,ev,st,rd,vs,fr,⟨some ⟨pb,off,none⟩,pn,pc⟩,rf,rl,sp,pl⟩)]) (λ_=>True) ?_ ?_
  ·refine bD rfl (λh1=>?_) (λh1=>?_)
   ·have h1':((Ce ss y.bn).isSome&&Ly ys y||decide (mQ (Lf pd y.bn)<i))=true:=h1
    have hW:nR pd ss ys i y=[⟨6,y.bn,i⟩]:=by unfold nR;rw [aB h1']
    rw [hW]
    refine R0 ?_
    refine xV (ay (v:= .slice _ _ _) (q0 rfl)) rfl rfl ?_
    refine xV (az fO rfl ae rfl (q0 rfl)) rfl rfl ?_
    refine xV (eL aj (q0 rfl)) rfl rfl ?_
    refine xV (ay (v:= .int _ _) (q0 rfl)) rfl rfl ?_
    refine xV (bN bU rE bG (pt (v:= .int _ _) rfl (pt (v:= .int _ _) rfl (pt (v:= .int _ _) rfl E.p0))) rfl) rfl rfl ?_
    refine gN (k:=3) (i:=Tryz.t65) 1 ((⟨6,y.bn,i⟩:Fd)) bg (by kernel_rfl) rfl rfl rfl rfl cr bG rfl rfl rfl rfl rfl rfl ⟨by simp only;omega,by decide⟩ rfl rfl λB A2 c2=>?_
    refine xV (aU (v:= .slice _ _ _) (q0 rfl)) rfl rfl ?_
    refine XN ?_
    exact aO (A2,c2) (by repeat (first|exact aK|exact aN|refine a8 rfl ?_|refine aJ rfl ?_|refine aD rfl ?_)) ⟨rfl,trivial⟩ (λw hw=>hw.pick [1,0,2,3] (by decide)) rfl trivial
   have h1': ¬((Ce ss y.bn).isSome&&Ly ys y||decide (mQ (Lf pd y.bn)<i))=true:=by
    have:((Ce ss y.bn).isSome&&Ly ys y||decide (mQ (Lf pd y.bn)<i))=false:=h1
    rw [this];decide
   have hW:nR pd ss ys i y=[]:=by unfold nR;rw [an h1']
   rw [hW,bF]
   refine bZ ?_
   exact aO (A,c) (by repeat (first|exact aK|exact aN|refine a8 rfl ?_|refine aJ rfl ?_|refine aD rfl ?_)) ⟨rfl,trivial⟩ (λw hw=>hw.pick [1,0,2,3] (by decide)) rfl trivial
  rintro ⟨A2,c2⟩ g3 _
  have hlw:(nR pd ss ys i y).length<=1:=by unfold nR;split<;>simp
  refine ad ?_
  refine ak ?_
  refine R0 ?_
  refine xV (ay (v:= .bool _) (q0 rfl)) rfl rfl ?_
  refine xV (oz (q0 rfl)) rfl rfl ?_
  refine XN ?_
  refine ad ?_
  refine bD rfl (λh2=>?_) (λh2=>?_)
  ·have hE:sW ss i y=[⟨8,y.bn,i⟩]:=by
    unfold sW
    rw [an]
    have h3:=h2
    simp [Cb] at h3
    simpa using h3
   rw [hE] at hst
   refine R0 ?_
   refine xV (ay (v:= .slice _ _ _) (q0 rfl)) rfl rfl ?_
   refine xV (az fO rfl ae rfl (q0 rfl)) rfl rfl ?_
   refine xV (eL aj (q0 rfl)) rfl rfl ?_
   refine xV (ay (v:= .int _ _) (q0 rfl)) rfl rfl ?_
   refine xV (bN bU rE bG (pt (v:= .int _ _) rfl (pt (v:= .int _ _) rfl (pt (v:= .int _ _) rfl E.p0))) rfl) rfl rfl ?_
   refine gN (k:=3) (i:=Tryz.t65) 0 ((⟨8,y.bn,i⟩:Fd)) bg (by kernel_rfl) rfl rfl rfl rfl cr bG rfl rfl rfl rfl rfl rfl ⟨by simp only [aQ];omega,by decide⟩ rfl rfl λB A3 c3=>?_
   refine xV (aU (v:= .slice _ _ _) (q0 rfl)) rfl rfl ?_
   refine XN ?_
   refine bc ?_
   refine ad ?_
   refine R0 ?_
   refine xV (eT (q0 rfl) (q0 rfl) (λ_=>⟨rfl,by omega,by omega⟩)) rfl rfl ?_
   refine xV (ay (v:= .int _ _) (q0 rfl)) rfl rfl ?_
   refine XN ?_
   exact aH (i+1,A3,c3) (by repeat (first|exact aK|exact aN|refine a8 rfl ?_|refine aJ rfl ?_|refine aD rfl ?_)) ⟨rfl,by show Value.slice A3 ((kd pd ss ys i++nR pd ss ys i y)++[(⟨8,y.bn,i⟩:Fd)]).length c3=Value.slice A3 (kd pd ss ys (i+1)).length c3;rw [hst],trivial⟩ (λw hw=>by
    show Mem _ [ee A3 c3 (kd pd ss ys (i+1)),_,_] w
    rw [hst]
    exact hw.pick [0,2,3] (by decide)) rfl hlt' (by show pn -(i+1)<pn -i;omega)
  have hE:sW ss i y=[]:=by
   unfold sW
   rw [aB]
   have h3:=h2
   simp [Cb] at h3
   simpa using h3
  rw [hE,bF] at hst
  refine bZ ?_
  refine bc ?_
  refine ad ?_
  refine R0 ?_
  refine xV (eT (q0 rfl) (q0 rfl) (λ_=>⟨rfl,by omega,by omega⟩)) rfl rfl ?_
  refine xV (ay (v:= .int _ _) (q0 rfl)) rfl rfl ?_
  refine XN ?_
  exact aH (i+1,A2,c2) (by repeat (first|exact aK|exact aN|refine a8 rfl ?_|refine aJ rfl ?_|refine aD rfl ?_)) ⟨rfl,by show Value.slice A2 (kd pd ss ys i++nR pd ss ys i y).length c2=Value.slice A2 (kd pd ss ys (i+1)).length c2;rw [hst],trivial⟩ (λw hw=>by
   show Mem _ [ee A2 c2 (kd pd ss ys (i+1)),_,_] w
   rw [hst]
   exact hw.pick [0,2,3] (by decide)) rfl hlt' (by show pn -(i+1)<pn -i;omega)
 have hie:i=pn:=by simp at hlt;omega
 subst hie
 have hsn:sn=ss.length:=hss.len
 obtain ⟨xs,hxs,hxr⟩:=hss
 have hpe:sV pd ss ys=kd pd ss ys i++km pd ss:=by unfold sV;rw [hpl]
 refine fz ?_
 refine cJ ?_
 refine cM ?_
 refine cK ?_
 refine ad ?_
 refine ak ?_
 refine ak ?_
 refine R0 ?_
 refine xV (az da rfl di rfl (q0 rfl)) rfl rfl ?_
 refine xV (eL ib (q0 rfl)) rfl rfl ?_
 refine xV (dw aT (q0 rfl)) rfl rfl ?_
 refine xV (ay (v:= .int _ _) (q0 rfl)) rfl rfl ?_
 refine XN ?_
 refine ad ?_
 refine cq ?_
 refine ef [5,12,91,92,93,94,95,96,97,98,99,100,101,102,103,104,105,106,107,108] (λq:Nat×Option Addr×Nat=>[(91, .int .i64 q.1),(5, .slice q.2.1 (kd pd ss ys i++km pd (ss.take q.1)).length q.2.2)]) (λq=>[ee q.2.1 q.2.2 (kd pd ss ys i++km pd (ss.take q.1)),box b3 531 (TX.cells ⟨⟨rA,rn,rcc⟩,⟨sA,sn,sc⟩,⟨fA,fn,fc⟩,⟨yA,yn,yc⟩,th⟩),box b2 56 (hP f fa p a x ⟨settled,ev,st,rd,vs,fr,⟨pA,i,pc⟩,rf,rl,sp,pl⟩)]) (λq=>q.1<=sn) (λq=>sn -q.1) (0,A,c) ⟨rfl,by rw [uu];show _=Value.slice A (kd pd ss ys i++[]).length c;rw [bF];rfl,trivial⟩ (λw hw=>by
  show Mem _ [ee A c (kd pd ss ys i++[]),_,_] w
  rw [bF];exact hw) rfl (bj _) ?_
 rintro ⟨j,A2,c2⟩ g3 hj
 have hj:j<=sn:=hj
 have hlj:=hlu (ss.take j)
 rw [dG] at hlj
 refine ak ?_
 refine R0 ?_
 refine xV (gK (q0 rfl) (q0 rfl)) rfl rfl ?_
 refine XN ?_
 refine ad ?_
 refine ak ?_
 refine bD rfl (λhlt2=>?_) (λhlt2=>?_)
 ·have hlt3:j<sn:=by simpa using hlt2
  obtain ⟨rb,ro,v,rfl,hrb,hv,hrv⟩:=hxs.1.at_ hlt3
  have hvr:ss[j]?=some v.r:=by rw [<-hxr,cV,hv];rfl
  have hst:km pd (ss.take (j+1))=km pd (ss.take j)++(if (Lf pd v.r.id).isSome=true then [] else [⟨7,v.r.id,0⟩]):=by unfold km;rw [vi _ hvr]
  refine bZ ?_
  refine ad ?_
  refine ak ?_
  refine cq ?_
  refine ak ?_
  refine R0 ?_
  refine xV (cx _ aT ba (q0 rfl) (q0 rfl) (λ_=>⟨rfl,by omega⟩)) rfl rfl ?_
  refine xV (eS fT ba (q0 rfl)) rfl rfl ?_
  refine bS dp rfl λb12=>?_
  refine dN (v:= .agg _) rfl rfl ba ?_
  refine XN ?_
  refine ad ?_
  refine ak ?_
  refine R0 ?_
  refine xV (az ax rfl gJ rfl (q0 rfl)) rfl rfl ?_
  refine xV (az dZ rfl eK rfl (q0 rfl)) rfl rfl ?_
  refine xV (eL kD (q0 rfl)) rfl rfl ?_
  refine xV (az bE rfl ae rfl (q0 rfl)) rfl rfl ?_
  refine xV (eL aj (q0 rfl)) rfl rfl ?_
  refine xC (en Tryz.call460 (jn (q0 rfl) (q0 rfl))) (λ_ w hw=>FO _ i pc pd v.r.id w (hpd.mem hw)) rfl rfl ?_
  refine xV (gK (q0 rfl) (q0 rfl)) rfl rfl ?_
  refine XN ?_
  refine ad ?_
  refine bD rfl (λh4=>?_) (λh4=>?_)
  ·have h4': ¬(Lf pd v.r.id).isSome=true:=by
    have h5:decide (mQ (Lf pd v.r.id)<0)=true:=h4
    rw [vv] at h5
    simpa using h5
   rw [an h4',] at hst
   refine R0 ?_
   refine xV (ay (v:= .slice _ _ _) (q0 rfl)) rfl rfl ?_
   refine xV (az bE rfl ae rfl (q0 rfl)) rfl rfl ?_
   refine xV (eL aj (q0 rfl)) rfl rfl ?_
   refine xV (bN bU rE bG (pt (v:= .int _ _) rfl (pt (v:= .int _ _) rfl E.p0)) rfl) rfl rfl ?_
   refine gN (k:=3) (i:=Tryz.t65) 1 ((⟨7,v.r.id,0⟩:Fd)) bg (by kernel_rfl) rfl rfl rfl rfl cr bG rfl rfl rfl rfl rfl rfl ⟨by simp only [aQ];omega,by decide⟩ rfl rfl λB A3 c3=>?_
   refine xV (aU (v:= .slice _ _ _) (q0 rfl)) rfl rfl ?_
   refine XN ?_
   refine bc ?_
   refine ad ?_
   refine R0 ?_
   refine xV (eT (q0 rfl) (q0 rfl) (λ_=>⟨rfl,by omega,by omega⟩)) rfl rfl ?_
   refine xV (ay (v:= .int _ _) (q0 rfl)) rfl rfl ?_
   refine XN ?_
   exact aH (j+1,A3,c3) (by repeat (first|exact aK|exact aN|refine a8 rfl ?_|refine aJ rfl ?_|refine aD rfl ?_)) ⟨rfl,by show Value.slice A3 (kd pd ss ys i++km pd (ss.take j)++[(⟨7,v.r.id,0⟩:Fd)]).length c3=Value.slice A3 (kd pd ss ys i++km pd (ss.take (j+1))).length c3;rw [hst,cE],trivial⟩ (λw hw=>by
    show Mem _ [ee A3 c3 (kd pd ss ys i++km pd (ss.take (j+1))),_,_] w
    rw [hst,<-cE]
    exact hw.pick [1,2,3] (by decide)) rfl hlt3 (by show sn -(j+1)<sn -j;omega)
  have h4':(Lf pd v.r.id).isSome=true:=by
   have h5:decide (mQ (Lf pd v.r.id)<0)=false:=h4
   rw [vv] at h5
   simpa using h5
  rw [aB h4',bF] at hst
  refine bZ ?_
  refine bc ?_
  refine ad ?_
  refine R0 ?_
  refine xV (eT (q0 rfl) (q0 rfl) (λ_=>⟨rfl,by omega,by omega⟩)) rfl rfl ?_
  refine xV (ay (v:= .int _ _) (q0 rfl)) rfl rfl ?_
  refine XN ?_
  exact aH (j+1,A2,c2) (by repeat (first|exact aK|exact aN|refine a8 rfl ?_|refine aJ rfl ?_|refine aD rfl ?_)) ⟨rfl,by show Value.slice A2 (kd pd ss ys i++km pd (ss.take j)).length c2=Value.slice A2 (kd pd ss ys i++km pd (ss.take (j+1))).length c2;rw [hst],trivial⟩ (λw hw=>by
   show Mem _ [ee A2 c2 (kd pd ss ys i++km pd (ss.take (j+1))),_,_] w
   rw [hst]
   exact hw.pick [1,2,3] (by decide)) rfl hlt3 (by show sn -(j+1)<sn -j;omega)
 have hje:j=ss.length:=by simp at hlt2;omega
 rw [hje,dQ,<-hpe]
 refine fz ?_
 refine cJ ?_
 refine cM ?_
 refine cK ?_
 refine ad ?_
 refine ak ?_
 refine R0 ?_
 refine xV (ay (v:= .slice _ _ _) (q0 rfl)) rfl rfl ?_
 refine xV (aU (v:= .slice _ _ _) (q0 rfl)) rfl rfl ?_
 refine XN ?_
 refine ad ?_
 refine dq ?_
 exact cu (v:= .slice _ _ _) rfl rfl rfl λw' hw=>⟨(A2,c2),rfl,hw.pick [0] (by decide)⟩
end Go.Proofs.Aud
namespace Go.Proofs.Net
open Go.Proofs.Cus Go.Proofs.Rid
theorem AQ {M:Int} (h0:0<=M) {l:List Rd} (h: ∀r∈l,r.pl<=M) (k:Nat):(l.getD k default).pl<=M:=by
 rw [ar]
 cases hk:l[k]? with
 |none=>exact h0
 |some r=>exact h r (aq hk)
theorem Bq {M:Int} {l:List Rd} (h: ∀r∈l,r.pl<=M) {k:Nat} {q:Rd} (hq:q.pl<=M): ∀r∈l.set k q,r.pl<=M:=λr hr=>by
 rcases fF hr with hr|rfl
 ·exact h r hr
 exact hq
theorem By (p:Bool) (w:yd) (r:Rd):(iG p w r).pl=r.pl:=by unfold iG;split<;>rfl
theorem yS {M:Int} (h0:0<=M) {s:SY} (h: ∀r∈s.dH,r.pl<=M) (b:Nat) (at_:Sp) (ha:at_.place<=M) (w:yd): ∀r∈(jm s b at_ w).dH,r.pl<=M:=by
 unfold jm
 split
 ·exact h
 exact Bq (Bq h (by rw [By];exact AQ h0 h _)) ha
theorem LZ {M:Int} (h0:0<=M) {s:SY} {e:Ev} (h: ∀r∈s.dH,r.pl<=M) (he:e.place<=M): ∀r∈(gR s e).dH,r.pl<=M:=by
 unfold gR
 simp only
 split
 ·intro r hr
  unfold oC at hr
  rcases bO.1 hr with hr|hr
  ·exact h r hr
  rw [cm.1 hr];exact h0
 split
 ·unfold kL
  split
  ·exact h
  exact Bq h (AQ h0 h _)
 split
 ·split
  ·exact Bq h (AQ h0 h _)
  exact h
 split
 ·split
  ·unfold k7;exact Bq h (by rw [By];exact AQ h0 h _)
  exact h
 split
 ·exact yS h0 h _ _ he _
 split
 ·exact yS h0 h _ _ he _
 split
 ·exact yS h0 h _ _ h0 _
 exact h
theorem Fi {M:Int} (h0:0<=M): ∀(l:List Ev) {s:SY},(∀r∈s.dH,r.pl<=M)->(∀e∈l,e.place<=M)-> ∀r∈(l.foldl gR s).dH,r.pl<=M
 |[],_,h,_=>h
 |e::l,_,h,he=>by
  rw [eh]
  exact Fi h0 l (LZ h0 h (he e (by simp))) λx hx=>he x (by simp [hx])
theorem TD {f:Fl} {e:Ev} (h:jo f e=0):0<=e.place/\e.place<=100000:=by
 have hok:=(pX h).1
 have hd:f.iX.length<=32/\f.cI.length<=8:=by
  unfold fy at hok
  split at hok
  ·cases hok
  split at hok
  ·cases hok
  omega
 unfold jo at h
 split at h
 ·rename_i h1;exact absurd h h1
 split at h
 ·cases h
 split at h
 ·cases h
 split at h
 ·cases h
 split at h
 ·cases h
 rename_i _ _ _ _ hp
 have hp:p' f e=true:=by simpa using hp
 unfold p' at hp
 split at hp
 ·simp at hp
  have:=T4 (b:=32) hp.1.1
  omega
 split at hp
 ·simp [within] at hp;omega
 split at hp
 ·simp [within] at hp;omega
 simp at hp;omega
theorem Dx {f:Fl} (hok:fy f=0) {xs:List Ev} (hn:xs.length<=100000): ∀r∈dP f xs,(r.db.length<=100000/\r.bV.length<=100000)/\r.pl<=9223372036854775807:=λr hr=>by
 unfold dP at hr
 rw [aB hok] at hr
 have hr:r∈(nw f xs).dH:=(tl _).mem_iff.1 hr
 have h1:=(Ca hok xs).wf.db r hr
 have h2:=tp f xs
 have h3:=Fi (M:=9223372036854775807) (by decide) (kR f xs) (s:=iq (i6 f)) (λr hr=>by simp [iq] at hr) (λe he=>by
  obtain ⟨hrp,_⟩:=sR hok xs (λ_=>())
  obtain ⟨k,hk⟩:=cG.1 he
  have:=TD (hrp.at_ (g:=λ_=>()) hk).1
  omega) r hr
 exact ⟨by omega,h3⟩
end Go.Proofs.Net
namespace Go.Proofs.Far
open Go.Proofs.Cus Go.Proofs.Rid
theorem NP{f p rs vs}(h:jw f p rs vs=0):gS f p=0/\ot rs=0/\Pen.r9 vs=0/\ ∃B:List jq,FS p ((oB rs).zip (wg p (oB rs))) (oB rs).length=some B/\K7 (oB rs) B/\
  (∀c∈(B.zip (qa p (oB rs) B)).map (λx=>uV p vs x.1 (x.2 -x.1.total)),c.total<=1000000000000)/\sg f p rs vs=tW ((B.zip (qa p (oB rs) B)).map λx=>uV p vs x.1 (x.2 -x.1.total)):=by
 have h1:gS f p=0:=by
  apply gU;intro hn;unfold jw at h;rw [aB hn] at h;exact hn h
 have h2:ot rs=0:=by
  apply gU;intro hn;unfold jw at h;rw [an (by omega),aB hn] at h;exact hn h
 have h3:Pen.r9 vs=0:=by
  apply gU;intro hn;unfold jw at h;rw [an (by omega),an (by omega),aB hn] at h;exact hn h
 have h4:zl p rs vs≠none:=by
  intro hn;unfold jw at h;rw [an (by omega),an (by omega),an (by omega),aB hn] at h;cases h
 have hg:=Du (zN h2);refine ⟨h1,h2,h3,?_⟩;have hR:sg f p rs vs=(zl p rs vs).getD []:=by unfold sg;rw [an (by omega)]
 rw [hR];unfold zl at h4|-;have hzl:((oB rs).zip (wg p (oB rs))).length=(oB rs).length:=by rw [xg,yv];omega
 cases hfs:zY p ((oB rs).zip (wg p (oB rs))) with
 |none=>rw [hfs] at h4;exact absurd rfl h4
 |some B=>
  rw [hfs] at h4;simp only at h4|-;cases hfn:wz p vs (B.zip (qa p (oB rs) B)) with
  |none=>rw [hfn] at h4;exact absurd rfl h4
  |some C=>
   have hFS:FS p ((oB rs).zip (wg p (oB rs))) (oB rs).length=some B:=by rw [NZ (by omega)];exact hfs
   have hrich:=IN h1 hg (yv p _) hFS;have hFN:FN p vs (B.zip (qa p (oB rs) B)) (B.zip (qa p (oB rs) B)).length=some C:=by rw [N0 (bA _)];exact hfn
   have hC:=ye (bA _) hFN;rw [dQ] at hC;have hle:=Qv (bA _) hFN;refine ⟨B,hFS,hrich,?_,?_⟩
   ·rw [<-hC];exact hle
   rw [<-hC];rfl
theorem Ai(C):(tW C).Perm C:=lE _ _
theorem vJ{f p rs vs}(h:jw f p rs vs=0):((sg f p rs vs).map (·.bn)).Perm ((rs.filter λr=>!r.open_).map (·.id)):=by
 obtain ⟨h1,h2,h3,B,hFS,hrich,_,hall⟩:=NP h;rw [hall];refine ((Ai _).map _).trans ?_;rw [Dq (by rw [BR hrich.len];exact bA _),FB hrich];exact (qI rs).map _
end Go.Proofs.Far
namespace Go.Proofs.E
open Go Go.RowKit
structure DA (it:Item) (φ:World->Prop):Prop where
 due:it.due=[]
 ok: ∀w,it.A w->φ w
theorem DA.row{α e k}{enc:α->List Value}{A c xs}(he: ∀x,(enc x).length=k)(hl:xs.length<=9223372036854775807):DA (dS e k enc A c xs) λw=>eG w k enc A xs.length xs:=
 ⟨rfl,λw hA=>by
  have hA:w.ownsRow 0 e k (.slice A xs.length c) xs.length (xs.flatMap enc):=hA;refine ⟨rfl,hl,λhn=>?_⟩;rcases hA.2 with ⟨_,h0⟩|⟨g,cap,cur,hv,h1,h2,h3,h4,h5,h6⟩
  ·omega
  simp only [Value.slice.injEq] at hv;obtain ⟨rfl,_,rfl⟩:=hv;refine ⟨g,0,rfl,(fV.1 h2).1,λi x hx r u hu=>?_⟩;have:=hA.cells (g:=g) rfl (i*k+r) u (rD he xs i x hx r u hu);rw [rM rfl] at this;simpa using this⟩
def KR {α:Type} (R:List Item) (φ:α->World->Prop) (s:α):Prop:= ∃it∈R,DA it (φ s)
theorem KR.more{α R}{φ:α->World->Prop}{s}(h:KR R φ s)(it):KR (it::R) φ s:=by
 grind [KR]
structure CH {α:Type} (S:Nat->Prop) (ca st:Nat) (val:α->Value) (v:Value) (R:List Item) (φ:α->World->Prop) (start s:α):Prop where
 a: ¬S st->s=start
 b:S ca-> ∃z:α,v=val z/\KR R φ z
 c:S st->KR R φ s
section
variable {α:Type} {S:Nat->Prop} {ca st i:Nat} {val:α->Value} {v:Value} {R:List Item} {φ:α->World->Prop} {start s z:α}
theorem CH.Ep (h:CH S ca st val v R φ start s) (h1:ca≠i) (h2:st≠i):CH (λj=>S j\/j=i) ca st val v R φ start s:=
 ⟨λhn=>h.a λhs=>hn (.inl hs),λhs=>h.b (hs.resolve_right h1),λhs=>h.c (hs.resolve_right h2)⟩
theorem CH.more(h:CH S ca st val v R φ start s)(it):CH S ca st val v (it::R) φ start s:=
 ⟨h.a,λhs=>by obtain ⟨z,hz,hk⟩:=h.b hs;exact ⟨z,hz,hk.more it⟩,λhs=>(h.c hs).more it⟩
theorem CH.call(h:CH S ca st val v R φ start s)(h2:st≠ca){it}(hk:DA it (φ z)):CH (λj=>S j\/j=ca) ca st val (val z) (it::R) φ start s:=
 ⟨λhn=>h.a λhs=>hn (.inl hs),λ_=>⟨z,rfl,it,dV ..,hk⟩,λhs=>(h.c (hs.resolve_right h2)).more it⟩
theorem CH.store (h:CH S ca st val v R φ start s) (hc:S ca): ∃z,v=val z/\CH (λj=>S j\/j=st) ca st val v R φ start z:=by
 obtain ⟨z,hz,hk⟩:=h.b hc
 exact ⟨z,hz,λhn=>absurd (.inr rfl) hn,λ_=>⟨z,hz,hk⟩,λ_=>hk⟩
end
end Go.Proofs.E
namespace Go.Proofs.Aud
open Go Go.RowKit Go.Proofs.E Go.Proofs.Cus Go.Proofs.Rid Go.Proofs.Far Go.Proofs.Net
theorem BG {f:Fl} {p:Pr} (h:gS f p=0):fy f=0:=by
 refine gU λhn=>?_
 unfold gS at h
 rw [aB hn] at h
 exact hn h
def jA (dv:Int) (l:List Ev) (es:List Ev):List Ev:=es.foldl (λl e=>(kW dv l e).1) l
def oQ (f:Fl) (cX:List Ev):Int:=Ez f.bH (jA f.bH [] cX)
def yF (f:Fl) (p:Pr) (vs:List Pen.V) (l:List Rd):List jq:=if jw f p l vs=0 then sg f p l vs else []
theorem K5 (dv:Int) (l:List Ev) (e:Ev):(kW dv l e).1.length<=l.length+1:=by
 unfold kW
 split
 ·exact lD _
 split
 ·exact lD _
 split
 ·split<;>exact lD _
 split
 ·exact lD _
 split
 ·exact lD _
 simp
theorem zm (dv:Int): ∀(es:List Ev) (l:List Ev),(jA dv l es).length<=l.length+es.length
 |[],_=>bA _
 |e::es,l=>by
  have h:=zm dv es (kW dv l e).1
  have h2:=K5 dv l e
  show (jA dv (kW dv l e).1 es).length<=_
  simp only [cL]
  omega
theorem JB (dv:Int) (l:List Ev):jA dv l []=l:=rfl
theorem tZ (dv:Int) (l es:List Ev) (e:Ev):jA dv l (es++[e])=(kW dv (jA dv l es) e).1:=by unfold jA;rw [fX];rfl
theorem Tw {fs:Array Field} (h:Tryz.prog.underlying 219=some (.struct fs):=by exact E1):df Tryz.prog fs [(0,1),(1,1)]:=by
 rw [E1] at h
 cases h
 intro w
 kernel_rfl
theorem I8 (dv:Int) (h1:1<=dv) (h2:dv<=256) (w:World):Calls Tryz.prog 46 #[.int .i64 dv] w λe w'=> ∃x:Nat×Nat,e= .returned (.tuple #[.pointer (some ⟨x.1,0,none⟩), .int .i64 0])/\Mem w (N6 x.1 x.2 dv []) w':=by
 refine dd Tryz.func46 rfl Tryz.ntmps46 rfl ?_
 refine ak ?_
 refine R0 ?_
 refine xV (aU (v:= .pointer _) (q0 rfl)) rfl rfl ?_
 refine xV (aU (v:= .int _ _) (q0 rfl)) rfl rfl ?_
 refine XN ?_
 refine ad ?_
 refine ak ?_
 refine ak ?_
 refine R0 ?_
 refine xV (ay (v:= .int _ _) (q0 rfl)) rfl rfl ?_
 refine xV (gK (q0 rfl) (q0 rfl)) rfl rfl ?_
 refine xV (ay (v:= .bool _) (q0 rfl)) rfl rfl ?_
 refine fE (ay (v:= .int _ _) (q0 rfl)) rfl rfl rfl rfl ?_
 refine fE (uY (q1 rfl) (q0 rfl)) rfl rfl rfl rfl ?_
 refine xV (jJ (q0 rfl) rfl (λh=>by first|rfl|(rw [h];rfl))) rfl rfl ?_
 refine XN ?_
 refine ad ?_
 refine bD rfl (λhb=>?_) (λhb=>?_)
 ·exfalso;simp at hb;omega
 refine bZ ?_
 refine ad ?_
 refine ak ?_
 refine R0 ?_
 refine xV (ay (v:= .int _ _) (q0 rfl)) rfl rfl ?_
 refine cQ (tS rfl λbm=>?_)
 refine xV (bN E1 Tw Tryz.zeroValue219 (pt (v:= .int _ _) rfl (pt (v:= .map _) rfl E.p0)) rfl) rfl rfl ?_
 refine cd (v:= .agg _) rfl rfl λb13=>?_
 refine xV (aU (v:= .pointer _) (q0 rfl)) rfl rfl ?_
 refine xV (aU (v:= .int _ _) (q0 rfl)) rfl rfl ?_
 refine XN ?_
 refine ad ?_
 refine dq ?_
 exact jr (v:= .pointer _) (x:= .int _ _) rfl rfl rfl rfl λw' hw=>⟨(b13,bm),rfl,hw.pick [0,1] (by decide)⟩
theorem MV {r m:Nat} {dv:Int} {l:List Ev} (w:World) (h1:(box r 219 [.int .i64 dv, .map (some m)]).A w) (h2:(mT m (Ec l)).A w) (hd:1<=dv/\dv<=256) (hl:l.length<=10000):
  Calls Tryz.prog 48 #[.pointer (some ⟨r,0,none⟩)] w λq w'=>q= .returned (.int .i64 (Ez dv l))/\fM w w':=by
 obtain ⟨n,rfl⟩:=kU (show 0<=dv by omega)
 exact Ti w h1 h2 (by omega) hl
theorem IP {w0 w:World} {L:List E.Item} {l:List Rd} (y:ES l) (hw:Mem w0 L w) (j k:Nat) (hj:L[j]?=some (eI y.1.1 y.1.2.1 y.1.2.2)) (hk:L[k]?=some (kc y.1.2.2)) (hn:l.length<=100000) (hl: ∀r∈l,r.db.length<=100000/\r.bV.length<=100000):lZ w y.1.1 y.1.2.2.length y.1.2.2:=by
 obtain ⟨⟨A,c,xs⟩,hy⟩:=y
 simp only at hj hk
 have hyl:xs.length=l.length:=by rw [<-hy];simp
 exact yH hw hj hk (by simp only;omega) λx hx=>hl x.r (by rw [<-hy];exact jX hx)
theorem ku {α:Type} {e:TypeId} {k c:Nat} {enc:α->List Value} {A:Option Addr} {xs:List α} {R:List E.Item} {u:World} (h: ∀it∈R,it.A u) (i:Nat) (hR:R[i]?=some (dS e k enc A c xs)) (he: ∀x,(enc x).length=k) (hl:xs.length<=9223372036854775807):eG u k enc A xs.length xs:=(DA.row he hl).ok u (h _ (aq hR))
theorem RQ {u:World} {xs:List Rid.RX} (h:(kc xs).A u) (hl: ∀x∈xs,x.r.db.length<=100000/\x.r.bV.length<=100000) {x:Rid.RX} (hx:x∈xs):tq u x:=by
 have h2: ∀it∈xs.flatMap jV,it.A u:=h.1
 have:=hl x hx
 have ha: ∀it∈jV x,it.A u:=λit hi=>h2 it (iY.2 ⟨x,hx,hi⟩)
 exact ⟨ku ha 0 rfl (λ_=>rfl) (by omega),ku ha 1 rfl (λ_=>rfl) (by omega)⟩
theorem NL {u:World} {xs:List FX} (h:(jK (xs.flatMap jD)).A u) (hl: ∀x∈xs,x.b.items.length<=9223372036854775807) {x:FX} (hx:x∈xs):eG u 3 CE.cells x.A x.b.items.length x.b.items:=by
 have h2: ∀it∈xs.flatMap jD,it.A u:=h.1
 have ha: ∀it∈jD x,it.A u:=λit hi=>h2 it (iY.2 ⟨x,hx,hi⟩)
 exact ku ha 0 rfl (λ_=>rfl) (hl x hx)
theorem IK {u:World} {R:List E.Item} {A:Option Addr} {c:Nat} {xs:List RX} (h: ∀it∈R,it.A u) (j k:Nat) (hj:R[j]?=some (eI A c xs)) (hk:R[k]?=some (kc xs)) (hn:xs.length<=100000) (hl: ∀x∈xs,x.r.db.length<=100000/\x.r.bV.length<=100000):lZ u A xs.length xs:=
 ⟨ku h j hj (λ_=>rfl) (by omega),λx hxm=>RQ (h _ (aq hk)) hl hxm⟩
theorem Cz {f:Fl} {p:Pr} {rs:List Rd} {vs:List Pen.V} (h:jw f p rs vs=0): ∀c∈sg f p rs vs,c.items.length<=10:=λc hc=>by
 obtain ⟨_,_,_,B,_,hr,_,hall⟩:=NP h
 rw [hall] at hc
 obtain ⟨x,hx,rfl⟩:=cW.1 ((Ai _).mem_iff.1 hc)
 obtain ⟨i,hi⟩:=cG.1 (List.of_mem_zip hx).1
 have hil:=(ai.1 hi).1
 obtain ⟨r,hri⟩: ∃r,(oB rs)[i]?=some r:=⟨_,ah (by rw [hr.len];exact hil)⟩
 have h5:=(hr.bn i x.1 r hi hri).2.2.1
 unfold uV
 split
 ·have:=kQ x.1 6 0 (x.2 -x.1.total)
  omega
 refine gL (kQ ..) ?_
 have:=kQ x.1 6 0 (x.2 -x.1.total)
 omega
structure TY where
 t:TX
 rs:List RX
 ss:List RX
 fs:List RX
 ys:List FX
structure Vt (F:Fl) (p:Pr) (cX:List Ev) (vs:List Pen.V) (t:Int) (z:TY):Prop where
 r:z.rs.map (·.r)=dP F cX
 s:z.ss.map (·.r)=(dP F cX).filter (dF t)
 fin:z.fs.map (·.r)=(dP F cX).filter (dF (oQ F cX))
 y:z.ys.map (·.b)=yF F p vs ((dP F cX).filter (dF t))
 h:z.t.h=oQ F cX
structure T2 (u:World) (z:TY):Prop where
 r:lZ u z.t.r.A z.t.r.n z.rs
 s:lZ u z.t.s.A z.t.s.n z.ss
 fin:lZ u z.t.f.A z.t.f.n z.fs
 y:eG u 4 FX.cells z.t.y.A z.t.y.n z.ys/\ ∀x∈z.ys,eG u 3 CE.cells x.A x.b.items.length x.b.items
abbrev TrO (f:Fl) (p:Pr) (cX:List Ev) (vs:List Pen.V) (t:Int):Type:={z:TY×List E.Item//Vt f p cX vs t z.1/\ ∀u,(∀it∈z.2,it.A u)->T2 u z.1}
attribute [local irreducible] dP dF oQ jw sg jA
theorem Gy (f:Fl) (fa:FA) (p:Pr) (a:tz) (x:SX) (b:BX) (cX:List Ev) (vs:List Pen.V) (w:World) (hf:mE w f fa) (hp:qh w p a) (hev:rO w b.ev.A b.ev.n cX) (hvs:Pen.zw w b.vs.A b.vs.n vs) (h0:gS f p=0) (hn:cX.length<=40) (hpl:zz cX):
  Calls Tryz.prog 446 #[.agg (hP f fa p a x b).toArray] w λe w'=> ∃z:TrO f p cX vs b.settled,e= .returned (.agg z.1.1.t.cells.toArray)/\Mem w [jK z.1.2] w':=by
 have hok:=BG h0
 have hdv:1<=f.bH/\f.bH<=256:=by have:=kq hok;omega
 have hsh:=Dx hok (xs:=cX) (by omega)
 have hal:2*(dP f cX).length<=cX.length:=vI cX
 have hst:=yB hok cX
 have hac:=tp f cX
 have hps: ∀t,((dP f cX).filter (dF t)).length<=100000:=λt=>by have:=dK (dF t) (dP f cX);omega
 have hpf: ∀t,∀r∈(dP f cX).filter (dF t),(r.db.length<=100000/\r.bV.length<=100000)/\r.pl<=9223372036854775807:=λt r hr=>hsh r (gO.1 hr).1
 obtain ⟨settled,⟨eA,en_,ec⟩,st,rd,⟨vA,vn,vc⟩,fr,pd,rf,rl,sp,pl⟩:=b
 simp only at hev hvs|-
 have hel:=hev.1
 refine dd Tryz.func446 rfl Tryz.ntmps446 rfl ?_
 refine ak ?_
 refine R0 ?_
 refine cd (v:= .agg _) rfl rfl λb1=>?_
 refine bS w9 rfl λb2=>?_
 refine XN ?_
 refine ad ?_
 refine ak ?_
 refine R0 ?_
 refine bS w9 rfl λb3=>?_
 refine XN ?_
 refine ad ?_
 refine ak ?_
 refine R0 ?_
 refine xV (az ax rfl eX rfl (q0 rfl)) rfl rfl ?_
 refine xV (az bh rfl cN rfl (q0 rfl)) rfl rfl ?_
 refine xV (eP iB cN (q0 rfl)) rfl rfl ?_
 refine bS JL rfl λb4=>?_
 refine dN (v:= .agg _) rfl rfl cN ?_
 refine XN ?_
 refine ad ?_
 refine ak ?_
 refine ak ?_
 refine R0 ?_
 refine xV (az dI rfl ae rfl (q0 rfl)) rfl rfl ?_
 refine xV (eL aj (q0 rfl)) rfl rfl ?_
 refine oD (en Ub (iQ (q0 rfl))) (λw _=>I8 f.bH hdv.1 hdv.2 w) rfl (λ_=>rfl) λr=>?_
 obtain ⟨r,m⟩:=r
 refine xV (ay (q0 rfl)) rfl rfl ?_
 refine xV (iW (q0 rfl) rfl) rfl rfl ?_
 refine xV (iW (q0 rfl) rfl) rfl rfl ?_
 refine xV (aU (v:= .pointer _) (q0 rfl)) rfl rfl ?_
 refine xV (aU (v:= .int _ _) (q0 rfl)) rfl rfl ?_
 refine XN ?_
 refine ad ?_
 refine ak ?_
 refine R0 ?_
 refine xV (ay (v:= .int _ _) (q0 rfl)) rfl rfl ?_
 refine xV (jE (q0 rfl) (q0 rfl)) rfl rfl ?_
 refine XN ?_
 refine ad ?_
 refine ke [8,24,25,26,27,28,29,30,31,32,33,34,35,36,37] (λ_:Unit=>[]) (λ_=>[box b3 531 (TX.cells ⟨⟨none,0,0⟩,⟨none,0,0⟩,⟨none,0,0⟩,⟨none,0,0⟩,oQ f cX⟩),box b4 24 (f.cells fa),box b2 531 (TX.cells ⟨⟨none,0,0⟩,⟨none,0,0⟩,⟨none,0,0⟩,⟨none,0,0⟩,0⟩),box b1 56 (hP f fa p a x ⟨settled,⟨eA,en_,ec⟩,st,rd,⟨vA,vn,vc⟩,fr,pd,rf,rl,sp,pl⟩)]) (λ_=>True) ?_ ?_
 ·refine bD rfl (λh1=>?_) (λh1=>?_)
  ·refine ak ?_
   refine ak ?_
   refine R0 ?_
   refine xV (az ax rfl iN rfl (q0 rfl)) rfl rfl ?_
   refine xV (eL qo (q0 rfl)) rfl rfl ?_
   refine xV (dw cY (q0 rfl)) rfl rfl ?_
   refine xV (ay (v:= .int _ _) (q0 rfl)) rfl rfl ?_
   refine XN ?_
   refine ad ?_
   refine cq ?_
   refine ef [8,27,28,29,30,31,32,33,34] (λk:Nat=>[(27, .int .i64 k)]) (λk=>N6 r m f.bH (jA f.bH [] (cX.take k))++[box b4 24 (f.cells fa),box b3 531 (TX.cells ⟨⟨none,0,0⟩,⟨none,0,0⟩,⟨none,0,0⟩,⟨none,0,0⟩,0⟩),box b2 531 (TX.cells ⟨⟨none,0,0⟩,⟨none,0,0⟩,⟨none,0,0⟩,⟨none,0,0⟩,0⟩),box b1 56 (hP f fa p a x ⟨settled,⟨eA,en_,ec⟩,st,rd,⟨vA,vn,vc⟩,fr,pd,rf,rl,sp,pl⟩)]) (λk=>k<=en_) (λk=>en_ -k) 0 ⟨rfl,trivial⟩ (λw hw=>by
    show Mem _ (N6 r m f.bH (jA f.bH [] (cX.take 0))++_) w
    rw [uu,JB];exact hw) rfl (bj _) ?_
   rintro k g hk
   have hk:k<=en_:=hk
   refine ak ?_
   refine R0 ?_
   refine xV (gK (q0 rfl) (q0 rfl)) rfl rfl ?_
   refine XN ?_
   refine ad ?_
   refine ak ?_
   refine bD rfl (λhlt=>?_) (λhlt=>?_)
   ·have hlt':k<en_:=by simpa using hlt
    obtain ⟨eb,eo,e,rfl,heb,hek,hre⟩:=hev.at_ hlt'
    have hsn:jA f.bH [] (cX.take (k+1))=(kW f.bH (jA f.bH [] (cX.take k)) e).1:=by rw [dY cX k e hek,tZ]
    refine bZ ?_
    refine ad ?_
    refine ak ?_
    refine cq ?_
    refine ak ?_
    refine R0 ?_
    refine xV (cx _ cY cU (q0 rfl) (q0 rfl) (λ_=>⟨rfl,by omega⟩)) rfl rfl ?_
    refine xV (eS mR cU (q0 rfl)) rfl rfl ?_
    refine bS dt rfl λb8=>?_
    refine dN (v:= .agg _) rfl rfl cU ?_
    refine XN ?_
    refine ad ?_
    refine R0 ?_
    refine xV (ay (v:= .pointer _) (q0 rfl)) rfl rfl ?_
    refine xV (eS mR cU (q0 rfl)) rfl rfl ?_
    refine cQ (dD (en Tryz.call47 (jn (q0 rfl) (q0 rfl))) (λw hw=>wG e rfl (hw.pick [1,2,0,3,4,5,6] (by decide))) rfl (λ_=>rfl) λ_u=>?_)
    refine XN ?_
    refine bc ?_
    refine ad ?_
    refine R0 ?_
    refine xV (eT (q0 rfl) (q0 rfl) (λ_=>⟨rfl,by omega,by omega⟩)) rfl rfl ?_
    refine xV (ay (v:= .int _ _) (q0 rfl)) rfl rfl ?_
    refine XN ?_
    exact aH (k+1) (by repeat (first|exact aK|exact aN|refine a8 rfl ?_|refine aJ rfl ?_|refine aD rfl ?_)) ⟨rfl,trivial⟩ (λw hw=>by
     show Mem _ (N6 r m f.bH (jA f.bH [] (cX.take (k+1)))++_) w
     rw [hsn]
     exact hw.pick [0,1,3,4,5,6] (by decide)) rfl hlt' (by show en_ -(k+1)<en_ -k;omega)
   have hke:k=cX.length:=by simp at hlt;omega
   have hal2:=zm f.bH cX []
   rw [hke,dQ]
   refine fz ?_
   refine cJ ?_
   refine cM ?_
   refine cK ?_
   refine ad ?_
   refine R0 ?_
   refine xV (ay (v:= .pointer _) (q0 rfl)) rfl rfl ?_
   refine xC (en Tryz.call48 (iQ (q0 rfl))) (λ_ w hw=>MV w (hw.item (k:=0) rfl) (hw.item (k:=1) rfl) hdv (by simp only [dO] at hal2;omega)) rfl rfl ?_
   refine xV (az da rfl ae rfl (q0 rfl)) rfl rfl ?_
   refine dN (v:= .int _ _) rfl rfl ae ?_
   refine XN ?_
   exact aO () (by repeat (first|exact aK|exact aN|refine a8 rfl ?_|refine aJ rfl ?_|refine aD rfl ?_)) trivial (λw hw=>by
    unfold oQ
    exact hw.pick [3,2,4,5] (by decide)) rfl trivial
  simp at h1
 rintro ⟨⟩ g2 _
 refine ad ?_
 refine ak ?_
 refine R0 ?_
 refine xV (eS iB cN (q0 rfl)) rfl rfl ?_
 refine xV (az ax rfl iN rfl (q0 rfl)) rfl rfl ?_
 refine xV (eL qo (q0 rfl)) rfl rfl ?_
 refine oD (en Tryz.call50 (jn (q0 rfl) (q0 rfl))) (λw hw=>Rid.Aj f fa eA en_ ec cX w (hf.mem hw) (hev.mem hw) (by omega) hpl (by omega)) rfl (λ_=>rfl) λrd1=>?_
 have hrm:rd1.1.2.2.map (·.r)=dP f cX:=rd1.2
 refine xV (ay (q0 rfl)) rfl rfl ?_
 refine xV (iW (q0 rfl) rfl) rfl rfl ?_
 refine xV (iW (q0 rfl) rfl) rfl rfl ?_
 refine xV (aU (v:= .slice _ _ _) (q0 rfl)) rfl rfl ?_
 refine xV (aU (v:= .int _ _) (q0 rfl)) rfl rfl ?_
 refine XN ?_
 refine ad ?_
 refine ak ?_
 refine ak ?_
 refine R0 ?_
 refine xV (ay (v:= .int _ _) (q0 rfl)) rfl rfl ?_
 refine xV (ki (q0 rfl) (q0 rfl)) rfl rfl ?_
 refine XN ?_
 refine ad ?_
 refine bD rfl (λh2=>?_) (λh2=>?_)
 ·simp [hok] at h2
 have hrd: ∀{L:List E.Item} {w0 w:World} (j k:Nat),Mem w0 L w->L[j]?=some (eI rd1.1.1 rd1.1.2.1 rd1.1.2.2)->L[k]?=some (kc rd1.1.2.2)->lZ w rd1.1.1 rd1.1.2.2.length rd1.1.2.2:=λj k hw hj hk=>IP rd1 hw j k hj hk (by omega) λr hr=>(hsh r hr).1
 have hrs:GY rd1.1.2.2:=λy hy=>(hsh y.r (by rw [<-hrm];exact jX hy)).1
 have hrn:rd1.1.2.2.length<=100000:=by
  have:=aP List.length hrm
  rw [aS] at this
  omega
 refine bZ ?_
 refine ad ?_
 refine ak ?_
 refine R0 ?_
 refine xV (ay (v:= .slice _ _ _) (q0 rfl)) rfl rfl ?_
 refine xV (az da rfl di rfl (q0 rfl)) rfl rfl ?_
 refine dN (v:= .slice _ _ _) rfl rfl di ?_
 refine XN ?_
 refine ad ?_
 refine ak ?_
 refine jb (L':=[box b3 531 (TX.cells ⟨⟨rd1.1.1,rd1.1.2.2.length,rd1.1.2.1⟩,⟨none,0,0⟩,⟨none,0,0⟩,⟨none,0,0⟩,oQ f cX⟩),eI rd1.1.1 rd1.1.2.1 rd1.1.2.2,kc rd1.1.2.2,box b4 24 (f.cells fa),box b2 531 (TX.cells ⟨⟨none,0,0⟩,⟨none,0,0⟩,⟨none,0,0⟩,⟨none,0,0⟩,0⟩),box b1 56 (hP f fa p a x ⟨settled,⟨eA,en_,ec⟩,st,rd,⟨vA,vn,vc⟩,fr,pd,rf,rl,sp,pl⟩)]) (λw hw=>hw.pick [2,0,1,3,4,5] (by decide)) rfl ?_
 refine ke [50,51,52,53,54,55,56,57,58,59] (λ_:ES ((rd1.1.2.2.map (·.r)).filter (dF settled))×ES ((rd1.1.2.2.map (·.r)).filter (dF (oQ f cX)))=>[]) (λq=>[eI q.2.1.1 q.2.1.2.1 q.2.1.2.2,kc q.2.1.2.2,eI q.1.1.1 q.1.1.2.1 q.1.1.2.2,kc q.1.1.2.2,box b3 531 (TX.cells ⟨⟨rd1.1.1,rd1.1.2.2.length,rd1.1.2.1⟩,⟨q.1.1.1,q.1.1.2.2.length,q.1.1.2.1⟩,⟨q.2.1.1,q.2.1.2.2.length,q.2.1.2.1⟩,⟨none,0,0⟩,oQ f cX⟩),eI rd1.1.1 rd1.1.2.1 rd1.1.2.2,kc rd1.1.2.2,box b4 24 (f.cells fa),box b2 531 (TX.cells ⟨⟨none,0,0⟩,⟨none,0,0⟩,⟨none,0,0⟩,⟨none,0,0⟩,0⟩),box b1 56 (hP f fa p a x ⟨settled,⟨eA,en_,ec⟩,st,rd,⟨vA,vn,vc⟩,fr,pd,rf,rl,sp,pl⟩)]) (λ_=>True) ?_ ?_
 ·refine Lj 1 rfl (by decide+kernel) ?_
  refine aV 0 (by decide+kernel) rfl (ay (v:= .slice _ _ _) (q0 rfl)) rfl ?_
  refine aV 1 (by decide+kernel) rfl (az ax rfl ae rfl (q0 rfl)) rfl ?_
  refine aV 2 (by decide+kernel) rfl (eL aj (q0 rfl)) rfl ?_
  refine aV 4 (by decide+kernel) rfl (ay (v:= .slice _ _ _) (q0 rfl)) rfl ?_
  refine aV 5 (by decide+kernel) rfl (az da rfl ae rfl (q0 rfl)) rfl ?_
  refine lS (i:=3) (j:=6) (by decide+kernel) (au 1) ?_ ?_
  ·refine aL rfl (il (en DD (jn (q0 rfl) (q0 rfl))) (λw hw=>Rid.xO rd1.1.1 rd1.1.2.2.length rd1.1.2.1 rd1.1.2.2 settled w (by first|exact hrd 1 2 hw rfl rfl|exact hrd 3 4 hw rfl rfl) hrs hrn) rfl (λ_=>rfl) λy1=>?_)
   refine eu (i:=6) (by decide+kernel) (au 3) ?_
   refine aL rfl (kA (eL (v:= .int .i64 (oQ f cX)) aj (q0 rfl)) rfl rfl ?_)
   refine aV 8 (by decide+kernel) rfl (az da rfl di rfl (q0 rfl)) rfl ?_
   refine eu (i:=7) (by decide+kernel) (au 3) ?_
   refine aL rfl (il (en DD (jn (q0 rfl) (q0 rfl))) (λw hw=>Rid.xO rd1.1.1 rd1.1.2.2.length rd1.1.2.1 rd1.1.2.2 (oQ f cX) w (by first|exact hrd 1 2 hw rfl rfl|exact hrd 3 4 hw rfl rfl) hrs hrn) rfl (λ_=>rfl) λy2=>?_)
   refine eu (i:=9) (by decide+kernel) (au 5) ?_
   refine aL rfl (mB (v:= .slice _ _ _) rfl rfl di ?_)
   refine aV 10 (by decide+kernel) rfl (az da rfl di rfl (q0 rfl)) rfl ?_
   refine eu (i:=11) (by decide+kernel) (au 5) ?_
   refine aL rfl (mB (v:= .slice _ _ _) rfl rfl di ?_)
   refine aZ (by decide+kernel) (au 5) ?_
   exact aO (y1,y2) (by repeat (first|exact aK|exact aN|refine a8 rfl ?_|refine aJ rfl ?_|refine aD rfl ?_)) trivial (λw hw=>hw) rfl trivial
  refine aL rfl (kA (eL (v:= .int .i64 (oQ f cX)) aj (q0 rfl)) rfl rfl ?_)
  refine eu (i:=3) (by decide+kernel) (au 1) ?_
  refine aL rfl (il (en DD (jn (q0 rfl) (q0 rfl))) (λw hw=>Rid.xO rd1.1.1 rd1.1.2.2.length rd1.1.2.1 rd1.1.2.2 settled w (by first|exact hrd 1 2 hw rfl rfl|exact hrd 3 4 hw rfl rfl) hrs hrn) rfl (λ_=>rfl) λy1=>?_)
  refine aV 8 (by decide+kernel) rfl (az da rfl di rfl (q0 rfl)) rfl ?_
  refine eu (i:=7) (by decide+kernel) (au 3) ?_
  refine aL rfl (il (en DD (jn (q0 rfl) (q0 rfl))) (λw hw=>Rid.xO rd1.1.1 rd1.1.2.2.length rd1.1.2.1 rd1.1.2.2 (oQ f cX) w (by first|exact hrd 1 2 hw rfl rfl|exact hrd 3 4 hw rfl rfl) hrs hrn) rfl (λ_=>rfl) λy2=>?_)
  refine eu (i:=9) (by decide+kernel) (au 5) ?_
  refine aL rfl (mB (v:= .slice _ _ _) rfl rfl di ?_)
  refine aV 10 (by decide+kernel) rfl (az da rfl di rfl (q0 rfl)) rfl ?_
  refine eu (i:=11) (by decide+kernel) (au 5) ?_
  refine aL rfl (mB (v:= .slice _ _ _) rfl rfl di ?_)
  refine aZ (by decide+kernel) (au 5) ?_
  exact aO (y1,y2) (by repeat (first|exact aK|exact aN|refine a8 rfl ?_|refine aJ rfl ?_|refine aD rfl ?_)) trivial (λw hw=>hw) rfl trivial
 rintro ⟨y1,y2⟩ g3 _
 have hy1:y1.1.2.2.map (·.r)=(dP f cX).filter (dF settled):=by rw [y1.2,hrm]
 have hy2:y2.1.2.2.map (·.r)=(dP f cX).filter (dF (oQ f cX)):=by rw [y2.2,hrm]
 obtain ⟨⟨A1,c1,x1⟩,q1'⟩:=y1
 obtain ⟨⟨A2,c2,x2⟩,q2'⟩:=y2
 simp only at hy1 hy2
 have hx1: ∀y∈x1,(y.r.db.length<=100000/\y.r.bV.length<=100000)/\y.r.pl<=9223372036854775807:=λy hy=>hpf _ y.r (by rw [<-hy1];exact jX hy)
 have hl1:x1.length<=100000:=by have:=aP List.length hy1;rw [aS] at this;have:=hps settled;omega
 refine ad ?_
 refine ak ?_
 refine ak ?_
 refine R0 ?_
 refine xV (eS iB cN (q0 rfl)) rfl rfl ?_
 refine xV (az ax rfl eX rfl (q0 rfl)) rfl rfl ?_
 refine xV (az bh rfl eN rfl (q0 rfl)) rfl rfl ?_
 refine xV (eP jM eN (q0 rfl)) rfl rfl ?_
 refine xV (az da rfl di rfl (q0 rfl)) rfl rfl ?_
 refine xV (eL ib (q0 rfl)) rfl rfl ?_
 refine xV (az ax rfl Tryz.sizeOf46 rfl (q0 rfl)) rfl rfl ?_
 refine xV (eL A8 (q0 rfl)) rfl rfl ?_
 refine oD (en Tryz.call51 (Gf (q0 rfl) (q0 rfl) (q0 rfl) (q0 rfl))) (λw hw=>Far.Aj f fa p a A1 x1.length c1 x1 vA vn vc vs w (hf.mem hw) (hp.mem hw) (yH hw (j:=2) (k:=3) rfl rfl (by omega) λy hy=>(hx1 y hy).1) (λy hy=>(hx1 y hy).1) (hvs.mem hw) (λy hy=>(hx1 y hy).2)) rfl (λ_=>rfl) λfr=>?_
 obtain ⟨⟨zs,zA,zc⟩,hz⟩:=fr
 simp only at hz
 rw [hy1] at hz
 have hx2: ∀y∈x2,y.r.db.length<=100000/\y.r.bV.length<=100000:=λy hy=>(hpf _ y.r (by rw [<-hy2];exact jX hy)).1
 have hl2:x2.length<=100000:=by have:=aP List.length hy2;rw [aS] at this;have:=hps (oQ f cX);omega
 have hfin: ∀(Y:Sl) (ys:List FX) (u:World),(∀it∈[kE zA zc zs,jK (zs.flatMap jD),eI A2 c2 x2,kc x2,eI A1 c1 x1,kc x1,eI rd1.1.1 rd1.1.2.1 rd1.1.2.2,kc rd1.1.2.2],it.A u)->(eG u 4 FX.cells Y.A Y.n ys/\ ∀x∈ys,eG u 3 CE.cells x.A x.b.items.length x.b.items)->T2 u ⟨⟨⟨rd1.1.1,rd1.1.2.2.length,rd1.1.2.1⟩,⟨A1,x1.length,c1⟩,⟨A2,x2.length,c2⟩,Y,oQ f cX⟩,rd1.1.2.2,x1,x2,ys⟩:=λY ys u h hY=>⟨IK h 6 7 rfl rfl hrn hrs,IK h 4 5 rfl rfl (by omega) (λy hy=>(hx1 y hy).1),IK h 2 3 rfl rfl (by omega) hx2,hY⟩
 refine xV (ay (q0 rfl)) rfl rfl ?_
 refine xV (iW (q0 rfl) rfl) rfl rfl ?_
 refine xV (iW (q0 rfl) rfl) rfl rfl ?_
 refine xV (aU (v:= .slice _ _ _) (q0 rfl)) rfl rfl ?_
 refine xV (aU (v:= .int _ _) (q0 rfl)) rfl rfl ?_
 refine XN ?_
 refine ad ?_
 refine ak ?_
 refine R0 ?_
 refine xV (ay (v:= .int _ _) (q0 rfl)) rfl rfl ?_
 refine xV (jE (q0 rfl) (q0 rfl)) rfl rfl ?_
 refine XN ?_
 refine ad ?_
 refine bD rfl (λh3=>?_) (λh3=>?_)
 ·have h3':jw f p ((dP f cX).filter (dF settled)) vs=0:=by rw [<-hy1];simpa using h3
  have hzl:zs.length<=100000:=by
   have e1:=aP List.length hz
   have e2:=(vJ h3').length_eq
   have e3:=dK (λr:Rd=>!r.open_) ((dP f cX).filter (dF settled))
   have e4:=hps settled
   simp only [aS] at e1 e2
   omega
  have hzi: ∀y∈zs,y.b.items.length<=9223372036854775807:=λy hy=>by
   have:=Cz h3' y.b (by rw [<-hz];exact jX hy)
   omega
  refine R0 ?_
  refine xV (ay (v:= .slice _ _ _) (q0 rfl)) rfl rfl ?_
  refine xV (az da rfl eM rfl (q0 rfl)) rfl rfl ?_
  refine dN (v:= .slice _ _ _) rfl rfl eM ?_
  refine XN ?_
  refine ad ?_
  refine ak ?_
  refine R0 ?_
  refine xV (eS yk lO (q0 rfl)) rfl rfl ?_
  refine dN (v:= .agg _) rfl rfl lO ?_
  refine XN ?_
  refine ad ?_
  refine dq ?_
  exact lR rfl (OM rfl rfl yk lO) λw' hw=>⟨⟨(⟨⟨⟨rd1.1.1,rd1.1.2.2.length,rd1.1.2.1⟩,⟨A1,x1.length,c1⟩,⟨A2,x2.length,c2⟩,⟨zA,zs.length,zc⟩,oQ f cX⟩,rd1.1.2.2,x1,x2,zs⟩,[kE zA zc zs,jK (zs.flatMap jD),eI A2 c2 x2,kc x2,eI A1 c1 x1,kc x1,eI rd1.1.1 rd1.1.2.1 rd1.1.2.2,kc rd1.1.2.2]),⟨hrm,hy1,hy2,by unfold yF;rw [aB h3'];exact hz,rfl⟩,λu h=>hfin _ _ u h ⟨ku h 0 rfl (λ_=>rfl) (by omega),λy hy=>NL (h _ (aq (i:=1) rfl)) hzi hy⟩⟩,rfl,(hw.pick [0,1,2,3,4,5,7,8] (by decide)).jK (T:=[_,_,_,_,_,_,_,_]) (L:=[])⟩
 have h3': ¬jw f p ((dP f cX).filter (dF settled)) vs=0:=by rw [<-hy1];simpa using h3
 refine bZ ?_
 refine ad ?_
 refine ak ?_
 refine R0 ?_
 refine xV (eS yk lO (q0 rfl)) rfl rfl ?_
 refine dN (v:= .agg _) rfl rfl lO ?_
 refine XN ?_
 refine ad ?_
 refine dq ?_
 exact lR rfl (OM rfl rfl yk lO) λw' hw=>⟨⟨(⟨⟨⟨rd1.1.1,rd1.1.2.2.length,rd1.1.2.1⟩,⟨A1,x1.length,c1⟩,⟨A2,x2.length,c2⟩,⟨none,0,0⟩,oQ f cX⟩,rd1.1.2.2,x1,x2,[]⟩,[kE zA zc zs,jK (zs.flatMap jD),eI A2 c2 x2,kc x2,eI A1 c1 x1,kc x1,eI rd1.1.1 rd1.1.2.1 rd1.1.2.2,kc rd1.1.2.2]),⟨hrm,hy1,hy2,by unfold yF;rw [an h3'];rfl,rfl⟩,λu h=>hfin _ _ u h ⟨⟨rfl,by decide,λh=>absurd h (by decide)⟩,λy hy=>(by cases hy)⟩⟩,rfl,(hw.pick [0,1,2,3,4,5,7,8] (by decide)).jK (T:=[_,_,_,_,_,_,_,_]) (L:=[])⟩
end Go.Proofs.Aud
