import Derived.Test.YtlihpbblpmpcfaaCusD
import Derived.Test.YtlihpbblpmpcfaaEng2
import Derived.Test.YtlihpbblpmpcfaaCusB
import Derived.Test.YtlihpbblpmpcfaaCusS
import Derived.Test.YtlihpbblpmpcfaaCusA
set_option linter.unusedVariables false
set_option linter.unusedSimpArgs false
/-
  Plain functions: rides, and the story that makes them (the program's way; no program in sight).
-/
namespace Go.Proofs.Rid
open Go.Proofs.Cus

structure Spn where
  lo : Int
  hi : Int
deriving DecidableEq, Inhabited
structure Lg where
  bike : Int
  from_ : Spn
  to_ : Spn
deriving DecidableEq, Inhabited
structure Pz where
  from_ : Spn
  to_ : Spn
deriving DecidableEq, Inhabited
structure Rd where
  id : Int
  rider : Int
  start : Spn
  end_ : Spn
  open_ : Bool
  legs : List Lg
  pauses : List Pz
  fw : Int
  fp : Int
  wh : Int
  pl : Int
deriving DecidableEq, Inhabited
abbrev RM := List (Int × Int)
def rget (m : RM) (r : Int) : Option Int := (m.find? fun p => p.1 == r).map (·.2)
def rput : RM → Int → Int → RM
  | [], r, b => [(r, b)]
  | p :: m, r, b => if (p.1 == r) = true then (r, b) :: m else p :: rput m r b
theorem rput_get : ∀ (m : RM) (r b r' : Int), rget (rput m r b) r' = if r' = r then some b else rget m r'
  | [], r, b, r' => by
    unfold rput rget
    by_cases h : r' = r
    · subst h; simp
    · rw [if_neg h, List.find?_cons_of_neg (by simp; omega)]
  | p :: m, r, b, r' => by
    have ih := rput_get m r b r'
    unfold rget at ih ⊢
    unfold rput
    by_cases hp : (p.1 == r) = true
    · rw [if_pos hp]
      have hpr : p.1 = r := by simpa using hp
      by_cases h : r' = r
      · subst h; simp
      · rw [if_neg h, List.find?_cons_of_neg (by simp; omega), List.find?_cons_of_neg (by simp; omega)]
    · rw [if_neg hp]
      have hpr : ¬ p.1 = r := by simpa using hp
      by_cases h2 : (p.1 == r') = true
      · have h2' : p.1 = r' := by simpa using h2
        simp only [List.find?_cons, h2]
        rw [if_neg (by omega)]
      · simp only [List.find?_cons, h2]
        exact ih

structure SY where
  rides : List Rd
  byID : RM
  riding : List Int
  paused : List Bool
  spots : List Sp
def spanE (e : Ev) : Spn := ⟨e.at_, e.late⟩
def zSpn : Spn := ⟨0, 0⟩
def endLeg (w : Spn) (l : List Lg) : List Lg := l.set (l.length - 1) { l.getD (l.length - 1) default with to_ := w }
def endPz (w : Spn) (l : List Pz) : List Pz := l.set (l.length - 1) { l.getD (l.length - 1) default with to_ := w }
def lastBike (l : List Lg) : Int := (l.getD (l.length - 1) default).bike
def resumeR (p : Bool) (w : Spn) (r : Rd) : Rd := if p = true ∧ 0 < r.pauses.length then { r with pauses := endPz w r.pauses } else r
def resumeY (s : SY) (k : Nat) (w : Spn) : SY := { s with rides := s.rides.set k (resumeR (s.paused.getD k false) w (s.rides.getD k default)), paused := s.paused.set k false }
def finishR (at_ : Sp) (w : Spn) (r : Rd) : Rd := { r with legs := endLeg w r.legs, end_ := w, open_ := false, wh := at_.where_, pl := at_.place }
def leaveY (s : SY) (b : Nat) (at_ : Sp) (w : Spn) : SY :=
  if s.riding.getD b 0 < 0 then { s with spots := s.spots.set b at_ }
  else
    let k := (s.riding.getD b 0).toNat
    let t := resumeY { s with spots := s.spots.set b at_ } k w
    { t with rides := t.rides.set k (finishR at_ w (t.rides.getD k default)), riding := t.riding.set b (-1) }
def newR (e : Ev) (from_ : Sp) (w : Spn) : Rd := ⟨e.ride, e.rider, w, zSpn, true, [⟨e.bike, w, zSpn⟩], [], from_.where_, from_.place, 3, 0⟩
def beginY (s : SY) (e : Ev) (w : Spn) : SY :=
  { rides := s.rides ++ [newR e (s.spots.getD e.bike.toNat default) w], byID := rput s.byID e.ride s.rides.length, riding := s.riding.set e.bike.toNat s.rides.length, paused := s.paused ++ [false], spots := s.spots }
def swapR (b : Int) (w : Spn) (r : Rd) : Rd := { r with legs := endLeg w r.legs ++ [⟨b, w, zSpn⟩] }
def changeY (s : SY) (e : Ev) (w : Spn) : SY :=
  match rget s.byID e.ride with
  | none => s
  | some k =>
    let r := s.rides.getD k.toNat default
    let former := (lastBike r.legs).toNat
    { s with rides := s.rides.set k.toNat (swapR e.bike w r), riding := (s.riding.set former (-1)).set e.bike.toNat k, spots := s.spots.set former (s.spots.getD e.bike.toNat default) }
def pauseR (w : Spn) (r : Rd) : Rd := { r with pauses := r.pauses ++ [⟨w, zSpn⟩] }
def tellY (s : SY) (e : Ev) : SY :=
  let w := spanE e
  let k := s.riding.getD e.bike.toNat 0
  if e.kind = 3 then beginY s e w
  else if e.kind = 4 then changeY s e w
  else if e.kind = 5 then (if 0 ≤ k then { s with rides := s.rides.set k.toNat (pauseR w (s.rides.getD k.toNat default)), paused := s.paused.set k.toNat true } else s)
  else if e.kind = 6 then (if 0 ≤ k then resumeY s k.toNat w else s)
  else if e.kind = 1 then leaveY s e.bike.toNat ⟨1, e.place, 0, false⟩ w
  else if e.kind = 2 then leaveY s e.bike.toNat ⟨2, e.place, 0, false⟩ w
  else if e.kind = 9 then leaveY s e.bike.toNat ⟨6, 0, 0, false⟩ w
  else s
def beginSY (n : Nat) : SY := ⟨[], [], List.replicate n (-1), [], List.replicate n ⟨0, 0, 0, false⟩⟩

/-- what keeps the program from panicking; N bounds the lengths -/
structure WF (n N : Nat) (s : SY) : Prop where
  riding : s.riding.length = n
  spots : s.spots.length = n
  paused : s.paused.length = s.rides.length
  num : s.rides.length ≤ N
  ride : ∀ b ∈ s.riding, -1 ≤ b ∧ b < s.rides.length
  legs : ∀ r ∈ s.rides, 0 < r.legs.length ∧ r.legs.length ≤ N ∧ r.pauses.length ≤ N ∧ (∀ g ∈ r.legs, 0 ≤ g.bike ∧ g.bike < n)
  ids : ∀ id k, rget s.byID id = some k → 0 ≤ k ∧ k < s.rides.length
theorem WF.begin (n : Nat) : WF n 0 (beginSY n) :=
  ⟨by simp [beginSY], by simp [beginSY], rfl, Nat.le_refl _, fun b hb => by simp [beginSY] at hb; simp [hb.2, beginSY], fun r hr => by simp [beginSY] at hr, fun id k h => by simp [beginSY, rget] at h⟩
theorem endLeg_len (w : Spn) (l : List Lg) : (endLeg w l).length = l.length := by simp [endLeg]
theorem endPz_len (w : Spn) (l : List Pz) : (endPz w l).length = l.length := by simp [endPz]
theorem getD_mem {α : Type} [Inhabited α] {l : List α} {k : Nat} (h : k < l.length) : l.getD k default ∈ l ∧ l[k]? = some (l.getD k default) := by
  have e : l[k]? = some (l.getD k default) := by rw [List.getD_eq_getElem?_getD, List.getElem?_eq_getElem h]; rfl
  exact ⟨List.mem_of_getElem? e, e⟩
theorem endLeg_bikes {n : Nat} {w : Spn} {l : List Lg} (h : ∀ g ∈ l, 0 ≤ g.bike ∧ g.bike < (n : Int)) (hl : 0 < l.length) : ∀ g ∈ endLeg w l, 0 ≤ g.bike ∧ g.bike < (n : Int) := fun g hg => by
  unfold endLeg at hg
  rcases List.mem_or_eq_of_mem_set hg with hg | rfl
  · exact h g hg
  · exact h (l.getD (l.length - 1) default) (getD_mem (by omega)).1
theorem WF.set {n N : Nat} {s : SY} (h : WF n N s) {k : Nat} {r : Rd} (hr : 0 < r.legs.length ∧ r.legs.length ≤ N ∧ r.pauses.length ≤ N ∧ (∀ g ∈ r.legs, 0 ≤ g.bike ∧ g.bike < (n : Int))) (p : List Bool) (hp : p.length = s.paused.length) : WF n N { s with rides := s.rides.set k r, paused := p } :=
  ⟨h.riding, h.spots, by simp [hp, h.paused], by simpa using h.num, fun b hb => by simpa using h.ride b hb, fun x hx => by
    rcases List.mem_or_eq_of_mem_set hx with hx | rfl
    · exact h.legs x hx
    · exact hr, fun id k hk => by simpa using h.ids id k hk⟩
theorem WF.mono {n N M : Nat} {s : SY} (h : WF n N s) (hN : N ≤ M) : WF n M s :=
  ⟨h.riding, h.spots, h.paused, Nat.le_trans h.num hN, h.ride, fun r hr => ⟨(h.legs r hr).1, by have := (h.legs r hr).2.1; omega, by have := (h.legs r hr).2.2.1; omega, (h.legs r hr).2.2.2⟩, h.ids⟩
theorem resumeR_ok {n N : Nat} {p : Bool} {w : Spn} {r : Rd} (h : 0 < r.legs.length ∧ r.legs.length ≤ N ∧ r.pauses.length ≤ N ∧ (∀ g ∈ r.legs, 0 ≤ g.bike ∧ g.bike < (n : Int))) : 0 < (resumeR p w r).legs.length ∧ (resumeR p w r).legs.length ≤ N ∧ (resumeR p w r).pauses.length ≤ N ∧ (∀ g ∈ (resumeR p w r).legs, 0 ≤ g.bike ∧ g.bike < (n : Int)) := by
  unfold resumeR
  split
  · exact ⟨h.1, h.2.1, by simp only [endPz_len]; exact h.2.2.1, h.2.2.2⟩
  · exact h
theorem WF.resume {n N : Nat} {s : SY} (h : WF n N s) {k : Nat} (hk : k < s.rides.length) (w : Spn) : WF n N (resumeY s k w) := by
  unfold resumeY
  exact h.set (resumeR_ok (h.legs _ (getD_mem hk).1)) _ (by simp)
theorem riding_get {n N : Nat} {s : SY} (h : WF n N s) {b : Nat} (hb : b < n) : ∃ v, s.riding[b]? = some v ∧ s.riding.getD b 0 = v ∧ -1 ≤ v ∧ v < s.rides.length := by
  have hl := h.riding
  obtain ⟨v, hv⟩ : ∃ v, s.riding[b]? = some v := ⟨_, List.getElem?_eq_getElem (by omega)⟩
  have := h.ride v (List.mem_of_getElem? hv)
  exact ⟨v, hv, by rw [List.getD_eq_getElem?_getD, hv]; rfl, this.1, this.2⟩
theorem WF.leave {n N : Nat} {s : SY} (h : WF n N s) {b : Nat} (hb : b < n) (at_ : Sp) (w : Spn) : WF n N (leaveY s b at_ w) := by
  obtain ⟨v, hv, hg, hv0, hv1⟩ := riding_get h hb
  have h1 : WF n N { s with spots := s.spots.set b at_ } := ⟨h.riding, by simp [h.spots], h.paused, h.num, h.ride, h.legs, h.ids⟩
  unfold leaveY
  rw [hg]
  split
  · exact h1
  · rename_i hn
    have hk : v.toNat < s.rides.length := by omega
    have h2 := h1.resume (k := v.toNat) hk w
    simp only
    generalize resumeY { s with spots := s.spots.set b at_ } v.toNat w = t at h2 ⊢
    have hl2 : v.toNat < t.rides.length ∨ ¬ v.toNat < t.rides.length := by omega
    have h3 : WF n N { t with rides := t.rides.set v.toNat (finishR at_ w (t.rides.getD v.toNat default)), paused := t.paused } := by
      rcases hl2 with hl2 | hl2
      · refine h2.set ?_ _ rfl
        have := h2.legs _ (getD_mem hl2).1
        unfold finishR
        refine ⟨?_, ?_, this.2.2.1, ?_⟩
        · simp only [endLeg_len]; exact this.1
        · simp only [endLeg_len]; exact this.2.1
        · exact endLeg_bikes this.2.2.2 this.1
      · rw [List.set_eq_of_length_le (by omega)]; exact h2
    exact ⟨by simp [h3.riding], h3.spots, h3.paused, h3.num, fun b' hb' => by
      rcases List.mem_or_eq_of_mem_set hb' with hb' | rfl
      · exact h3.ride b' hb'
      · simp only; omega, h3.legs, h3.ids⟩
theorem WF.beginE {n N : Nat} {s : SY} (h : WF n N s) {e : Ev} (hb : 0 ≤ e.bike ∧ e.bike < n) (w : Spn) : WF n (N + 1) (beginY s e w) := by
  have h' := h.mono (Nat.le_succ N)
  unfold beginY
  refine ⟨by simp [h.riding], h.spots, by simp [h.paused], by simp; exact h.num, fun b hb' => ?_, fun r hr => ?_, fun id k hk => ?_⟩
  · simp only [List.length_append, List.length_cons, List.length_nil]
    rcases List.mem_or_eq_of_mem_set hb' with hb' | rfl
    · have := h.ride b hb'; omega
    · omega
  · rcases List.mem_append.1 hr with hr | hr
    · exact h'.legs r hr
    · simp only [List.mem_singleton] at hr
      subst hr
      refine ⟨by simp [newR], by simp [newR], by simp [newR], fun g hg => ?_⟩
      simp [newR] at hg
      subst hg
      exact hb
  · simp only at hk
    rw [rput_get] at hk
    simp only [List.length_append, List.length_cons, List.length_nil]
    split at hk
    · cases hk; omega
    · have := h.ids id k hk; omega
theorem WF.changeE {n N : Nat} {s : SY} (h : WF n N s) {e : Ev} (hb : 0 ≤ e.bike ∧ e.bike < n) (w : Spn) : WF n (N + 1) (changeY s e w) := by
  have h' := h.mono (Nat.le_succ N)
  unfold changeY
  split
  · exact h'
  · rename_i k hk
    obtain ⟨h0, h1⟩ := h.ids _ _ hk
    have hkl : k.toNat < s.rides.length := by omega
    have hr := h.legs _ (getD_mem hkl).1
    simp only
    have h3 : WF n (N + 1) { s with rides := s.rides.set k.toNat (swapR e.bike w (s.rides.getD k.toNat default)), paused := s.paused } := by
      refine h'.set ?_ _ rfl
      unfold swapR
      refine ⟨by simp, by simp [endLeg_len]; exact hr.2.1, by simp only; omega, fun g hg => ?_⟩
      rcases List.mem_append.1 hg with hg | hg
      · exact endLeg_bikes hr.2.2.2 hr.1 g hg
      · simp at hg; subst hg; exact hb
    exact ⟨by simp [h3.riding], by simp [h3.spots], h3.paused, h3.num, fun b' hb' => by
      rcases List.mem_or_eq_of_mem_set hb' with hb' | rfl
      · rcases List.mem_or_eq_of_mem_set hb' with hb' | rfl
        · exact h3.ride b' hb'
        · simp only; omega
      · simp only [List.length_set]; omega, h3.legs, h3.ids⟩
theorem WF.tell {n N : Nat} {s : SY} (h : WF n N s) {e : Ev} (hb : 0 ≤ e.bike ∧ e.bike < n) : WF n (N + 1) (tellY s e) := by
  have h' := h.mono (Nat.le_succ N)
  obtain ⟨v, hv, hg, hv0, hv1⟩ := riding_get h (b := e.bike.toNat) (by omega)
  unfold tellY
  simp only
  rw [hg]
  split
  · exact h.beginE hb _
  split
  · exact h.changeE hb _
  split
  · split
    · refine h'.set ?_ _ (by simp)
      have := h.legs _ (getD_mem (k := v.toNat) (by omega)).1
      exact ⟨this.1, by show _ ≤ N + 1; have := this.2.1; simp only [pauseR]; omega, by simp [pauseR]; exact this.2.2.1, this.2.2.2⟩
    · exact h'
  split
  · split
    · exact h'.resume (k := v.toNat) (by omega) _
    · exact h'
  split
  · exact h'.leave (by omega) _ _
  split
  · exact h'.leave (by omega) _ _
  split
  · exact h'.leave (by omega) _ _
  · exact h'
theorem WF.run {n : Nat} : ∀ (l : List Ev) {N : Nat} {s : SY}, WF n N s → (∀ e ∈ l, 0 ≤ e.bike ∧ e.bike < (n : Int)) → WF n (N + l.length) (l.foldl tellY s)
  | [], _, _, h, _ => h
  | e :: l, N, s, h, hb => by
    have := WF.run l (h.tell (hb e (by simp))) fun e he => hb e (List.mem_cons_of_mem _ he)
    rw [List.foldl_cons, List.length_cons, show N + (l.length + 1) = N + 1 + l.length by omega]
    exact this

end Go.Proofs.Rid

/-
  The walks: rides in memory; the story, ended pauses, bicycles that are left.
-/
namespace Go.Proofs.Rid
open Go Go.RowKit Go.Proofs.E Go.Proofs.Cus

theorem fl23 {fs : Array Field} (h : Try.prog.underlying 23 = some (.struct fs) := by exact Try.underlying23) : FieldsLie Try.prog fs [(0, 1), (1, 1)] := by
  rw [Try.underlying23] at h
  cases h
  intro w
  kernel_rfl
theorem fl52 {fs : Array Field} (h : Try.prog.underlying 52 = some (.struct fs) := by exact Try.underlying52) : FieldsLie Try.prog fs [(0, 1), (1, 2), (3, 2)] := by
  rw [Try.underlying52] at h
  cases h
  intro w
  kernel_rfl
theorem fl71 {fs : Array Field} (h : Try.prog.underlying 71 = some (.struct fs) := by exact Try.underlying71) : FieldsLie Try.prog fs [(0, 2), (2, 2)] := by
  rw [Try.underlying71] at h
  cases h
  intro w
  kernel_rfl
theorem fl27 {fs : Array Field} (h : Try.prog.underlying 27 = some (.struct fs) := by exact Try.underlying27) : FieldsLie Try.prog fs [(0, 1), (1, 1), (2, 2), (4, 2), (6, 1), (7, 1), (8, 1), (9, 1), (10, 1), (11, 1), (12, 1)] := by
  rw [Try.underlying27] at h
  cases h
  intro w
  kernel_rfl
theorem fl77 {fs : Array Field} (h : Try.prog.underlying 77 = some (.struct fs) := by exact Try.underlying77) : FieldsLie Try.prog fs [(0, 1), (1, 1), (2, 1), (3, 1), (4, 1)] := by
  rw [Try.underlying77] at h
  cases h
  intro w
  kernel_rfl
theorem fl58 {fs : Array Field} (h : Try.prog.underlying 58 = some (.struct fs) := by exact Try.underlying58) : FieldsLie Try.prog fs [(0, 1), (1, 1), (2, 1), (3, 1)] := by
  rw [Try.underlying58] at h
  cases h
  intro w
  kernel_rfl
def Spn.cells (s : Spn) : List Value := [.int .i64 s.lo, .int .i64 s.hi]
def Lg.cells (g : Lg) : List Value := [.int .i64 g.bike, .int .i64 g.from_.lo, .int .i64 g.from_.hi, .int .i64 g.to_.lo, .int .i64 g.to_.hi]
def Pz.cells (p : Pz) : List Value := [.int .i64 p.from_.lo, .int .i64 p.from_.hi, .int .i64 p.to_.lo, .int .i64 p.to_.hi]
/-- where the lists of a ride lie -/
structure RPl where
  lA : Option Addr
  lc : Nat
  pA : Option Addr
  pc : Nat
deriving Inhabited
structure RX where
  r : Rd
  a : RPl
deriving Inhabited
def Rd.cellsAt (r : Rd) (a : RPl) (ln pn : Nat) : List Value :=
  [.int .i64 r.id, .int .i64 r.rider, .int .i64 r.start.lo, .int .i64 r.start.hi, .int .i64 r.end_.lo, .int .i64 r.end_.hi, .bool r.open_, .slice a.lA ln a.lc, .slice a.pA pn a.pc, .int .i64 r.fw, .int .i64 r.fp, .int .i64 r.wh, .int .i64 r.pl]
def RX.cells (x : RX) : List Value := x.r.cellsAt x.a x.r.legs.length x.r.pauses.length
abbrev lgRow (A : Option Addr) (c : Nat) (l : List Lg) : E.Item := rowT 52 5 Lg.cells A c l
abbrev pzRow (A : Option Addr) (c : Nat) (l : List Pz) : E.Item := rowT 71 4 Pz.cells A c l
abbrev rdRow (A : Option Addr) (c : Nat) (l : List RX) : E.Item := rowT 27 13 RX.cells A c l
def rdParts (x : RX) : List E.Item := [lgRow x.a.lA x.a.lc x.r.legs, pzRow x.a.pA x.a.pc x.r.pauses]
def rdBag (xs : List RX) : E.Item := bag (xs.flatMap rdParts)
theorem rdBag_due (xs : List RX) : (rdBag xs).due = [] := rfl
def encB (b : Bool) : List Value := [.bool b]
abbrev blRow (A : Option Addr) (c : Nat) (l : List Bool) : E.Item := rowT 4 1 encB A c l
abbrev inRow (A : Option Addr) (c : Nat) (xs : List Int) : E.Item := rowT 3 1 encInt A c xs
def rmV (m : RM) : List (Int × Value) := m.map fun p => (p.1, .int .i64 p.2)
theorem rmV_put : ∀ (m : RM) (r b : Int), mput (rmV m) r (.int .i64 b) = rmV (rput m r b)
  | [], r, b => rfl
  | p :: m, r, b => by
    have ih := rmV_put m r b
    unfold rmV at ih ⊢
    simp only [List.map_cons, mput, rput]
    split
    · simp
    · rw [ih]; rfl
theorem rmV_look (m : RM) (r : Int) : mlook (rmV m) r = (rget m r).map (.int .i64 ·) := by
  unfold mlook rmV rget
  rw [List.find?_map]
  cases h : m.find? ((fun p : Int × Value => p.1 == r) ∘ fun p : Int × Int => (p.1, Value.int .i64 p.2)) with
  | none =>
    have : m.find? (fun p => p.1 == r) = none := h
    rw [this]; rfl
  | some q =>
    have : m.find? (fun p => p.1 == r) = some q := h
    rw [this]; rfl

/-- the story in memory: where it lies, and the rides with their places -/
structure YA where
  sb : Nat
  rA : Option Addr
  rc : Nat
  m : Nat
  g : Nat
  gc : Nat
  pA : Option Addr
  pc : Nat
  s : Nat
  sc : Nat
structure TY where
  xs : List RX
  byID : RM
  riding : List Int
  paused : List Bool
  spots : List Sp
def TY.plain (t : TY) : SY := ⟨t.xs.map (·.r), t.byID, t.riding, t.paused, t.spots⟩
def yCells (a : YA) (t : TY) : List Value := [.slice a.rA t.xs.length a.rc, .map (some a.m), .slice (some ⟨a.g, 0, none⟩) t.riding.length a.gc, .slice a.pA t.paused.length a.pc, .slice (some ⟨a.s, 0, none⟩) t.spots.length a.sc]
abbrev stY (a : YA) (t : TY) : List E.Item :=
  [box a.sb 77 (yCells a t), rdRow a.rA a.rc t.xs, rdBag t.xs, blRow a.pA a.pc t.paused, inRow (some ⟨a.g, 0, none⟩) a.gc t.riding, E.rowT 58 4 Sp.cells (some ⟨a.s, 0, none⟩) a.sc t.spots, imap a.m (rmV t.byID)]
theorem getD_of {α : Type} {l : List α} {k : Nat} {x d : α} (h : l[k]? = some x) : l.getD k d = x := by rw [List.getD_eq_getElem?_getD, h]; rfl
theorem xs_get {t : TY} {k : Nat} {x : RX} (h : t.xs[k]? = some x) : t.plain.rides[k]? = some x.r ∧ t.plain.rides.getD k default = x.r := by
  have : t.plain.rides[k]? = some x.r := by unfold TY.plain; simp [h]
  exact ⟨this, getD_of this⟩
theorem endPz_at {w : Spn} {l : List Pz} {p : Pz} (h : l[l.length - 1]? = some p) : endPz w l = l.set (l.length - 1) { p with to_ := w } := by unfold endPz; rw [getD_of h]
theorem endLeg_at {w : Spn} {l : List Lg} {p : Lg} (h : l[l.length - 1]? = some p) : endLeg w l = l.set (l.length - 1) { p with to_ := w } := by unfold endLeg; rw [getD_of h]

/-- the story with the k-th ride apart -/
abbrev stK (a : YA) (t : TY) (k : Nat) (x : RX) : List E.Item :=
  [rdRow a.rA a.rc t.xs, pzRow x.a.pA x.a.pc x.r.pauses, lgRow x.a.lA x.a.lc x.r.legs, blRow a.pA a.pc t.paused, inRow (some ⟨a.g, 0, none⟩) a.gc t.riding, E.rowT 58 4 Sp.cells (some ⟨a.s, 0, none⟩) a.sc t.spots, box a.sb 77 (yCells a t), bag ((t.xs.eraseIdx k).flatMap rdParts), imap a.m (rmV t.byID)]
section
variable {a : YA} {t : TY} {w0 w : World} {L : List E.Item} {n N k : Nat} {x : RX}
theorem openK (h : Mem w0 (stY a t ++ L) w) (hx : t.xs[k]? = some x) : Mem w0 (stK a t k x ++ L) w := by
  have h1 := h.pickN 7 [2, 0, 1, 3, 4, 5, 6] (by decide) (by decide)
  have h2 := Mem.apart h1 hx
  exact h2.pickN 9 [4, 1, 0, 5, 6, 7, 3, 2, 8] (by decide) (by decide)
theorem closeK {m : RM} {gs : List Int} {ps : List Bool} {ss : List Sp} (y : RX) (hk : k < t.xs.length) (hg : gs.length = t.riding.length) (hp : ps.length = t.paused.length) (hs : ss.length = t.spots.length)
    (h : Mem w0 ([rdRow a.rA a.rc (t.xs.set k y), pzRow y.a.pA y.a.pc y.r.pauses, lgRow y.a.lA y.a.lc y.r.legs, blRow a.pA a.pc ps, inRow (some ⟨a.g, 0, none⟩) a.gc gs, E.rowT 58 4 Sp.cells (some ⟨a.s, 0, none⟩) a.sc ss, box a.sb 77 (yCells a t), bag ((t.xs.eraseIdx k).flatMap rdParts), imap a.m (rmV m)] ++ L) w) :
    Mem w0 (stY a ⟨t.xs.set k y, m, gs, ps, ss⟩ ++ L) w := by
  have h1 := h.pickN 9 [2, 1, 7, 0, 3, 4, 5, 6, 8] (by decide) (by decide)
  have h2 := Mem.joined (f := rdParts) (y := y) (xs := t.xs) (k := k) h1 hk
  have h3 := h2.pickN 7 [5, 1, 0, 2, 3, 4, 6] (by decide) (by decide)
  have hc : yCells a ⟨t.xs.set k y, m, gs, ps, ss⟩ = yCells a t := by unfold yCells; simp [hg, hp, hs]
  show Mem w0 ([box a.sb 77 (yCells a ⟨t.xs.set k y, m, gs, ps, ss⟩), _, _, _, _, _, _] ++ L) w
  rw [hc]
  exact h3
theorem len_of (hI : WF n N t.plain) : t.paused.length = t.xs.length ∧ t.riding.length = n ∧ t.spots.length = n ∧ t.xs.length ≤ N := by
  have h1 := hI.paused
  have h2 := hI.num
  simp [TY.plain] at h1 h2
  exact ⟨h1, hI.riding, hI.spots, h2⟩
theorem leg_of (hI : WF n N t.plain) (hx : t.xs[k]? = some x) : 0 < x.r.legs.length ∧ x.r.legs.length ≤ N ∧ x.r.pauses.length ≤ N ∧ (∀ g ∈ x.r.legs, 0 ≤ g.bike ∧ g.bike < n) := hI.legs x.r (by unfold TY.plain; exact List.mem_map.2 ⟨x, List.mem_of_getElem? hx, rfl⟩)
set_option maxRecDepth 20000 in
theorem resume_w (hw : Mem w0 (stY a t ++ L) w) (hmk : marks L = []) (hI : WF n N t.plain) (hN : N ≤ 100000) (hk : k < t.xs.length) (hx : t.xs[k]? = some x) (wh : Spn) :
    Calls Try.prog 58 #[.pointer (some ⟨a.sb, 0, none⟩), .int .i64 k, .agg wh.cells.toArray] w fun r w' => ∃ _ : Unit, r = .returned (.tuple #[]) ∧ Mem w0 (stY a ⟨t.xs.set k ⟨resumeR (t.paused.getD k false) wh x.r, x.a⟩, t.byID, t.riding, t.paused.set k false, t.spots⟩ ++ L) w' := by
  obtain ⟨hpl, _, _, _⟩ := len_of hI
  obtain ⟨p, hp⟩ : ∃ p, t.paused[k]? = some p := ⟨_, List.getElem?_eq_getElem (by omega)⟩
  rw [getD_of hp]
  have hw2 := openK hw hx
  have hlo := leg_of hI hx
  obtain ⟨rb, hrb⟩ := rowT_at (j := 0) hw2 rfl (by omega)
  obtain ⟨bb, hbb⟩ := rowT_at (j := 3) hw2 rfl (by omega)
  have hcl := fun (y : RX) (u : World) => closeK (a := a) (t := t) (w0 := w0) (w := u) (L := L) (m := t.byID) (gs := t.riding) (ps := t.paused.set k false) (ss := t.spots) y hk rfl (by simp) rfl
  obtain ⟨asb, arA, arc, am, ag, agc, apA, apc, as_, asc⟩ := a
  simp only at hrb hbb
  subst hrb
  subst hbb
  obtain ⟨⟨id, rider, start, end_, open_, legs, pauses, fw, fp, whr, pl⟩, ⟨lA, lc, pA, pc⟩⟩ := x
  simp only at hlo
  refine H_enterM hw2 hmk Try.func58 rfl Try.ntmps58 rfl ?_
  refine H_seq ?_
  refine R0 ?_
  refine X_box (v := .agg _) rfl rfl fun b5 => ?_
  refine XN ?_
  refine thenJ_normal ?_
  refine H_seq ?_
  refine R0 ?_
  refine xV (e_mv (v := .pointer _) (q0 rfl)) rfl rfl ?_
  refine xV (e_nilc (q0 rfl)) rfl rfl ?_
  refine xV (e_fld Try.underlying77 rfl Try.sizeOf32 rfl (q0 rfl)) rfl rfl ?_
  refine xV (eL Try.isAgg32 (q0 rfl)) rfl rfl ?_
  refine xV (e_mv (v := .int _ _) (q0 rfl)) rfl rfl ?_
  refine xV (e_idx k Try.underlying32 Try.sizeOf27 (q0 rfl) (q0 rfl) (fun _ => ⟨rfl, hk⟩)) rfl rfl ?_
  refine xV (e_fld Try.underlying27 rfl Try.sizeOf25 rfl (q0 rfl)) rfl rfl ?_
  refine xV (e_ld (v := .slice pA pauses.length pc) Try.isAgg25 (q0 rfl) (by exact rr 1 (r := 8) rfl hx rfl)) rfl rfl ?_
  refine xV (e_as (v := .slice _ _ _) (q0 rfl)) rfl rfl ?_
  refine XN ?_
  refine thenJ_normal ?_
  refine H_seq ?_
  refine H_seq ?_
  refine R0 ?_
  refine xV (e_mv (v := .pointer _) (q0 rfl)) rfl rfl ?_
  refine xV (e_nilc (q0 rfl)) rfl rfl ?_
  refine xV (e_fld Try.underlying77 rfl Try.sizeOf75 rfl (q0 rfl)) rfl rfl ?_
  refine xV (eL Try.isAgg75 (q0 rfl)) rfl rfl ?_
  refine xV (e_mv (v := .int _ _) (q0 rfl)) rfl rfl ?_
  refine xV (e_idx k Try.underlying75 Try.sizeOf4 (q0 rfl) (q0 rfl) (fun _ => ⟨rfl, by omega⟩)) rfl rfl ?_
  refine xV (e_ld (v := .bool p) Try.isAgg4 (q0 rfl) (by exact rr0 4 (k := 1) (enc := encB) rfl hp rfl)) rfl rfl ?_
  refine xV (e_mv (v := .bool _) (q0 rfl)) rfl rfl ?_
  refine xVT (e_mv (v := .slice _ _ _) (q0 rfl)) rfl rfl rfl rfl ?_
  refine xVT (e_len Try.underlying25 (q1 rfl)) rfl rfl rfl rfl ?_
  refine xVT (e_gt (q1 rfl) (q0 rfl)) rfl rfl rfl rfl ?_
  refine xV (e_and (q0 rfl) rfl (fun h => by first | rfl | (rw [h]; rfl))) rfl rfl ?_
  refine XN ?_
  refine thenJ_normal ?_
  refine H_cond rfl (fun hb => ?_) (fun hb => ?_)
  · have hb' : p = true ∧ 0 < pauses.length := by simpa using hb
    obtain ⟨z, hz⟩ : ∃ z, pauses[pauses.length - 1]? = some z := ⟨_, List.getElem?_eq_getElem (by omega)⟩
    have hres : resumeR p wh ⟨id, rider, start, end_, open_, legs, pauses, fw, fp, whr, pl⟩ = ⟨id, rider, start, end_, open_, legs, pauses.set (pauses.length - 1) { z with to_ := wh }, fw, fp, whr, pl⟩ := by unfold resumeR; rw [if_pos hb', ← endPz_at hz]
    rw [hres]
    refine H_know (fun w hw => rowT_at (j := 2) hw rfl hb'.2) fun ⟨zb, hzb⟩ => ?_
    subst hzb
    refine R0 ?_
    refine xV (e_mv (v := .slice _ _ _) (q0 rfl)) rfl rfl ?_
    refine xV (e_mv (v := .slice _ _ _) (q0 rfl)) rfl rfl ?_
    refine xV (e_len Try.underlying25 (q0 rfl)) rfl rfl ?_
    refine xV (e_sub (r := ((pauses.length - 1 : Nat) : Int)) (q0 rfl) (q0 rfl) (fun _ => ⟨by omega, by omega, by omega⟩)) rfl rfl ?_
    refine xV (eS Try.isAgg23 Try.sizeOf23 (q0 rfl)) rfl rfl ?_
    refine xV (e_idx (pauses.length - 1) Try.underlying25 Try.sizeOf71 (q0 rfl) (q0 rfl) (fun _ => ⟨rfl, by omega⟩)) rfl rfl ?_
    refine xV (e_fld Try.underlying71 rfl Try.sizeOf23 rfl (q0 rfl)) rfl rfl ?_
    refine X_eff (f_storeR 2 (i := pauses.length - 1) (off := 2) { z with to_ := wh } rfl rfl Try.sizeOf23 rfl rfl rfl hz rfl rfl ?_)
    refine XN ?_
    refine thenJ_normal ?_
    refine R0 ?_
    refine xV (e_mv (v := .pointer _) (q0 rfl)) rfl rfl ?_
    refine xV (e_nilc (q0 rfl)) rfl rfl ?_
    refine xV (e_fld Try.underlying77 rfl Try.sizeOf75 rfl (q0 rfl)) rfl rfl ?_
    refine xV (eL Try.isAgg75 (q0 rfl)) rfl rfl ?_
    refine xV (e_mv (v := .int _ _) (q0 rfl)) rfl rfl ?_
    refine xV (e_idx k Try.underlying75 Try.sizeOf4 (q0 rfl) (q0 rfl) (fun _ => ⟨rfl, by omega⟩)) rfl rfl ?_
    refine X_eff (f_storeR0 4 (k := 1) (enc := encB) false rfl rfl Try.sizeOf4 rfl rfl rfl hp rfl rfl ?_)
    refine XN ?_
    exact end0 rfl hmk fun w' hw => ⟨(), rfl, hcl ⟨⟨id, rider, start, end_, open_, legs, pauses.set (pauses.length - 1) { z with to_ := wh }, fw, fp, whr, pl⟩, ⟨lA, lc, some ⟨zb, 0, none⟩, pc⟩⟩ w' (by
      unfold rdRow
      rw [rowT_same hx (by simp [RX.cells, Rd.cellsAt])]
      exact hw.tail)⟩
  · have hb' : ¬ (p = true ∧ 0 < pauses.length) := by intro h; simp [h.1, h.2] at hb
    have hres : resumeR p wh ⟨id, rider, start, end_, open_, legs, pauses, fw, fp, whr, pl⟩ = ⟨id, rider, start, end_, open_, legs, pauses, fw, fp, whr, pl⟩ := by unfold resumeR; rw [if_neg hb']
    rw [hres]
    refine H_skip ?_
    refine thenJ_normal ?_
    refine R0 ?_
    refine xV (e_mv (v := .pointer _) (q0 rfl)) rfl rfl ?_
    refine xV (e_nilc (q0 rfl)) rfl rfl ?_
    refine xV (e_fld Try.underlying77 rfl Try.sizeOf75 rfl (q0 rfl)) rfl rfl ?_
    refine xV (eL Try.isAgg75 (q0 rfl)) rfl rfl ?_
    refine xV (e_mv (v := .int _ _) (q0 rfl)) rfl rfl ?_
    refine xV (e_idx k Try.underlying75 Try.sizeOf4 (q0 rfl) (q0 rfl) (fun _ => ⟨rfl, by omega⟩)) rfl rfl ?_
    refine X_eff (f_storeR0 4 (k := 1) (enc := encB) false rfl rfl Try.sizeOf4 rfl rfl rfl hp rfl rfl ?_)
    refine XN ?_
    exact end0 rfl hmk fun w' hw => ⟨(), rfl, hcl ⟨⟨id, rider, start, end_, open_, legs, pauses, fw, fp, whr, pl⟩, ⟨lA, lc, pA, pc⟩⟩ w' (by
      unfold rdRow
      rw [rowT_same hx rfl]
      exact hw.tail)⟩
end

end Go.Proofs.Rid

/-
  The walks: a bicycle is left; a ride begins.
-/
namespace Go.Proofs.Rid
open Go Go.RowKit Go.Proofs.E Go.Proofs.Cus

theorem set_self {α : Type} {l : List α} {k : Nat} {x y : α} (h : l[k]? = some x) : (l.set k y)[k]? = some y := by
  have := (List.getElem?_eq_some_iff.1 h).1
  rw [List.getElem?_set]; simp [this]
theorem map_setR (xs : List RX) (k : Nat) (y : RX) : (xs.set k y).map (·.r) = (xs.map (·.r)).set k y.r := List.map_set
section
variable {a : YA} {t : TY} {w0 w : World} {L : List E.Item} {n N : Nat}
theorem plain_getD {k : Nat} {x : RX} (hx : t.xs[k]? = some x) : (t.xs.map (·.r)).getD k default = x.r := (xs_get hx).2
set_option maxHeartbeats 1000000 in
set_option maxRecDepth 20000 in
theorem leave_w (hw : Mem w0 (stY a t ++ L) w) (hmk : marks L = []) (hI : WF n N t.plain) (hN : N ≤ 100000) (b : Nat) (hb : b < n) (at_ : Sp) (wh : Spn) :
    Calls Try.prog 59 #[.pointer (some ⟨a.sb, 0, none⟩), .int .i64 b, .agg at_.cells.toArray, .agg wh.cells.toArray] w fun r w' => ∃ t' : { t' : TY // t'.plain = leaveY t.plain b at_ wh }, r = .returned (.tuple #[]) ∧ Mem w0 (stY a t'.1 ++ L) w' := by
  obtain ⟨hpl, hrl, hsl, hxl⟩ := len_of hI
  obtain ⟨v, hv, hvg, hv0, hv1⟩ := riding_get hI hb
  have hvt : t.riding[b]? = some v := hv
  obtain ⟨sp, hsp⟩ : ∃ sp, t.spots[b]? = some sp := ⟨_, List.getElem?_eq_getElem (by omega)⟩
  have hv1' : v < t.xs.length := by simpa [TY.plain] using hv1
  obtain ⟨t1, ht1⟩ : ∃ t1 : TY, t1 = ⟨t.xs, t.byID, t.riding, t.paused, t.spots.set b at_⟩ := ⟨_, rfl⟩
  have hI1 : WF n N t1.plain := by rw [ht1]; exact ⟨hI.riding, by simp [TY.plain]; exact hsl, hI.paused, hI.num, hI.ride, hI.legs, hI.ids⟩
  have hst1 : ∀ (X : List E.Item) (u : World), Mem w0 ([box a.sb 77 (yCells a t), rdRow a.rA a.rc t.xs, rdBag t.xs, blRow a.pA a.pc t.paused, inRow (some ⟨a.g, 0, none⟩) a.gc t.riding, E.rowT 58 4 Sp.cells (some ⟨a.s, 0, none⟩) a.sc (t.spots.set b at_), imap a.m (rmV t.byID)] ++ X) u → Mem w0 (stY a t1 ++ X) u := fun X u h => by
    have hc : yCells a t1 = yCells a t := by rw [ht1]; unfold yCells; simp
    show Mem w0 ([box a.sb 77 (yCells a t1), _, _, _, _, _, _] ++ X) u
    rw [hc, ht1]
    exact h
  refine H_enterM hw hmk Try.func59 rfl Try.ntmps59 rfl ?_
  refine H_seq ?_
  refine R0 ?_
  refine X_box (v := .agg _) rfl rfl fun b6 => ?_
  refine X_box (v := .agg _) rfl rfl fun b7 => ?_
  refine XN ?_
  refine thenJ_normal ?_
  refine H_seq ?_
  refine E.RT rfl rfl (by decide +kernel) ?_
  refine xV (e_mv (v := .pointer _) (q0 rfl)) rfl rfl ?_
  refine xV (e_nilc (q0 rfl)) rfl rfl ?_
  refine xV (e_fld Try.underlying77 rfl Try.sizeOf54 rfl (q0 rfl)) rfl rfl ?_
  refine xV (eL Try.isAgg54 (q0 rfl)) rfl rfl ?_
  refine xV (e_mv (v := .int _ _) (q0 rfl)) rfl rfl ?_
  refine xV (eS Try.isAgg58 Try.sizeOf58 (q0 rfl)) rfl rfl ?_
  refine xV (e_idx b Try.underlying54 Try.sizeOf58 (q0 rfl) (q0 rfl) (fun _ => ⟨rfl, by omega⟩)) rfl rfl ?_
  refine XN ?_
  refine thenJ_normal ?_
  refine X_eff (f_storeR0 7 at_ rfl rfl Try.sizeOf58 rfl rfl rfl hsp rfl rfl ?_)
  refine XN ?_
  refine thenJ_normal ?_
  refine H_seq ?_
  refine R0 ?_
  refine xV (e_mv (v := .pointer _) (q0 rfl)) rfl rfl ?_
  refine xV (e_nilc (q0 rfl)) rfl rfl ?_
  refine xV (e_fld Try.underlying77 rfl Try.sizeOf40 rfl (q0 rfl)) rfl rfl ?_
  refine xV (eL Try.isAgg40 (q0 rfl)) rfl rfl ?_
  refine xV (e_mv (v := .int _ _) (q0 rfl)) rfl rfl ?_
  refine xV (e_idx b Try.underlying40 Try.sizeOf3 (q0 rfl) (q0 rfl) (fun _ => ⟨rfl, by omega⟩)) rfl rfl ?_
  refine xV (e_ld (v := .int .i64 v) Try.isAgg3 (q0 rfl) (by exact rr0 6 (k := 1) (enc := encInt) rfl hvt rfl)) rfl rfl ?_
  refine xV (e_as (v := .int _ _) (q0 rfl)) rfl rfl ?_
  refine XN ?_
  refine thenJ_normal ?_
  refine H_seq ?_
  refine H_seq ?_
  refine R0 ?_
  refine xV (e_mv (v := .int _ _) (q0 rfl)) rfl rfl ?_
  refine xV (e_lt (q0 rfl) (q0 rfl)) rfl rfl ?_
  refine XN ?_
  refine thenJ_normal ?_
  refine H_cond rfl (fun hneg => ?_) (fun hneg => ?_)
  · have hneg' : v < 0 := by simpa using hneg
    refine H_ret ?_
    refine thenJ_ret ?_
    exact ret0 rfl hmk fun w' hw => ⟨⟨t1, by rw [ht1]; unfold leaveY TY.plain; simp only; rw [show t.riding.getD b 0 = v from hvg, if_pos hneg']⟩, rfl, hst1 L w' hw.tail.tail⟩
  · have hpos : 0 ≤ v := by simpa using hneg
    obtain ⟨k, rfl⟩ : ∃ k : Nat, v = k := ⟨v.toNat, by omega⟩
    have hk : k < t.xs.length := by omega
    obtain ⟨x, hx⟩ : ∃ x, t.xs[k]? = some x := ⟨_, List.getElem?_eq_getElem hk⟩
    obtain ⟨y, hy⟩ : ∃ y : RX, y = ⟨resumeR (t.paused.getD k false) wh x.r, x.a⟩ := ⟨_, rfl⟩
    obtain ⟨t2, ht2⟩ : ∃ t2 : TY, t2 = ⟨t.xs.set k y, t.byID, t.riding, t.paused.set k false, t.spots.set b at_⟩ := ⟨_, rfl⟩
    have hx1 : t1.xs[k]? = some x := by rw [ht1]; exact hx
    have hx2 : t2.xs[k]? = some y := by rw [ht2]; exact set_self hx
    have hlo := leg_of hI hx
    have hlo2 := resumeR_ok (p := t.paused.getD k false) (w := wh) hlo
    rw [show resumeR (t.paused.getD k false) wh x.r = y.r by rw [hy]] at hlo2
    have hI2 : WF n N t2.plain := by
      have := hI1.resume (k := k) (by rw [ht1]; simpa [TY.plain] using hk) wh
      have e : t2.plain = resumeY t1.plain k wh := by
        rw [ht2, ht1]; unfold resumeY TY.plain; simp only
        rw [map_setR, plain_getD hx, hy]
      rw [e]; exact this
    refine H_skip ?_
    refine thenJ_normal ?_
    refine H_seq ?_
    refine R0 ?_
    refine xV (e_mv (v := .pointer _) (q0 rfl)) rfl rfl ?_
    refine xV (e_mv (v := .int _ _) (q0 rfl)) rfl rfl ?_
    refine xV (eS Try.isAgg23 Try.sizeOf23 (q0 rfl)) rfl rfl ?_
    refine X_eff (f_callM (en Try.call58 (ha3 (q0 rfl) (q0 rfl) (q0 rfl))) (fun w hw => resume_w (a := a) (t := t1) (L := [_, _] ++ L) (hst1 _ _ (Mem.rot (X := [_, _]) (S := [box a.sb 77 (yCells a t), _, _, _, _, _, _]) hw)) hmk hI1 hN (by rw [ht1]; exact hk) hx1 wh) rfl (fun _ => rfl) fun u => ?_)
    refine XN ?_
    refine thenJ_normal ?_
    refine H_seq ?_
    refine H_mem (L' := stK a t2 k y ++ ([box b7 23 wh.cells, box b6 58 at_.cells] ++ L)) (fun w hw => openK (by
      have e : (⟨t1.xs.set k ⟨resumeR (t1.paused.getD k false) wh x.r, x.a⟩, t1.byID, t1.riding, t1.paused.set k false, t1.spots⟩ : TY) = t2 := by rw [ht2, ht1, hy]
      rw [e] at hw
      exact hw) hx2) rfl ?_
    have hkn : k < t2.xs.length := by rw [ht2]; simpa using hk
    have hv2 : t2.riding[b]? = some (k : Int) := by rw [ht2]; exact hvt
    have hcl := fun (z : RX) (w : World) => closeK (a := a) (t := t2) (w0 := w0) (w := w) (L := L) (m := t2.byID) (gs := t2.riding.set b (-1)) (ps := t2.paused) (ss := t2.spots) (k := k) z hkn (by simp) rfl rfl
    have hfin : ∀ (z : RX), z.r = finishR at_ wh y.r → (⟨t2.xs.set k z, t2.byID, t2.riding.set b (-1), t2.paused, t2.spots⟩ : TY).plain = leaveY t.plain b at_ wh := fun z hz => by
      unfold leaveY
      rw [hvg, if_neg (by omega)]
      simp only [Int.toNat_natCast]
      rw [ht2]
      unfold resumeY TY.plain
      simp only
      rw [plain_getD hx, map_setR, map_setR, List.set_set, List.set_set, hz, hy]
      have h8 : (t.xs.map (·.r))[k]? = some x.r := (xs_get hx).1
      rw [getD_of (set_self h8)]
    have hrl2 : t2.riding.length = n := by rw [ht2]; exact hrl
    obtain ⟨yr, ⟨lA, lc, pA, pc⟩⟩ := y
    simp only at hlo2 hfin
    refine H_know (fun w hw => rowT_at (j := 0) hw rfl (by omega)) fun ⟨rb, hrb⟩ => ?_
    refine H_know (fun w hw => rowT_at (j := 2) hw rfl (by simp only; omega)) fun ⟨lb, hlb⟩ => ?_
    obtain ⟨asb, arA, arc, am, ag, agc, apA, apc, as_, asc⟩ := a
    simp only at hrb hlb
    subst hrb
    subst hlb
    obtain ⟨g, hg⟩ : ∃ g, yr.legs[yr.legs.length - 1]? = some g := ⟨_, List.getElem?_eq_getElem (by omega)⟩
    refine R0 ?_
    refine xV (e_mv (v := .pointer _) (q0 rfl)) rfl rfl ?_
    refine xV (e_nilc (q0 rfl)) rfl rfl ?_
    refine xV (e_fld Try.underlying77 rfl Try.sizeOf32 rfl (q0 rfl)) rfl rfl ?_
    refine xV (eL Try.isAgg32 (q0 rfl)) rfl rfl ?_
    refine xV (e_mv (v := .int _ _) (q0 rfl)) rfl rfl ?_
    refine xV (e_idx k Try.underlying32 Try.sizeOf27 (q0 rfl) (q0 rfl) (fun _ => ⟨rfl, hkn⟩)) rfl rfl ?_
    refine xV (e_as (v := .pointer _) (q0 rfl)) rfl rfl ?_
    refine XN ?_
    refine thenJ_normal ?_
    refine H_seq ?_
    refine E.RT rfl rfl (by decide +kernel) ?_
    refine xV (e_mv (v := .pointer _) (q0 rfl)) rfl rfl ?_
    refine xV (e_nilc (q0 rfl)) rfl rfl ?_
    refine xV (e_fld Try.underlying27 rfl Try.sizeOf24 rfl (q0 rfl)) rfl rfl ?_
    refine xV (e_ld (v := .slice (some ⟨lb, 0, none⟩) yr.legs.length lc) Try.isAgg24 (q0 rfl) (by exact rr 0 (r := 7) rfl hx2 rfl)) rfl rfl ?_
    refine xV (e_mv (v := .pointer _) (q0 rfl)) rfl rfl ?_
    refine xV (e_nilc (q0 rfl)) rfl rfl ?_
    refine xV (e_fld Try.underlying27 rfl Try.sizeOf24 rfl (q0 rfl)) rfl rfl ?_
    refine xV (e_ld (v := .slice (some ⟨lb, 0, none⟩) yr.legs.length lc) Try.isAgg24 (q0 rfl) (by exact rr 0 (r := 7) rfl hx2 rfl)) rfl rfl ?_
    refine xV (e_len Try.underlying24 (q0 rfl)) rfl rfl ?_
    refine xV (e_sub (r := ((yr.legs.length - 1 : Nat) : Int)) (q0 rfl) (q0 rfl) (fun _ => ⟨by omega, by omega, by omega⟩)) rfl rfl ?_
    refine xV (eS Try.isAgg23 Try.sizeOf23 (q0 rfl)) rfl rfl ?_
    refine xV (e_idx (yr.legs.length - 1) Try.underlying24 Try.sizeOf52 (q0 rfl) (q0 rfl) (fun _ => ⟨rfl, by omega⟩)) rfl rfl ?_
    refine xV (e_fld Try.underlying52 rfl Try.sizeOf23 rfl (q0 rfl)) rfl rfl ?_
    refine XN ?_
    refine thenJ_normal ?_
    refine X_eff (f_storeR 2 (i := yr.legs.length - 1) (off := 3) { g with to_ := wh } rfl rfl Try.sizeOf23 rfl rfl rfl hg rfl rfl ?_)
    refine XN ?_
    refine thenJ_normal ?_
    refine H_seq ?_
    refine RAd 1 rfl (by decide +kernel) ?_
    refine aV 0 (by decide +kernel) rfl (e_mv (v := .pointer _) (q0 rfl)) rfl ?_
    refine aV 1 (by decide +kernel) rfl (e_mv (v := .pointer _) (q0 rfl)) rfl ?_
    refine aV 2 (by decide +kernel) rfl (e_mv (v := .pointer _) (q0 rfl)) rfl ?_
    refine aV 3 (by decide +kernel) rfl (e_mv (v := .pointer _) (q0 rfl)) rfl ?_
    refine aV 4 (by decide +kernel) rfl (eS Try.isAgg23 Try.sizeOf23 (q0 rfl)) rfl ?_
    refine aV 5 (by decide +kernel) rfl (e_fld Try.underlying58 rfl Try.sizeOf3 rfl (q0 rfl)) rfl ?_
    refine aV 6 (by decide +kernel) rfl (eL Try.isAgg3 (q0 rfl)) rfl ?_
    refine aV 7 (by decide +kernel) rfl (e_fld Try.underlying58 rfl Try.sizeOf3 rfl (q0 rfl)) rfl ?_
    refine aV 8 (by decide +kernel) rfl (eL Try.isAgg3 (q0 rfl)) rfl ?_
    refine aV 9 (by decide +kernel) rfl (e_nilc (q0 rfl)) rfl ?_
    refine aV 10 (by decide +kernel) rfl (e_fld Try.underlying27 rfl Try.sizeOf23 rfl (q0 rfl)) rfl ?_
    refine rdy1 (i := 11) (by decide +kernel) (sub_drop 1) ?_
    refine aL rfl (f_storeR 0 (i := k) (off := 4) ⟨{ yr with end_ := wh }, ⟨some ⟨lb, 0, none⟩, lc, pA, pc⟩⟩ rfl rfl Try.sizeOf23 rfl rfl rfl hx2 rfl rfl ?_)
    refine aV 12 (by decide +kernel) rfl (e_nilc (q0 rfl)) rfl ?_
    refine aV 13 (by decide +kernel) rfl (e_fld Try.underlying27 rfl Try.sizeOf4 rfl (q0 rfl)) rfl ?_
    refine rdy1 (i := 14) (by decide +kernel) (sub_drop 1) ?_
    refine aL rfl (f_storeR 0 (i := k) (off := 6) ⟨{ yr with end_ := wh, open_ := false }, ⟨some ⟨lb, 0, none⟩, lc, pA, pc⟩⟩ rfl rfl Try.sizeOf4 rfl rfl rfl (set_self hx2) rfl rfl ?_)
    refine aV 15 (by decide +kernel) rfl (e_nilc (q0 rfl)) rfl ?_
    refine aV 16 (by decide +kernel) rfl (e_fld Try.underlying27 rfl Try.sizeOf3 rfl (q0 rfl)) rfl ?_
    refine rdy1 (i := 17) (by decide +kernel) (sub_drop 1) ?_
    refine aL rfl (f_storeR 0 (i := k) (off := 11) ⟨{ yr with end_ := wh, open_ := false, wh := at_.where_ }, ⟨some ⟨lb, 0, none⟩, lc, pA, pc⟩⟩ rfl rfl Try.sizeOf3 rfl rfl rfl (set_self (set_self hx2)) rfl rfl ?_)
    refine aV 18 (by decide +kernel) rfl (e_nilc (q0 rfl)) rfl ?_
    refine aV 19 (by decide +kernel) rfl (e_fld Try.underlying27 rfl Try.sizeOf3 rfl (q0 rfl)) rfl ?_
    refine rdy1 (i := 20) (by decide +kernel) (sub_drop 1) ?_
    refine aL rfl (f_storeR 0 (i := k) (off := 12) ⟨{ yr with end_ := wh, open_ := false, wh := at_.where_, pl := at_.place }, ⟨some ⟨lb, 0, none⟩, lc, pA, pc⟩⟩ rfl rfl Try.sizeOf3 rfl rfl rfl (set_self (set_self (set_self hx2))) rfl rfl ?_)
    refine aZ (by decide +kernel) (sub_drop 1) ?_
    refine thenJ_normal ?_
    refine R0 ?_
    refine xV (e_mv (v := .pointer _) (q0 rfl)) rfl rfl ?_
    refine xV (e_nilc (q0 rfl)) rfl rfl ?_
    refine xV (e_fld Try.underlying77 rfl Try.sizeOf40 rfl (q0 rfl)) rfl rfl ?_
    refine xV (eL Try.isAgg40 (q0 rfl)) rfl rfl ?_
    refine xV (e_mv (v := .int _ _) (q0 rfl)) rfl rfl ?_
    refine xV (e_idx b Try.underlying40 Try.sizeOf3 (q0 rfl) (q0 rfl) (fun _ => ⟨rfl, by omega⟩)) rfl rfl ?_
    refine X_eff (f_storeR0 4 (k := 1) (enc := encInt) (-1) rfl rfl Try.sizeOf3 rfl rfl rfl hv2 rfl rfl ?_)
    refine XN ?_
    exact end0 rfl hmk fun w' hw => ⟨⟨_, hfin ⟨finishR at_ wh yr, ⟨some ⟨lb, 0, none⟩, lc, pA, pc⟩⟩ rfl⟩, rfl, hcl ⟨finishR at_ wh yr, ⟨some ⟨lb, 0, none⟩, lc, pA, pc⟩⟩ w' (by
      have h9 := hw.pickN 11 [0, 1, 2, 3, 4, 5, 6, 7, 8] (by decide) (by decide)
      have e1 : rdRow (some ⟨rb, 0, none⟩) arc (t2.xs.set k ⟨finishR at_ wh yr, ⟨some ⟨lb, 0, none⟩, lc, pA, pc⟩⟩) = rdRow (some ⟨rb, 0, none⟩) arc ((((t2.xs.set k ⟨{ yr with end_ := wh }, ⟨some ⟨lb, 0, none⟩, lc, pA, pc⟩⟩).set k ⟨{ yr with end_ := wh, open_ := false }, ⟨some ⟨lb, 0, none⟩, lc, pA, pc⟩⟩).set k ⟨{ yr with end_ := wh, open_ := false, wh := at_.where_ }, ⟨some ⟨lb, 0, none⟩, lc, pA, pc⟩⟩).set k ⟨{ yr with end_ := wh, open_ := false, wh := at_.where_, pl := at_.place }, ⟨some ⟨lb, 0, none⟩, lc, pA, pc⟩⟩) := by
        simp only [List.set_set]
        have := rowT_same (e := 27) (n := 13) (c := arc) (enc := RX.cells) (A := some ⟨rb, 0, none⟩) (k := k) (x := ⟨{ yr with end_ := wh, open_ := false, wh := at_.where_, pl := at_.place }, ⟨some ⟨lb, 0, none⟩, lc, pA, pc⟩⟩) (y := ⟨finishR at_ wh yr, ⟨some ⟨lb, 0, none⟩, lc, pA, pc⟩⟩) (set_self hx2) (by simp [RX.cells, Rd.cellsAt, finishR, endLeg])
        rw [List.set_set] at this
        exact this
      have e2 : (finishR at_ wh yr).legs = yr.legs.set (yr.legs.length - 1) { g with to_ := wh } := by unfold finishR; rw [endLeg_at hg]
      simp only
      rw [e1, e2]
      exact h9)⟩
end

end Go.Proofs.Rid

/-
  The walks: a ride begins; it goes on with another bicycle.
-/
namespace Go.Proofs.Rid
open Go Go.RowKit Go.Proofs.E Go.Proofs.Cus

section
variable {a : YA} {t : TY} {w0 w : World} {L : List E.Item} {n N : Nat}
abbrev YOut (a : YA) (p : SY) : Type := { y : YA × TY // y.1.sb = a.sb ∧ y.2.plain = p }
set_option maxHeartbeats 1000000 in
set_option maxRecDepth 20000 in
theorem begin_w (hw : Mem w0 (stY a t ++ L) w) (hmk : marks L = []) (hI : WF n N t.plain) (hN : N ≤ 100000) (e : Ev) (hb : 0 ≤ e.bike ∧ e.bike < n) (wh : Spn) :
    Calls Try.prog 56 #[.pointer (some ⟨a.sb, 0, none⟩), .agg e.cells.toArray, .agg wh.cells.toArray] w fun r w' => ∃ y : YOut a (beginY t.plain e wh), r = .returned (.tuple #[]) ∧ Mem w0 (stY y.1.1 y.1.2 ++ L) w' := by
  obtain ⟨hpl, hrl, hsl, hxl⟩ := len_of hI
  obtain ⟨k, hk⟩ : ∃ k : Nat, e.bike = k := ⟨e.bike.toNat, by omega⟩
  have hkn : k < n := by omega
  obtain ⟨sp, hsp⟩ : ∃ sp, t.spots[k]? = some sp := ⟨_, List.getElem?_eq_getElem (by omega)⟩
  obtain ⟨v, hv, hvg, hv0, hv1⟩ := riding_get hI hkn
  have hvt : t.riding[k]? = some v := hv
  have hspd : t.plain.spots.getD e.bike.toNat default = sp := by rw [hk]; exact getD_of hsp
  obtain ⟨ed, es, eat, el, ekind, ebike, epl, erd, erid⟩ := e
  simp only at hk hspd
  subst hk
  refine H_enterM hw hmk Try.func56 rfl Try.ntmps56 rfl ?_
  refine H_seq ?_
  refine R0 ?_
  refine X_box (v := .agg _) rfl rfl fun b4 => ?_
  refine X_box (v := .agg _) rfl rfl fun b5 => ?_
  refine XN ?_
  refine thenJ_normal ?_
  refine H_seq ?_
  refine RA rfl (by decide +kernel) ?_
  refine aV 0 (by decide +kernel) rfl (e_mv (v := .pointer _) (q0 rfl)) rfl ?_
  refine aV 1 (by decide +kernel) rfl (e_nilc (q0 rfl)) rfl ?_
  refine aV 2 (by decide +kernel) rfl (e_fld Try.underlying77 rfl Try.sizeOf54 rfl (q0 rfl)) rfl ?_
  refine aV 3 (by decide +kernel) rfl (eL Try.isAgg54 (q0 rfl)) rfl ?_
  refine aV 4 (by decide +kernel) rfl (e_fld Try.underlying50 rfl Try.sizeOf3 rfl (q0 rfl)) rfl ?_
  refine aV 5 (by decide +kernel) rfl (eL Try.isAgg3 (q0 rfl)) rfl ?_
  refine aV 6 (by decide +kernel) rfl (e_idx k Try.underlying54 Try.sizeOf58 (q0 rfl) (q0 rfl) (fun _ => ⟨rfl, by omega⟩)) rfl ?_
  refine aV 7 (by decide +kernel) rfl (eS Try.isAgg58 Try.sizeOf58 (q0 rfl)) rfl ?_
  refine rdy1 (i := 8) (by decide +kernel) (sub_drop 0) ?_
  refine aL rfl (f_alloc Try.zeroValue58 rfl fun b6 => ?_)
  refine rdy1 (i := 9) (by decide +kernel) (sub_drop 1) ?_
  refine aL rfl (f_st (v := .agg _) rfl rfl Try.sizeOf58 ?_)
  refine aZ (by decide +kernel) (sub_drop 1) ?_
  refine thenJ_normal ?_
  refine H_seq ?_
  refine E.RT rfl rfl (by decide +kernel) ?_
  refine xV (e_mv (v := .pointer _) (q0 rfl)) rfl rfl ?_
  refine xV (e_nilc (q0 rfl)) rfl rfl ?_
  refine xV (e_fld Try.underlying77 rfl Try.sizeOf74 rfl (q0 rfl)) rfl rfl ?_
  refine xV (eL Try.isAgg74 (q0 rfl)) rfl rfl ?_
  refine xV (e_fld Try.underlying50 rfl Try.sizeOf3 rfl (q0 rfl)) rfl rfl ?_
  refine xV (eL Try.isAgg3 (q0 rfl)) rfl rfl ?_
  refine xV (e_mv (v := .pointer _) (q0 rfl)) rfl rfl ?_
  refine xV (e_nilc (q0 rfl)) rfl rfl ?_
  refine xV (e_fld Try.underlying77 rfl Try.sizeOf32 rfl (q0 rfl)) rfl rfl ?_
  refine xV (eL Try.isAgg32 (q0 rfl)) rfl rfl ?_
  refine xV (e_len Try.underlying32 (q0 rfl)) rfl rfl ?_
  refine XN ?_
  refine thenJ_normal ?_
  refine X_eff (f_mapset 9 Try.underlying74 Try.underlying3 rfl rfl rfl rfl ?_)
  refine XN ?_
  refine thenJ_normal ?_
  refine H_seq ?_
  refine E.RT rfl rfl (by decide +kernel) ?_
  refine xV (e_mv (v := .pointer _) (q0 rfl)) rfl rfl ?_
  refine xV (e_nilc (q0 rfl)) rfl rfl ?_
  refine xV (e_fld Try.underlying77 rfl Try.sizeOf40 rfl (q0 rfl)) rfl rfl ?_
  refine xV (eL Try.isAgg40 (q0 rfl)) rfl rfl ?_
  refine xV (e_fld Try.underlying50 rfl Try.sizeOf3 rfl (q0 rfl)) rfl rfl ?_
  refine xV (eL Try.isAgg3 (q0 rfl)) rfl rfl ?_
  refine xV (e_mv (v := .pointer _) (q0 rfl)) rfl rfl ?_
  refine xV (e_nilc (q0 rfl)) rfl rfl ?_
  refine xV (e_fld Try.underlying77 rfl Try.sizeOf32 rfl (q0 rfl)) rfl rfl ?_
  refine xV (eL Try.isAgg32 (q0 rfl)) rfl rfl ?_
  refine xV (e_len Try.underlying32 (q0 rfl)) rfl rfl ?_
  refine xV (e_idx k Try.underlying40 Try.sizeOf3 (q0 rfl) (q0 rfl) (fun _ => ⟨rfl, by omega⟩)) rfl rfl ?_
  refine XN ?_
  refine thenJ_normal ?_
  refine X_eff (f_storeR0 7 (k := 1) (enc := encInt) (t.xs.length : Int) rfl rfl Try.sizeOf3 rfl rfl rfl hvt rfl rfl ?_)
  refine XN ?_
  refine thenJ_normal ?_
  refine H_seq ?_
  refine H_mem (fun w hw => hw.pickN 10 [3, 4, 0, 1, 2, 5, 6, 7, 8, 9] (by decide) (by decide)) rfl ?_
  refine H_cut [38, 39, 40, 41, 42, 43, 44, 45, 46, 47, 48, 49, 50, 51, 52, 53, 54, 55, 56, 57, 58, 59, 60, 61] (fun _ : Nat × Option Addr × Nat => []) (fun s => [pzRow none 0 [], lgRow (some ⟨s.1, 0, none⟩) 1 [⟨k, wh, zSpn⟩], box a.sb 77 [.slice s.2.1 (t.xs ++ [(⟨newR ⟨ed, es, eat, el, ekind, k, epl, erd, erid⟩ sp wh, ⟨some ⟨s.1, 0, none⟩, 1, none, 0⟩⟩ : RX)]).length s.2.2, .map (some a.m), .slice (some ⟨a.g, 0, none⟩) t.riding.length a.gc, .slice a.pA t.paused.length a.pc, .slice (some ⟨a.s, 0, none⟩) t.spots.length a.sc], rdRow s.2.1 s.2.2 (t.xs ++ [(⟨newR ⟨ed, es, eat, el, ekind, k, epl, erd, erid⟩ sp wh, ⟨some ⟨s.1, 0, none⟩, 1, none, 0⟩⟩ : RX)]), rdBag t.xs, blRow a.pA a.pc t.paused, inRow (some ⟨a.g, 0, none⟩) a.gc (t.riding.set k t.xs.length), E.rowT 58 4 Sp.cells (some ⟨a.s, 0, none⟩) a.sc t.spots, imap a.m (mput (rmV t.byID) erid (.int .i64 t.xs.length))] ++ L) (fun _ => True) ?_ ?_
  · refine RAd 2 rfl (by decide +kernel) ?_
    refine aV 0 (by decide +kernel) rfl (e_mv (v := .pointer _) (q0 rfl)) rfl ?_
    refine aV 1 (by decide +kernel) rfl (e_mv (v := .pointer _) (q0 rfl)) rfl ?_
    refine aV 2 (by decide +kernel) rfl (e_nilc (q0 rfl)) rfl ?_
    refine aV 3 (by decide +kernel) rfl (e_fld Try.underlying77 rfl Try.sizeOf32 rfl (q0 rfl)) rfl ?_
    refine aV 5 (by decide +kernel) rfl (e_fld Try.underlying50 rfl Try.sizeOf3 rfl (q0 rfl)) rfl ?_
    refine aV 6 (by decide +kernel) rfl (eL Try.isAgg3 (q0 rfl)) rfl ?_
    refine aV 7 (by decide +kernel) rfl (e_fld Try.underlying50 rfl Try.sizeOf3 rfl (q0 rfl)) rfl ?_
    refine aV 8 (by decide +kernel) rfl (eL Try.isAgg3 (q0 rfl)) rfl ?_
    refine aV 9 (by decide +kernel) rfl (eS Try.isAgg23 Try.sizeOf23 (q0 rfl)) rfl ?_
    refine aV 10 (by decide +kernel) rfl (e_fld Try.underlying50 rfl Try.sizeOf3 rfl (q0 rfl)) rfl ?_
    refine aV 11 (by decide +kernel) rfl (eL Try.isAgg3 (q0 rfl)) rfl ?_
    refine aV 12 (by decide +kernel) rfl (eS Try.isAgg23 Try.sizeOf23 (q0 rfl)) rfl ?_
    refine aV 13 (by decide +kernel) rfl (e_build Try.underlying52 fl52 Try.zeroValue52 (pt (v := .int _ _) rfl (pt (v := .agg _) rfl E.p0)) rfl) rfl ?_
    refine aV 15 (by decide +kernel) rfl (e_fld Try.underlying58 rfl Try.sizeOf3 rfl (q0 rfl)) rfl ?_
    refine aV 16 (by decide +kernel) rfl (eL Try.isAgg3 (q0 rfl)) rfl ?_
    refine aV 17 (by decide +kernel) rfl (e_fld Try.underlying58 rfl Try.sizeOf3 rfl (q0 rfl)) rfl ?_
    refine aV 18 (by decide +kernel) rfl (eL Try.isAgg3 (q0 rfl)) rfl ?_
    refine rdy2 (i := 4) (j := 14) (by decide +kernel) (sub_drop 2) ?_ ?_
    · refine aL rfl (f_ev (e_ld (v := .slice a.rA t.xs.length a.rc) Try.isAgg32 (q0 rfl) (by first | exact bx 0 rfl rfl | exact bx 1 rfl rfl | exact bx 2 rfl rfl | exact bx 3 rfl rfl | exact bx 4 rfl rfl | exact bx 5 rfl rfl | exact bx 6 rfl rfl | exact bx 7 rfl rfl | exact bx 8 rfl rfl | exact bx 9 rfl rfl | exact rc ‹_› ‹_› rfl | exact rc0 ‹_› ‹_› rfl | exact xc ‹_› ‹_› | exact rr 0 rfl ‹_› rfl | exact rr0 0 rfl ‹_› rfl | exact rr 1 rfl ‹_› rfl | exact rr0 1 rfl ‹_› rfl | exact rr 2 rfl ‹_› rfl | exact rr0 2 rfl ‹_› rfl | exact rr 3 rfl ‹_› rfl | exact rr0 3 rfl ‹_› rfl | exact rr 4 rfl ‹_› rfl | exact rr0 4 rfl ‹_› rfl | exact rr 5 rfl ‹_› rfl | exact rr0 5 rfl ‹_› rfl | exact rr 6 rfl ‹_› rfl | exact rr0 6 rfl ‹_› rfl | exact rr 7 rfl ‹_› rfl | exact rr0 7 rfl ‹_› rfl)) rfl rfl ?_)
      refine rdy1 (i := 14) (by decide +kernel) (sub_drop 2) ?_
      refine aL rfl (f_slit [(.int .i64 0), (.int .i64 0), (.int .i64 0), (.int .i64 0), (.int .i64 0)] Try.underlying24 Try.sizeOf52 Try.zeroValue52 rfl (by kernel_rfl) (pt (v := .agg _) rfl E.p0) rfl rfl fun b52 => ?_)
      refine aV 19 (by decide +kernel) rfl (e_build Try.underlying27 fl27 Try.zeroValue27 (pt (v := .int _ _) rfl (pt (v := .int _ _) rfl (pt (v := .agg _) rfl (pt (v := .bool _) rfl (pt (v := .slice _ _ _) rfl (pt (v := .int _ _) rfl (pt (v := .int _ _) rfl (pt (v := .int _ _) rfl E.p0)))))))) rfl) rfl ?_
      refine rdy1 (i := 20) (by decide +kernel) (sub_drop 3) ?_
      refine aL rfl (f_slit [(.int .i64 0), (.int .i64 0), (.int .i64 0), (.int .i64 0), (.int .i64 0), (.int .i64 0), (.bool false), (.slice none 0 0), (.slice none 0 0), (.int .i64 0), (.int .i64 0), (.int .i64 0), (.int .i64 0)] Try.underlying32 Try.sizeOf27 Try.zeroValue27 rfl (by kernel_rfl) (pt (v := .agg _) rfl E.p0) rfl rfl fun b58 => ?_)
      refine aI 1 ?_
      refine rdy1 (i := 21) (by decide +kernel) (sub_drop 4) ?_
      refine aL rfl (f_append (k := 13) (i := Try.t27) (enc := RX.cells) 3 Try.underlying32 (by kernel_rfl) rfl rfl rfl rfl (fun _ => rfl) (fun _ => rfl) rfl rfl rfl (fun w hw => slAt_box (enc := RX.cells) (xs := [⟨newR ⟨ed, es, eat, el, ekind, k, epl, erd, erid⟩ sp wh, ⟨some ⟨b52, 0, none⟩, 1, none, 0⟩⟩]) hw (j := 1) rfl (fun _ => rfl) (by simp)) ⟨by simp; omega, by decide⟩ rfl fun A1 c1 => ?_)
      refine aV 22 (by decide +kernel) rfl (e_nilc (q0 rfl)) rfl ?_
      refine aV 23 (by decide +kernel) rfl (e_fld Try.underlying77 rfl Try.sizeOf32 rfl (q0 rfl)) rfl ?_
      refine rdy1 (i := 24) (by decide +kernel) (sub_drop 4) ?_
      refine aL rfl (f_st (v := .slice _ _ _) rfl rfl Try.sizeOf32 ?_)
      refine aZ (by decide +kernel) (sub_drop 4) ?_
      exact cutJ_normal ((b52, A1, c1) : Nat × Option Addr × Nat) (by repeat (first | exact agree_self | exact agree_over | refine agree_upd rfl ?_ | refine agree_updL rfl ?_ | refine agree_over2 rfl ?_)) trivial (fun w hw => by have h1 := hw.pickN 12 [0, 2, 3, 7, 8, 9, 10, 11] (by decide) (by decide); have h2 := h1.boxRow (j := 0) (b := b52) (e := 52) (n := 5) (enc := Lg.cells) (xs := [⟨k, wh, zSpn⟩]) rfl (fun _ => rfl) (by simp); have h3 := h2.nilRow 71 4 Pz.cells (c := 0) rfl; exact h3) rfl trivial
    · refine aL rfl (f_slit [(.int .i64 0), (.int .i64 0), (.int .i64 0), (.int .i64 0), (.int .i64 0)] Try.underlying24 Try.sizeOf52 Try.zeroValue52 rfl (by kernel_rfl) (pt (v := .agg _) rfl E.p0) rfl rfl fun b52 => ?_)
      refine aV 19 (by decide +kernel) rfl (e_build Try.underlying27 fl27 Try.zeroValue27 (pt (v := .int _ _) rfl (pt (v := .int _ _) rfl (pt (v := .agg _) rfl (pt (v := .bool _) rfl (pt (v := .slice _ _ _) rfl (pt (v := .int _ _) rfl (pt (v := .int _ _) rfl (pt (v := .int _ _) rfl E.p0)))))))) rfl) rfl ?_
      refine rdy2 (i := 4) (j := 20) (by decide +kernel) (sub_drop 3) ?_ ?_
      · refine aL rfl (f_ev (e_ld (v := .slice a.rA t.xs.length a.rc) Try.isAgg32 (q0 rfl) (by first | exact bx 0 rfl rfl | exact bx 1 rfl rfl | exact bx 2 rfl rfl | exact bx 3 rfl rfl | exact bx 4 rfl rfl | exact bx 5 rfl rfl | exact bx 6 rfl rfl | exact bx 7 rfl rfl | exact bx 8 rfl rfl | exact bx 9 rfl rfl | exact rc ‹_› ‹_› rfl | exact rc0 ‹_› ‹_› rfl | exact xc ‹_› ‹_› | exact rr 0 rfl ‹_› rfl | exact rr0 0 rfl ‹_› rfl | exact rr 1 rfl ‹_› rfl | exact rr0 1 rfl ‹_› rfl | exact rr 2 rfl ‹_› rfl | exact rr0 2 rfl ‹_› rfl | exact rr 3 rfl ‹_› rfl | exact rr0 3 rfl ‹_› rfl | exact rr 4 rfl ‹_› rfl | exact rr0 4 rfl ‹_› rfl | exact rr 5 rfl ‹_› rfl | exact rr0 5 rfl ‹_› rfl | exact rr 6 rfl ‹_› rfl | exact rr0 6 rfl ‹_› rfl | exact rr 7 rfl ‹_› rfl | exact rr0 7 rfl ‹_› rfl)) rfl rfl ?_)
        refine rdy1 (i := 20) (by decide +kernel) (sub_drop 3) ?_
        refine aL rfl (f_slit [(.int .i64 0), (.int .i64 0), (.int .i64 0), (.int .i64 0), (.int .i64 0), (.int .i64 0), (.bool false), (.slice none 0 0), (.slice none 0 0), (.int .i64 0), (.int .i64 0), (.int .i64 0), (.int .i64 0)] Try.underlying32 Try.sizeOf27 Try.zeroValue27 rfl (by kernel_rfl) (pt (v := .agg _) rfl E.p0) rfl rfl fun b58 => ?_)
        refine aI 1 ?_
        refine rdy1 (i := 21) (by decide +kernel) (sub_drop 4) ?_
        refine aL rfl (f_append (k := 13) (i := Try.t27) (enc := RX.cells) 3 Try.underlying32 (by kernel_rfl) rfl rfl rfl rfl (fun _ => rfl) (fun _ => rfl) rfl rfl rfl (fun w hw => slAt_box (enc := RX.cells) (xs := [⟨newR ⟨ed, es, eat, el, ekind, k, epl, erd, erid⟩ sp wh, ⟨some ⟨b52, 0, none⟩, 1, none, 0⟩⟩]) hw (j := 1) rfl (fun _ => rfl) (by simp)) ⟨by simp; omega, by decide⟩ rfl fun A1 c1 => ?_)
        refine aV 22 (by decide +kernel) rfl (e_nilc (q0 rfl)) rfl ?_
        refine aV 23 (by decide +kernel) rfl (e_fld Try.underlying77 rfl Try.sizeOf32 rfl (q0 rfl)) rfl ?_
        refine rdy1 (i := 24) (by decide +kernel) (sub_drop 4) ?_
        refine aL rfl (f_st (v := .slice _ _ _) rfl rfl Try.sizeOf32 ?_)
        refine aZ (by decide +kernel) (sub_drop 4) ?_
        exact cutJ_normal ((b52, A1, c1) : Nat × Option Addr × Nat) (by repeat (first | exact agree_self | exact agree_over | refine agree_upd rfl ?_ | refine agree_updL rfl ?_ | refine agree_over2 rfl ?_)) trivial (fun w hw => by have h1 := hw.pickN 12 [0, 2, 3, 7, 8, 9, 10, 11] (by decide) (by decide); have h2 := h1.boxRow (j := 0) (b := b52) (e := 52) (n := 5) (enc := Lg.cells) (xs := [⟨k, wh, zSpn⟩]) rfl (fun _ => rfl) (by simp); have h3 := h2.nilRow 71 4 Pz.cells (c := 0) rfl; exact h3) rfl trivial
      · refine aL rfl (f_slit [(.int .i64 0), (.int .i64 0), (.int .i64 0), (.int .i64 0), (.int .i64 0), (.int .i64 0), (.bool false), (.slice none 0 0), (.slice none 0 0), (.int .i64 0), (.int .i64 0), (.int .i64 0), (.int .i64 0)] Try.underlying32 Try.sizeOf27 Try.zeroValue27 rfl (by kernel_rfl) (pt (v := .agg _) rfl E.p0) rfl rfl fun b58 => ?_)
        refine aI 1 ?_
        refine rdy1 (i := 4) (by decide +kernel) (sub_drop 4) ?_
        refine aL rfl (f_ev (e_ld (v := .slice a.rA t.xs.length a.rc) Try.isAgg32 (q0 rfl) (by first | exact bx 0 rfl rfl | exact bx 1 rfl rfl | exact bx 2 rfl rfl | exact bx 3 rfl rfl | exact bx 4 rfl rfl | exact bx 5 rfl rfl | exact bx 6 rfl rfl | exact bx 7 rfl rfl | exact bx 8 rfl rfl | exact bx 9 rfl rfl | exact rc ‹_› ‹_› rfl | exact rc0 ‹_› ‹_› rfl | exact xc ‹_› ‹_› | exact rr 0 rfl ‹_› rfl | exact rr0 0 rfl ‹_› rfl | exact rr 1 rfl ‹_› rfl | exact rr0 1 rfl ‹_› rfl | exact rr 2 rfl ‹_› rfl | exact rr0 2 rfl ‹_› rfl | exact rr 3 rfl ‹_› rfl | exact rr0 3 rfl ‹_› rfl | exact rr 4 rfl ‹_› rfl | exact rr0 4 rfl ‹_› rfl | exact rr 5 rfl ‹_› rfl | exact rr0 5 rfl ‹_› rfl | exact rr 6 rfl ‹_› rfl | exact rr0 6 rfl ‹_› rfl | exact rr 7 rfl ‹_› rfl | exact rr0 7 rfl ‹_› rfl)) rfl rfl ?_)
        refine rdy1 (i := 21) (by decide +kernel) (sub_drop 4) ?_
        refine aL rfl (f_append (k := 13) (i := Try.t27) (enc := RX.cells) 3 Try.underlying32 (by kernel_rfl) rfl rfl rfl rfl (fun _ => rfl) (fun _ => rfl) rfl rfl rfl (fun w hw => slAt_box (enc := RX.cells) (xs := [⟨newR ⟨ed, es, eat, el, ekind, k, epl, erd, erid⟩ sp wh, ⟨some ⟨b52, 0, none⟩, 1, none, 0⟩⟩]) hw (j := 1) rfl (fun _ => rfl) (by simp)) ⟨by simp; omega, by decide⟩ rfl fun A1 c1 => ?_)
        refine aV 22 (by decide +kernel) rfl (e_nilc (q0 rfl)) rfl ?_
        refine aV 23 (by decide +kernel) rfl (e_fld Try.underlying77 rfl Try.sizeOf32 rfl (q0 rfl)) rfl ?_
        refine rdy1 (i := 24) (by decide +kernel) (sub_drop 4) ?_
        refine aL rfl (f_st (v := .slice _ _ _) rfl rfl Try.sizeOf32 ?_)
        refine aZ (by decide +kernel) (sub_drop 4) ?_
        exact cutJ_normal ((b52, A1, c1) : Nat × Option Addr × Nat) (by repeat (first | exact agree_self | exact agree_over | refine agree_upd rfl ?_ | refine agree_updL rfl ?_ | refine agree_over2 rfl ?_)) trivial (fun w hw => by have h1 := hw.pickN 12 [0, 2, 3, 7, 8, 9, 10, 11] (by decide) (by decide); have h2 := h1.boxRow (j := 0) (b := b52) (e := 52) (n := 5) (enc := Lg.cells) (xs := [⟨k, wh, zSpn⟩]) rfl (fun _ => rfl) (by simp); have h3 := h2.nilRow 71 4 Pz.cells (c := 0) rfl; exact h3) rfl trivial
  · rintro ⟨lb, A1, c1⟩ g5 _
    refine thenJ_normal ?_
    refine R0 ?_
    refine xV (e_mv (v := .pointer _) (q0 rfl)) rfl rfl ?_
    refine xV (e_mv (v := .pointer _) (q0 rfl)) rfl rfl ?_
    refine xV (e_nilc (q0 rfl)) rfl rfl ?_
    refine xV (e_fld Try.underlying77 rfl Try.sizeOf75 rfl (q0 rfl)) rfl rfl ?_
    refine xV (eL Try.isAgg75 (q0 rfl)) rfl rfl ?_
    refine X_push (k := 1) (i := Try.t4) 5 (false) Try.underlying75 (by kernel_rfl) rfl rfl rfl rfl Try.sizeOf4 Try.zeroValue4 rfl rfl rfl rfl rfl rfl ⟨by omega, by decide⟩ rfl rfl fun PB A2 c2 => ?_
    refine xV (e_nilc (q0 rfl)) rfl rfl ?_
    refine xV (e_fld Try.underlying77 rfl Try.sizeOf75 rfl (q0 rfl)) rfl rfl ?_
    refine X_st (v := .slice _ _ _) rfl rfl Try.sizeOf75 ?_
    refine XN ?_
    exact end0 rfl hmk fun w' hw => ⟨⟨(⟨a.sb, A1, c1, a.m, a.g, a.gc, A2, c2, a.s, a.sc⟩, ⟨t.xs ++ [⟨newR ⟨ed, es, eat, el, ekind, k, epl, erd, erid⟩ sp wh, ⟨some ⟨lb, 0, none⟩, 1, none, 0⟩⟩], rput t.byID erid t.xs.length, t.riding.set k t.xs.length, t.paused ++ [false], t.spots⟩), rfl, by
      unfold beginY TY.plain
      unfold TY.plain at hspd
      simp only at hspd ⊢
      rw [hspd]
      simp⟩, rfl, by
      have h1 := hw.pickN 9 [1, 0, 4, 2, 3, 5, 6, 7, 8] (by decide) (by decide)
      have h2 := Mem.pushed (f := rdParts) (y := ⟨newR ⟨ed, es, eat, el, ekind, k, epl, erd, erid⟩ sp wh, ⟨some ⟨lb, 0, none⟩, 1, none, 0⟩⟩) (xs := t.xs) h1
      have h3 := h2.pickN 7 [1, 2, 0, 3, 4, 5, 6] (by decide) (by decide)
      rw [rmV_put] at h3
      have hc : yCells ⟨a.sb, A1, c1, a.m, a.g, a.gc, A2, c2, a.s, a.sc⟩ ⟨t.xs ++ [⟨newR ⟨ed, es, eat, el, ekind, k, epl, erd, erid⟩ sp wh, ⟨some ⟨lb, 0, none⟩, 1, none, 0⟩⟩], rput t.byID erid t.xs.length, t.riding.set k t.xs.length, t.paused ++ [false], t.spots⟩ = [.slice A1 (t.xs ++ [(⟨newR ⟨ed, es, eat, el, ekind, k, epl, erd, erid⟩ sp wh, ⟨some ⟨lb, 0, none⟩, 1, none, 0⟩⟩ : RX)]).length c1, .map (some a.m), .slice (some ⟨a.g, 0, none⟩) t.riding.length a.gc, .slice A2 (t.paused ++ [false]).length c2, .slice (some ⟨a.s, 0, none⟩) t.spots.length a.sc] := by unfold yCells; simp
      show Mem w0 ([box a.sb 77 (yCells _ _), _, _, _, _, _, _] ++ L) w'
      rw [hc]
      exact h3⟩
set_option maxHeartbeats 1000000 in
set_option maxRecDepth 20000 in
theorem change_w (hw : Mem w0 (stY a t ++ L) w) (hmk : marks L = []) (hI : WF n N t.plain) (hN : N ≤ 100000) (e : Ev) (hb : 0 ≤ e.bike ∧ e.bike < n) (wh : Spn) :
    Calls Try.prog 57 #[.pointer (some ⟨a.sb, 0, none⟩), .agg e.cells.toArray, .agg wh.cells.toArray] w fun r w' => ∃ y : YOut a (changeY t.plain e wh), r = .returned (.tuple #[]) ∧ Mem w0 (stY y.1.1 y.1.2 ++ L) w' := by
  obtain ⟨hpl, hrl, hsl, hxl⟩ := len_of hI
  obtain ⟨k, hk⟩ : ∃ k : Nat, e.bike = k := ⟨e.bike.toNat, by omega⟩
  have hkn : k < n := by omega
  obtain ⟨sp, hsp⟩ : ∃ sp, t.spots[k]? = some sp := ⟨_, List.getElem?_eq_getElem (by omega)⟩
  have hspd : t.plain.spots.getD e.bike.toNat default = sp := by rw [hk]; exact getD_of hsp
  have hlk := rmV_look t.byID e.ride
  have hids := hI.ids e.ride
  obtain ⟨ed, es, eat, el, ekind, ebike, epl, erd, erid⟩ := e
  simp only at hk hspd hlk hids
  subst hk
  cases hr : rget t.byID erid with
  | none =>
    rw [hr] at hlk
    refine H_enterM hw hmk Try.func57 rfl Try.ntmps57 rfl ?_
    refine H_seq ?_
    refine R0 ?_
    refine X_box (v := .agg _) rfl rfl fun b4 => ?_
    refine X_box (v := .agg _) rfl rfl fun b5 => ?_
    refine XN ?_
    refine thenJ_normal ?_
    refine H_seq ?_
    refine R1 rfl (by decide +kernel) ?_
    refine xV (e_mv (v := .pointer _) (q0 rfl)) rfl rfl ?_
    refine xV (e_nilc (q0 rfl)) rfl rfl ?_
    refine xV (e_fld Try.underlying77 rfl Try.sizeOf74 rfl (q0 rfl)) rfl rfl ?_
    refine xV (eL Try.isAgg74 (q0 rfl)) rfl rfl ?_
    refine xV (e_fld Try.underlying50 rfl Try.sizeOf3 rfl (q0 rfl)) rfl rfl ?_
    refine xV (eL Try.isAgg3 (q0 rfl)) rfl rfl ?_
    refine xV (e_lookok 8 (u := .int .i64 0) (bb := false) Try.underlying74 Try.underlying3 Try.zeroValue3 (q0 rfl) (q0 rfl) rfl (fun _ => by rw [hlk]; exact ⟨rfl, rfl⟩)) rfl rfl ?_
    refine xV (e_mv (q0 rfl)) rfl rfl ?_
    refine xV (e_ext (q0 rfl) rfl) rfl rfl ?_
    refine xV (e_ext (q0 rfl) rfl) rfl rfl ?_
    refine xV (e_as (v := .int _ _) (q0 rfl)) rfl rfl ?_
    refine xV (e_as (v := .bool _) (q0 rfl)) rfl rfl ?_
    refine XN ?_
    refine thenJ_normal ?_
    refine H_seq ?_
    refine H_seq ?_
    refine R0 ?_
    refine xV (e_mv (v := .bool _) (q0 rfl)) rfl rfl ?_
    refine xV (e_not (q0 rfl)) rfl rfl ?_
    refine XN ?_
    refine thenJ_normal ?_
    refine H_cond rfl (fun h1 => ?_) (fun h1 => ?_)
    · refine H_ret ?_
      refine thenJ_ret ?_
      exact ret0 rfl hmk fun w' hw => ⟨⟨(a, t), rfl, by unfold changeY; rw [show rget t.plain.byID erid = none from hr]⟩, rfl, hw.tail.tail⟩
    · cases h1
  | some kk =>
    rw [hr] at hlk
    obtain ⟨hk0, hk1⟩ := hids kk hr
    obtain ⟨q, rfl⟩ : ∃ q : Nat, kk = q := ⟨kk.toNat, by omega⟩
    have hq : q < t.xs.length := by simpa [TY.plain] using hk1
    obtain ⟨x, hx⟩ : ∃ x, t.xs[q]? = some x := ⟨_, List.getElem?_eq_getElem hq⟩
    have hlo := leg_of hI hx
    have hxd := plain_getD hx
    have hop := fun (X : List E.Item) (w : World) (h : Mem w0 (stY a t ++ X) w) => openK h hx
    have hcl := fun (z : RX) (gs : List Int) (ss : List Sp) (w : World) => closeK (a := a) (t := t) (w0 := w0) (w := w) (L := L) (m := t.byID) (gs := gs) (ps := t.paused) (ss := ss) (k := q) z hq
    refine H_enterM hw hmk Try.func57 rfl Try.ntmps57 rfl ?_
    refine H_seq ?_
    refine R0 ?_
    refine X_box (v := .agg _) rfl rfl fun b4 => ?_
    refine X_box (v := .agg _) rfl rfl fun b5 => ?_
    refine XN ?_
    refine thenJ_normal ?_
    refine H_seq ?_
    refine R1 rfl (by decide +kernel) ?_
    refine xV (e_mv (v := .pointer _) (q0 rfl)) rfl rfl ?_
    refine xV (e_nilc (q0 rfl)) rfl rfl ?_
    refine xV (e_fld Try.underlying77 rfl Try.sizeOf74 rfl (q0 rfl)) rfl rfl ?_
    refine xV (eL Try.isAgg74 (q0 rfl)) rfl rfl ?_
    refine xV (e_fld Try.underlying50 rfl Try.sizeOf3 rfl (q0 rfl)) rfl rfl ?_
    refine xV (eL Try.isAgg3 (q0 rfl)) rfl rfl ?_
    refine xV (e_lookok 8 (u := .int .i64 q) (bb := true) Try.underlying74 Try.underlying3 Try.zeroValue3 (q0 rfl) (q0 rfl) rfl (fun _ => by rw [hlk]; exact ⟨rfl, rfl⟩)) rfl rfl ?_
    refine xV (e_mv (q0 rfl)) rfl rfl ?_
    refine xV (e_ext (q0 rfl) rfl) rfl rfl ?_
    refine xV (e_ext (q0 rfl) rfl) rfl rfl ?_
    refine xV (e_as (v := .int _ _) (q0 rfl)) rfl rfl ?_
    refine xV (e_as (v := .bool _) (q0 rfl)) rfl rfl ?_
    refine XN ?_
    refine thenJ_normal ?_
    refine H_seq ?_
    refine H_seq ?_
    refine R0 ?_
    refine xV (e_mv (v := .bool _) (q0 rfl)) rfl rfl ?_
    refine xV (e_not (q0 rfl)) rfl rfl ?_
    refine XN ?_
    refine thenJ_normal ?_
    refine H_cond rfl (fun h1 => ?_) (fun h1 => ?_)
    · cases h1
    · have _ht : True := trivial
      refine H_skip ?_
      refine thenJ_normal ?_
      refine H_seq ?_
      refine H_mem (fun w hw => hop _ w (Mem.rot (X := [_, _]) (S := stY a t) hw)) rfl ?_
      refine H_know (fun w hw => rowT_at (j := 0) hw rfl (by omega)) fun ⟨rb, hrb⟩ => ?_
      refine H_know (fun w hw => rowT_at (j := 2) hw rfl hlo.1) fun ⟨lb, hlb⟩ => ?_
      obtain ⟨asb, arA, arc, am, ag, agc, apA, apc, as_, asc⟩ := a
      obtain ⟨xr, ⟨lA, lc, pA, pc⟩⟩ := x
      simp only at hrb hlb hlo
      subst hrb
      subst hlb
      obtain ⟨g, hg⟩ : ∃ g, xr.legs[xr.legs.length - 1]? = some g := ⟨_, List.getElem?_eq_getElem (by omega)⟩
      have hgb := hlo.2.2.2 g (List.mem_of_getElem? hg)
      obtain ⟨gb, gf, gt⟩ := g
      simp only at hgb
      obtain ⟨j, rfl⟩ : ∃ j : Nat, gb = j := ⟨gb.toNat, by omega⟩
      have hjn : j < n := by omega
      obtain ⟨vj, hvj⟩ : ∃ v, t.riding[j]? = some v := ⟨_, List.getElem?_eq_getElem (by omega)⟩
      obtain ⟨vk, hvk⟩ : ∃ v, (t.riding.set j (-1))[k]? = some v := ⟨_, List.getElem?_eq_getElem (by simp; omega)⟩
      obtain ⟨sj, hsj⟩ : ∃ s, t.spots[j]? = some s := ⟨_, List.getElem?_eq_getElem (by omega)⟩
      refine R0 ?_
      refine xV (e_mv (v := .pointer _) (q0 rfl)) rfl rfl ?_
      refine xV (e_nilc (q0 rfl)) rfl rfl ?_
      refine xV (e_fld Try.underlying77 rfl Try.sizeOf32 rfl (q0 rfl)) rfl rfl ?_
      refine xV (eL Try.isAgg32 (q0 rfl)) rfl rfl ?_
      refine xV (e_mv (v := .int _ _) (q0 rfl)) rfl rfl ?_
      refine xV (e_idx q Try.underlying32 Try.sizeOf27 (q0 rfl) (q0 rfl) (fun _ => ⟨rfl, hq⟩)) rfl rfl ?_
      refine xV (e_fld Try.underlying27 rfl Try.sizeOf24 rfl (q0 rfl)) rfl rfl ?_
      refine xV (e_ld (v := .slice (some ⟨lb, 0, none⟩) xr.legs.length lc) Try.isAgg24 (q0 rfl) (by exact rr 0 (r := 7) rfl hx rfl)) rfl rfl ?_
      refine xV (e_as (v := .slice _ _ _) (q0 rfl)) rfl rfl ?_
      refine XN ?_
      refine thenJ_normal ?_
      refine H_seq ?_
      refine R0 ?_
      refine xV (e_mv (v := .slice _ _ _) (q0 rfl)) rfl rfl ?_
      refine xV (e_len Try.underlying24 (q0 rfl)) rfl rfl ?_
      refine xV (e_sub (r := ((xr.legs.length - 1 : Nat) : Int)) (q0 rfl) (q0 rfl) (fun _ => ⟨by omega, by omega, by omega⟩)) rfl rfl ?_
      refine xV (e_as (v := .int _ _) (q0 rfl)) rfl rfl ?_
      refine XN ?_
      refine thenJ_normal ?_
      refine H_seq ?_
      refine R0 ?_
      refine xV (e_mv (v := .slice _ _ _) (q0 rfl)) rfl rfl ?_
      refine xV (e_mv (v := .int _ _) (q0 rfl)) rfl rfl ?_
      refine xV (eS Try.isAgg23 Try.sizeOf23 (q0 rfl)) rfl rfl ?_
      refine xV (e_idx (xr.legs.length - 1) Try.underlying24 Try.sizeOf52 (q0 rfl) (q0 rfl) (fun _ => ⟨rfl, by omega⟩)) rfl rfl ?_
      refine xV (e_fld Try.underlying52 rfl Try.sizeOf23 rfl (q0 rfl)) rfl rfl ?_
      refine X_eff (f_storeR 2 (i := xr.legs.length - 1) (off := 3) ⟨j, gf, wh⟩ rfl rfl Try.sizeOf23 rfl rfl rfl hg rfl rfl ?_)
      refine XN ?_
      refine thenJ_normal ?_
      refine H_seq ?_
      refine R0 ?_
      refine xV (e_mv (v := .slice _ _ _) (q0 rfl)) rfl rfl ?_
      refine xV (e_mv (v := .int _ _) (q0 rfl)) rfl rfl ?_
      refine xV (e_idx (xr.legs.length - 1) Try.underlying24 Try.sizeOf52 (q0 rfl) (q0 rfl) (fun _ => ⟨rfl, by omega⟩)) rfl rfl ?_
      refine xV (e_fld Try.underlying52 rfl Try.sizeOf3 rfl (q0 rfl)) rfl rfl ?_
      refine xV (e_ld (v := .int .i64 j) Try.isAgg3 (q0 rfl) (by exact rr 2 (r := 0) rfl (set_self hg) rfl)) rfl rfl ?_
      refine xV (e_as (v := .int _ _) (q0 rfl)) rfl rfl ?_
      refine XN ?_
      refine thenJ_normal ?_
      refine H_seq ?_
      refine RAd 3 rfl (by decide +kernel) ?_
      refine aV 0 (by decide +kernel) rfl (e_mv (v := .pointer _) (q0 rfl)) rfl ?_
      refine aV 1 (by decide +kernel) rfl (e_nilc (q0 rfl)) rfl ?_
      refine aV 2 (by decide +kernel) rfl (e_fld Try.underlying77 rfl Try.sizeOf32 rfl (q0 rfl)) rfl ?_
      refine aV 3 (by decide +kernel) rfl (eL Try.isAgg32 (q0 rfl)) rfl ?_
      refine aV 4 (by decide +kernel) rfl (e_mv (v := .int _ _) (q0 rfl)) rfl ?_
      refine aV 5 (by decide +kernel) rfl (e_mv (v := .slice _ _ _) (q0 rfl)) rfl ?_
      refine aV 6 (by decide +kernel) rfl (e_fld Try.underlying50 rfl Try.sizeOf3 rfl (q0 rfl)) rfl ?_
      refine aV 7 (by decide +kernel) rfl (eL Try.isAgg3 (q0 rfl)) rfl ?_
      refine aV 8 (by decide +kernel) rfl (eS Try.isAgg23 Try.sizeOf23 (q0 rfl)) rfl ?_
      refine aV 9 (by decide +kernel) rfl (e_build Try.underlying52 fl52 Try.zeroValue52 (pt (v := .int _ _) rfl (pt (v := .agg _) rfl E.p0)) rfl) rfl ?_
      refine rdy1 (i := 10) (by decide +kernel) (sub_drop 3) ?_
      refine aL rfl (f_slit [(.int .i64 0), (.int .i64 0), (.int .i64 0), (.int .i64 0), (.int .i64 0)] Try.underlying24 Try.sizeOf52 Try.zeroValue52 rfl (by kernel_rfl) (pt (v := .agg _) rfl E.p0) rfl rfl fun b54 => ?_)
      refine rdy1 (i := 11) (by decide +kernel) (sub_drop 4) ?_
      refine aL rfl (f_append (k := 5) (i := Try.t52) (enc := Lg.cells) (xs := xr.legs.set (xr.legs.length - 1) ⟨j, gf, wh⟩) 3 Try.underlying24 (by kernel_rfl) rfl rfl rfl rfl (fun _ => rfl) (fun _ => rfl) (by rw [List.length_set]; rfl) rfl rfl (fun w hw => slAt_box (enc := Lg.cells) (xs := [⟨k, wh, zSpn⟩]) hw (j := 0) rfl (fun _ => rfl) (by simp)) ⟨by simp; omega, by decide⟩ rfl fun A1 c1 => ?_)
      refine aV 12 (by decide +kernel) rfl (e_idx q Try.underlying32 Try.sizeOf27 (q0 rfl) (q0 rfl) (fun _ => ⟨rfl, hq⟩)) rfl ?_
      refine aV 13 (by decide +kernel) rfl (e_fld Try.underlying27 rfl Try.sizeOf24 rfl (q0 rfl)) rfl ?_
      refine rdy1 (i := 14) (by decide +kernel) (sub_drop 4) ?_
      refine aL rfl (f_storeR 1 (i := q) (off := 7) ⟨{ xr with legs := xr.legs.set (xr.legs.length - 1) ⟨j, gf, wh⟩ ++ [⟨k, wh, zSpn⟩] }, ⟨A1, c1, pA, pc⟩⟩ rfl rfl Try.sizeOf24 rfl rfl rfl hx rfl rfl ?_)
      refine aZ (by decide +kernel) (sub_drop 4) ?_
      refine thenJ_normal ?_
      refine H_seq ?_
      refine H_mem (fun w hw => hw.tail) rfl ?_
      refine RAd 5 rfl (by decide +kernel) ?_
      refine aV 0 (by decide +kernel) rfl (e_mv (v := .pointer _) (q0 rfl)) rfl ?_
      refine aV 1 (by decide +kernel) rfl (e_nilc (q0 rfl)) rfl ?_
      refine aV 2 (by decide +kernel) rfl (e_fld Try.underlying77 rfl Try.sizeOf40 rfl (q0 rfl)) rfl ?_
      refine aV 3 (by decide +kernel) rfl (eL Try.isAgg40 (q0 rfl)) rfl ?_
      refine aV 4 (by decide +kernel) rfl (e_mv (v := .int _ _) (q0 rfl)) rfl ?_
      refine aV 5 (by decide +kernel) rfl (e_mv (v := .pointer _) (q0 rfl)) rfl ?_
      refine aV 6 (by decide +kernel) rfl (e_nilc (q0 rfl)) rfl ?_
      refine aV 7 (by decide +kernel) rfl (e_fld Try.underlying77 rfl Try.sizeOf40 rfl (q0 rfl)) rfl ?_
      refine aV 8 (by decide +kernel) rfl (eL Try.isAgg40 (q0 rfl)) rfl ?_
      refine aV 9 (by decide +kernel) rfl (e_fld Try.underlying50 rfl Try.sizeOf3 rfl (q0 rfl)) rfl ?_
      refine aV 10 (by decide +kernel) rfl (eL Try.isAgg3 (q0 rfl)) rfl ?_
      refine aV 11 (by decide +kernel) rfl (e_mv (v := .int _ _) (q0 rfl)) rfl ?_
      refine aV 12 (by decide +kernel) rfl (e_idx j Try.underlying40 Try.sizeOf3 (q0 rfl) (q0 rfl) (fun _ => ⟨rfl, by omega⟩)) rfl ?_
      refine rdy1 (i := 13) (by decide +kernel) (sub_drop 5) ?_
      refine aL rfl (f_storeR0 4 (k := 1) (enc := encInt) (-1) rfl rfl Try.sizeOf3 rfl rfl rfl hvj rfl rfl ?_)
      refine aV 14 (by decide +kernel) rfl (e_idx k Try.underlying40 Try.sizeOf3 (q0 rfl) (q0 rfl) (fun _ => ⟨rfl, by omega⟩)) rfl ?_
      refine rdy1 (i := 15) (by decide +kernel) (sub_drop 5) ?_
      refine aL rfl (f_storeR0 4 (k := 1) (enc := encInt) (q : Int) rfl rfl Try.sizeOf3 rfl rfl rfl hvk rfl rfl ?_)
      refine aZ (by decide +kernel) (sub_drop 5) ?_
      refine thenJ_normal ?_
      refine E.RT rfl rfl (by decide +kernel) ?_
      refine xV (e_mv (v := .pointer _) (q0 rfl)) rfl rfl ?_
      refine xV (e_nilc (q0 rfl)) rfl rfl ?_
      refine xV (e_fld Try.underlying77 rfl Try.sizeOf54 rfl (q0 rfl)) rfl rfl ?_
      refine xV (eL Try.isAgg54 (q0 rfl)) rfl rfl ?_
      refine xV (e_mv (v := .int _ _) (q0 rfl)) rfl rfl ?_
      refine xV (e_mv (v := .pointer _) (q0 rfl)) rfl rfl ?_
      refine xV (e_nilc (q0 rfl)) rfl rfl ?_
      refine xV (e_fld Try.underlying77 rfl Try.sizeOf54 rfl (q0 rfl)) rfl rfl ?_
      refine xV (eL Try.isAgg54 (q0 rfl)) rfl rfl ?_
      refine xV (e_fld Try.underlying50 rfl Try.sizeOf3 rfl (q0 rfl)) rfl rfl ?_
      refine xV (eL Try.isAgg3 (q0 rfl)) rfl rfl ?_
      refine xV (e_idx k Try.underlying54 Try.sizeOf58 (q0 rfl) (q0 rfl) (fun _ => ⟨rfl, by omega⟩)) rfl rfl ?_
      refine xV (e_lds (vs := sp.cells) Try.isAgg58 Try.sizeOf58 (q0 rfl) (rrs 5 rfl hsp) rfl) rfl rfl ?_
      refine xV (e_idx j Try.underlying54 Try.sizeOf58 (q0 rfl) (q0 rfl) (fun _ => ⟨rfl, by omega⟩)) rfl rfl ?_
      refine XN ?_
      refine thenJ_normal ?_
      refine X_eff (f_storeR0 5 sp rfl rfl Try.sizeOf58 rfl rfl rfl hsj rfl rfl ?_)
      refine XN ?_
      exact end0 rfl hmk fun w' hw => ⟨⟨(_, _), rfl, by
        have hlast : xr.legs.getD (xr.legs.length - 1) default = ⟨j, gf, gt⟩ := getD_of hg
        unfold changeY
        rw [show rget t.plain.byID erid = some (q : Int) from hr]
        unfold TY.plain at hspd ⊢
        simp only [Int.toNat_natCast] at hspd ⊢
        rw [hxd, hspd, map_setR]
        simp only [swapR, endLeg, lastBike, hlast, Int.toNat_natCast]⟩, rfl, hcl ⟨{ xr with legs := xr.legs.set (xr.legs.length - 1) ⟨j, gf, wh⟩ ++ [⟨k, wh, zSpn⟩] }, ⟨A1, c1, pA, pc⟩⟩ _ _ w' (by simp) rfl (by simp) (hw.pickN 11 [0, 1, 2, 3, 4, 5, 6, 7, 8] (by decide) (by decide))⟩
end

end Go.Proofs.Rid

/-
  The walks: an accepted event is told.
-/
namespace Go.Proofs.Rid
open Go Go.RowKit Go.Proofs.E Go.Proofs.Cus

section
variable {a : YA} {t : TY} {w0 w : World} {L : List E.Item} {n N : Nat}
theorem tell_kinds {s : SY} {e : Ev} {b : Nat} {v : Int} (hb : e.bike = b) (hv : s.riding.getD b 0 = v) :
    (e.kind = 3 → tellY s e = beginY s e (spanE e)) ∧ (e.kind = 4 → tellY s e = changeY s e (spanE e)) ∧
    (e.kind = 5 → tellY s e = if 0 ≤ v then { s with rides := s.rides.set v.toNat (pauseR (spanE e) (s.rides.getD v.toNat default)), paused := s.paused.set v.toNat true } else s) ∧
    (e.kind = 6 → tellY s e = if 0 ≤ v then resumeY s v.toNat (spanE e) else s) ∧
    (e.kind = 1 → tellY s e = leaveY s b ⟨1, e.place, 0, false⟩ (spanE e)) ∧ (e.kind = 2 → tellY s e = leaveY s b ⟨2, e.place, 0, false⟩ (spanE e)) ∧
    (e.kind = 9 → tellY s e = leaveY s b ⟨6, 0, 0, false⟩ (spanE e)) ∧ (e.kind ≠ 3 → e.kind ≠ 4 → e.kind ≠ 5 → e.kind ≠ 6 → e.kind ≠ 1 → e.kind ≠ 2 → e.kind ≠ 9 → tellY s e = s) := by
  have hbt : e.bike.toNat = b := by omega
  refine ⟨fun h => ?_, fun h => ?_, fun h => ?_, fun h => ?_, fun h => ?_, fun h => ?_, fun h => ?_, fun h3 h4 h5 h6 h1 h2 h9 => ?_⟩ <;> unfold tellY <;> simp only [hbt, hv]
  · rw [if_pos h]
  · rw [if_neg (by omega), if_pos h]
  · rw [if_neg (by omega), if_neg (by omega), if_pos h]
  · rw [if_neg (by omega), if_neg (by omega), if_neg (by omega), if_pos h]
  · rw [if_neg (by omega), if_neg (by omega), if_neg (by omega), if_neg (by omega), if_pos h]
  · rw [if_neg (by omega), if_neg (by omega), if_neg (by omega), if_neg (by omega), if_neg (by omega), if_pos h]
  · rw [if_neg (by omega), if_neg (by omega), if_neg (by omega), if_neg (by omega), if_neg (by omega), if_neg (by omega), if_pos h]
  · rw [if_neg h3, if_neg h4, if_neg h5, if_neg h6, if_neg h1, if_neg h2, if_neg h9]
set_option maxHeartbeats 2000000 in
set_option maxRecDepth 20000 in
theorem tell_w (hw : Mem w0 (stY a t ++ L) w) (hmk : marks L = []) (hI : WF n N t.plain) (hN : N ≤ 100000) (e : Ev) (hb : 0 ≤ e.bike ∧ e.bike < n) :
    Calls Try.prog 41 #[.pointer (some ⟨a.sb, 0, none⟩), .agg e.cells.toArray] w fun r w' => ∃ y : YOut a (tellY t.plain e), r = .returned (.tuple #[]) ∧ Mem w0 (stY y.1.1 y.1.2 ++ L) w' := by
  obtain ⟨hpl, hrl, hsl, hxl⟩ := len_of hI
  obtain ⟨k, hk⟩ : ∃ k : Nat, e.bike = k := ⟨e.bike.toNat, by omega⟩
  have hkn : k < n := by omega
  obtain ⟨v, hv, hvg, hv0, hv1⟩ := riding_get hI hkn
  have hvt : t.riding[k]? = some v := hv
  have hv1' : v < t.xs.length := by simpa [TY.plain] using hv1
  obtain ⟨d3, d4, d5, d6, d1, d2, d9, d0⟩ := tell_kinds (s := t.plain) hk hvg
  obtain ⟨ed, es, eat, el, ekind, ebike, epl, erd, erid⟩ := e
  simp only at hk d3 d4 d5 d6 d1 d2 d9 d0 hb
  subst hk
  refine H_enterM hw hmk Try.func41 rfl Try.ntmps41 rfl ?_
  refine H_seq ?_
  refine R0 ?_
  refine X_box (v := .agg _) rfl rfl fun b3 => ?_
  refine XN ?_
  refine thenJ_normal ?_
  refine H_seq ?_
  refine R0 ?_
  refine xV (e_fld Try.underlying50 rfl Try.sizeOf3 rfl (q0 rfl)) rfl rfl ?_
  refine xV (eL Try.isAgg3 (q0 rfl)) rfl rfl ?_
  refine xV (e_fld Try.underlying50 rfl Try.sizeOf3 rfl (q0 rfl)) rfl rfl ?_
  refine xV (eL Try.isAgg3 (q0 rfl)) rfl rfl ?_
  refine xV (e_build Try.underlying23 fl23 Try.zeroValue23 (pt (v := .int _ _) rfl (pt (v := .int _ _) rfl E.p0)) rfl) rfl rfl ?_
  refine X_alloc Try.zeroValue23 rfl fun b4 => ?_
  refine X_st (v := .agg _) rfl rfl Try.sizeOf23 ?_
  refine XN ?_
  refine thenJ_normal ?_
  refine H_seq ?_
  refine R1 rfl (by decide +kernel) ?_
  refine xV (e_mv (v := .pointer _) (q0 rfl)) rfl rfl ?_
  refine xV (e_nilc (q0 rfl)) rfl rfl ?_
  refine xV (e_fld Try.underlying77 rfl Try.sizeOf40 rfl (q0 rfl)) rfl rfl ?_
  refine xV (eL Try.isAgg40 (q0 rfl)) rfl rfl ?_
  refine xV (e_fld Try.underlying50 rfl Try.sizeOf3 rfl (q0 rfl)) rfl rfl ?_
  refine xV (eL Try.isAgg3 (q0 rfl)) rfl rfl ?_
  refine xV (e_idx k Try.underlying40 Try.sizeOf3 (q0 rfl) (q0 rfl) (fun _ => ⟨rfl, by omega⟩)) rfl rfl ?_
  refine xV (e_ld (v := .int .i64 v) Try.isAgg3 (q0 rfl) (by exact rr0 6 (k := 1) (enc := encInt) rfl hvt rfl)) rfl rfl ?_
  refine xV (e_as (v := .int _ _) (q0 rfl)) rfl rfl ?_
  refine XN ?_
  refine thenJ_normal ?_
  refine H_seq ?_
  refine R0 ?_
  refine xV (e_fld Try.underlying50 rfl Try.sizeOf3 rfl (q0 rfl)) rfl rfl ?_
  refine xV (eL Try.isAgg3 (q0 rfl)) rfl rfl ?_
  refine XN ?_
  refine thenJ_normal ?_
  refine H_block ?_
  refine H_seq ?_
  refine R0 ?_
  refine xV (e_eq (q0 rfl) (q0 rfl)) rfl rfl ?_
  refine xV (e_as (v := .bool _) (q0 rfl)) rfl rfl ?_
  refine XN ?_
  refine thenJ_normal ?_
  refine H_cond rfl (fun h3 => ?_) (fun h3 => ?_)
  · have hk3 : ekind = 3 := by simpa using h3
    refine R0 ?_
    refine xV (e_mv (v := .pointer _) (q0 rfl)) rfl rfl ?_
    refine xV (eS Try.isAgg50 Try.sizeOf50 (q0 rfl)) rfl rfl ?_
    refine xV (eS Try.isAgg23 Try.sizeOf23 (q0 rfl)) rfl rfl ?_
    refine X_eff (f_callM (en Try.call56 (ha3 (q0 rfl) (q0 rfl) (q0 rfl))) (fun w hw => begin_w (Mem.rot (X := [_, _]) (S := stY a t) hw) hmk hI hN ⟨ed, es, eat, el, ekind, k, epl, erd, erid⟩ hb ⟨eat, el⟩) rfl (fun _ => rfl) fun y => ?_)
    refine XN ?_
    refine blockJ_normal ?_
    exact end0 rfl hmk fun w' hw => ⟨⟨y.1, y.2.1, y.2.2.trans (d3 hk3).symm⟩, rfl, Mem.cutM (X := [_, _]) hw⟩
  · refine H_seq ?_
    refine R0 ?_
    refine xV (e_eq (q0 rfl) (q0 rfl)) rfl rfl ?_
    refine xV (e_as (v := .bool _) (q0 rfl)) rfl rfl ?_
    refine XN ?_
    refine thenJ_normal ?_
    refine H_cond rfl (fun h4 => ?_) (fun h4 => ?_)
    · have hk4 : ekind = 4 := by simpa using h4
      refine R0 ?_
      refine xV (e_mv (v := .pointer _) (q0 rfl)) rfl rfl ?_
      refine xV (eS Try.isAgg50 Try.sizeOf50 (q0 rfl)) rfl rfl ?_
      refine xV (eS Try.isAgg23 Try.sizeOf23 (q0 rfl)) rfl rfl ?_
      refine X_eff (f_callM (en Try.call57 (ha3 (q0 rfl) (q0 rfl) (q0 rfl))) (fun w hw => change_w (Mem.rot (X := [_, _]) (S := stY a t) hw) hmk hI hN ⟨ed, es, eat, el, ekind, k, epl, erd, erid⟩ hb ⟨eat, el⟩) rfl (fun _ => rfl) fun y => ?_)
      refine XN ?_
      refine blockJ_normal ?_
      exact end0 rfl hmk fun w' hw => ⟨⟨y.1, y.2.1, y.2.2.trans (d4 hk4).symm⟩, rfl, Mem.cutM (X := [_, _]) hw⟩
    · refine H_seq ?_
      refine R0 ?_
      refine xV (e_eq (q0 rfl) (q0 rfl)) rfl rfl ?_
      refine xV (e_as (v := .bool _) (q0 rfl)) rfl rfl ?_
      refine XN ?_
      refine thenJ_normal ?_
      refine H_cond rfl (fun h5 => ?_) (fun h5 => ?_)
      · have hk5 : ekind = 5 := by simpa using h5
        refine H_seq ?_
        refine R0 ?_
        refine xV (e_mv (v := .int _ _) (q0 rfl)) rfl rfl ?_
        refine xV (e_ge (q0 rfl) (q0 rfl)) rfl rfl ?_
        refine XN ?_
        refine thenJ_normal ?_
        refine H_cond rfl (fun hp => ?_) (fun hp => ?_)
        · have hp' : 0 ≤ v := by simpa using hp
          obtain ⟨q, rfl⟩ : ∃ q : Nat, v = q := ⟨v.toNat, by omega⟩
          have hq : q < t.xs.length := by omega
          obtain ⟨x, hx⟩ : ∃ x, t.xs[q]? = some x := ⟨_, List.getElem?_eq_getElem hq⟩
          obtain ⟨p, hpq⟩ : ∃ p, t.paused[q]? = some p := ⟨_, List.getElem?_eq_getElem (by omega)⟩
          have hlo := leg_of hI hx
          have hxd := plain_getD hx
          have hop := fun (X : List E.Item) (w : World) (h : Mem w0 (stY a t ++ X) w) => openK h hx
          have hcl := fun (z : RX) (ps : List Bool) (w : World) => closeK (a := a) (t := t) (w0 := w0) (w := w) (L := L) (m := t.byID) (gs := t.riding) (ps := ps) (ss := t.spots) (k := q) z hq
          refine H_seq ?_
          refine H_mem (fun w hw => hop _ w (Mem.rot (X := [_, _]) (S := stY a t) hw)) rfl ?_
          refine H_know (fun w hw => rowT_at (j := 0) hw rfl (by omega)) fun ⟨rb, hrb⟩ => ?_
          refine H_know (fun w hw => rowT_at (j := 3) hw rfl (by omega)) fun ⟨bb, hbb⟩ => ?_
          obtain ⟨asb, arA, arc, am, ag, agc, apA, apc, as_, asc⟩ := a
          obtain ⟨xr, ⟨lA, lc, pA, pc⟩⟩ := x
          simp only at hrb hbb hlo
          subst hrb
          subst hbb
          refine H_cut [37, 38, 39, 40, 41, 42, 43, 44, 45, 46, 47, 48, 49, 50, 51, 52, 53, 54, 55] (fun _ : Option Addr × Nat => []) (fun s => [rdRow (some ⟨rb, 0, none⟩) arc (t.xs.set q ⟨pauseR ⟨eat, el⟩ xr, ⟨lA, lc, s.1, s.2⟩⟩), pzRow s.1 s.2 (xr.pauses ++ [⟨⟨eat, el⟩, zSpn⟩]), lgRow lA lc xr.legs, blRow (some ⟨bb, 0, none⟩) apc t.paused, inRow (some ⟨ag, 0, none⟩) agc t.riding, E.rowT 58 4 Sp.cells (some ⟨as_, 0, none⟩) asc t.spots, box asb 77 (yCells ⟨asb, some ⟨rb, 0, none⟩, arc, am, ag, agc, some ⟨bb, 0, none⟩, apc, as_, asc⟩ t), bag ((t.xs.eraseIdx q).flatMap rdParts), imap am (rmV t.byID), box b4 23 [.int .i64 eat, .int .i64 el], box b3 50 (Ev.cells ⟨ed, es, eat, el, ekind, k, epl, erd, erid⟩)] ++ L) (fun _ => True) ?_ ?_
          · refine RAd 2 rfl (by decide +kernel) ?_
            refine aV 0 (by decide +kernel) rfl (e_mv (v := .pointer _) (q0 rfl)) rfl ?_
            refine aV 1 (by decide +kernel) rfl (e_nilc (q0 rfl)) rfl ?_
            refine aV 2 (by decide +kernel) rfl (e_fld Try.underlying77 rfl Try.sizeOf32 rfl (q0 rfl)) rfl ?_
            refine aV 3 (by decide +kernel) rfl (eL Try.isAgg32 (q0 rfl)) rfl ?_
            refine aV 4 (by decide +kernel) rfl (e_mv (v := .int _ _) (q0 rfl)) rfl ?_
            refine aV 5 (by decide +kernel) rfl (e_mv (v := .pointer _) (q0 rfl)) rfl ?_
            refine aV 6 (by decide +kernel) rfl (e_nilc (q0 rfl)) rfl ?_
            refine aV 7 (by decide +kernel) rfl (e_fld Try.underlying77 rfl Try.sizeOf32 rfl (q0 rfl)) rfl ?_
            refine aV 8 (by decide +kernel) rfl (eL Try.isAgg32 (q0 rfl)) rfl ?_
            refine aV 9 (by decide +kernel) rfl (e_mv (v := .int _ _) (q0 rfl)) rfl ?_
            refine aV 10 (by decide +kernel) rfl (e_idx q Try.underlying32 Try.sizeOf27 (q0 rfl) (q0 rfl) (fun _ => ⟨rfl, hq⟩)) rfl ?_
            refine aV 11 (by decide +kernel) rfl (e_fld Try.underlying27 rfl Try.sizeOf25 rfl (q0 rfl)) rfl ?_
            refine aV 13 (by decide +kernel) rfl (eS Try.isAgg23 Try.sizeOf23 (q0 rfl)) rfl ?_
            refine aV 14 (by decide +kernel) rfl (e_build Try.underlying71 fl71 Try.zeroValue71 (pt (v := .agg _) rfl E.p0) rfl) rfl ?_
            refine rdy2 (i := 12) (j := 15) (by decide +kernel) (sub_drop 2) ?_ ?_
            · refine aL rfl (f_ev (e_ld (v := .slice pA xr.pauses.length pc) Try.isAgg25 (q0 rfl) (by first | exact rr 0 (r := 8) rfl hx rfl | exact rr 1 (r := 8) rfl hx rfl)) rfl rfl ?_)
              refine rdy1 (i := 15) (by decide +kernel) (sub_drop 2) ?_
              refine aL rfl (f_slit [(.int .i64 0), (.int .i64 0), (.int .i64 0), (.int .i64 0)] Try.underlying25 Try.sizeOf71 Try.zeroValue71 rfl (by kernel_rfl) (pt (v := .agg _) rfl E.p0) rfl rfl fun b52 => ?_)
              refine rdy1 (i := 16) (by decide +kernel) (sub_drop 3) ?_
              refine aL rfl (f_append (k := 4) (i := Try.t71) (enc := Pz.cells) (xs := xr.pauses) 2 Try.underlying25 (by kernel_rfl) rfl rfl rfl rfl (fun _ => rfl) (fun _ => rfl) rfl rfl rfl (fun w hw => slAt_box (enc := Pz.cells) (xs := [⟨⟨eat, el⟩, zSpn⟩]) hw (j := 0) rfl (fun _ => rfl) (by simp)) ⟨by simp; omega, by decide⟩ rfl fun A1 c1 => ?_)
              refine aV 17 (by decide +kernel) rfl (e_idx q Try.underlying32 Try.sizeOf27 (q0 rfl) (q0 rfl) (fun _ => ⟨rfl, hq⟩)) rfl ?_
              refine aV 18 (by decide +kernel) rfl (e_fld Try.underlying27 rfl Try.sizeOf25 rfl (q0 rfl)) rfl ?_
              refine rdy1 (i := 19) (by decide +kernel) (sub_drop 3) ?_
              refine aL rfl (f_storeR 1 (i := q) (off := 8) ⟨pauseR ⟨eat, el⟩ xr, ⟨lA, lc, A1, c1⟩⟩ rfl rfl Try.sizeOf25 rfl rfl rfl hx rfl rfl ?_)
              refine aZ (by decide +kernel) (sub_drop 3) ?_
              exact cutJ_normal ((A1, c1) : Option Addr × Nat) (by repeat (first | exact agree_self | exact agree_over | refine agree_upd rfl ?_ | refine agree_updL rfl ?_ | refine agree_over2 rfl ?_)) trivial (fun w hw => hw.tail) rfl trivial
            · refine aL rfl (f_slit [(.int .i64 0), (.int .i64 0), (.int .i64 0), (.int .i64 0)] Try.underlying25 Try.sizeOf71 Try.zeroValue71 rfl (by kernel_rfl) (pt (v := .agg _) rfl E.p0) rfl rfl fun b52 => ?_)
              refine rdy1 (i := 12) (by decide +kernel) (sub_drop 3) ?_
              refine aL rfl (f_ev (e_ld (v := .slice pA xr.pauses.length pc) Try.isAgg25 (q0 rfl) (by first | exact rr 0 (r := 8) rfl hx rfl | exact rr 1 (r := 8) rfl hx rfl)) rfl rfl ?_)
              refine rdy1 (i := 16) (by decide +kernel) (sub_drop 3) ?_
              refine aL rfl (f_append (k := 4) (i := Try.t71) (enc := Pz.cells) (xs := xr.pauses) 2 Try.underlying25 (by kernel_rfl) rfl rfl rfl rfl (fun _ => rfl) (fun _ => rfl) rfl rfl rfl (fun w hw => slAt_box (enc := Pz.cells) (xs := [⟨⟨eat, el⟩, zSpn⟩]) hw (j := 0) rfl (fun _ => rfl) (by simp)) ⟨by simp; omega, by decide⟩ rfl fun A1 c1 => ?_)
              refine aV 17 (by decide +kernel) rfl (e_idx q Try.underlying32 Try.sizeOf27 (q0 rfl) (q0 rfl) (fun _ => ⟨rfl, hq⟩)) rfl ?_
              refine aV 18 (by decide +kernel) rfl (e_fld Try.underlying27 rfl Try.sizeOf25 rfl (q0 rfl)) rfl ?_
              refine rdy1 (i := 19) (by decide +kernel) (sub_drop 3) ?_
              refine aL rfl (f_storeR 1 (i := q) (off := 8) ⟨pauseR ⟨eat, el⟩ xr, ⟨lA, lc, A1, c1⟩⟩ rfl rfl Try.sizeOf25 rfl rfl rfl hx rfl rfl ?_)
              refine aZ (by decide +kernel) (sub_drop 3) ?_
              exact cutJ_normal ((A1, c1) : Option Addr × Nat) (by repeat (first | exact agree_self | exact agree_over | refine agree_upd rfl ?_ | refine agree_updL rfl ?_ | refine agree_over2 rfl ?_)) trivial (fun w hw => hw.tail) rfl trivial
          · rintro ⟨A1, c1⟩ g5 _
            refine thenJ_normal ?_
            refine R0 ?_
            refine xV (e_mv (v := .pointer _) (q0 rfl)) rfl rfl ?_
            refine xV (e_nilc (q0 rfl)) rfl rfl ?_
            refine xV (e_fld Try.underlying77 rfl Try.sizeOf75 rfl (q0 rfl)) rfl rfl ?_
            refine xV (eL Try.isAgg75 (q0 rfl)) rfl rfl ?_
            refine xV (e_mv (v := .int _ _) (q0 rfl)) rfl rfl ?_
            refine xV (e_idx q Try.underlying75 Try.sizeOf4 (q0 rfl) (q0 rfl) (fun _ => ⟨rfl, by omega⟩)) rfl rfl ?_
            refine X_eff (f_storeR0 3 (k := 1) (enc := encB) true rfl rfl Try.sizeOf4 rfl rfl rfl hpq rfl rfl ?_)
            refine XN ?_
            refine blockJ_normal ?_
            exact end0 rfl hmk fun w' hw => ⟨⟨(_, _), rfl, by
              rw [d5 hk5, if_pos hp']
              unfold TY.plain
              simp only [Int.toNat_natCast]
              rw [hxd, map_setR]
              rfl⟩, rfl, hcl ⟨pauseR ⟨eat, el⟩ xr, ⟨lA, lc, A1, c1⟩⟩ (t.paused.set q true) w' rfl (by simp) rfl (hw.pickN 11 [0, 1, 2, 3, 4, 5, 6, 7, 8] (by decide) (by decide))⟩
        · have hp' : ¬ 0 ≤ v := by simpa using hp
          refine H_skip ?_
          refine blockJ_normal ?_
          exact end0 rfl hmk fun w' hw => ⟨⟨(a, t), rfl, by rw [d5 hk5, if_neg hp']⟩, rfl, hw.tail.tail⟩
      · refine H_seq ?_
        refine R0 ?_
        refine xV (e_eq (q0 rfl) (q0 rfl)) rfl rfl ?_
        refine xV (e_as (v := .bool _) (q0 rfl)) rfl rfl ?_
        refine XN ?_
        refine thenJ_normal ?_
        refine H_cond rfl (fun h6 => ?_) (fun h6 => ?_)
        · have hk6 : ekind = 6 := by simpa using h6
          refine H_seq ?_
          refine R0 ?_
          refine xV (e_mv (v := .int _ _) (q0 rfl)) rfl rfl ?_
          refine xV (e_ge (q0 rfl) (q0 rfl)) rfl rfl ?_
          refine XN ?_
          refine thenJ_normal ?_
          refine H_cond rfl (fun hp => ?_) (fun hp => ?_)
          · have hp' : 0 ≤ v := by simpa using hp
            obtain ⟨q, rfl⟩ : ∃ q : Nat, v = q := ⟨v.toNat, by omega⟩
            have hq : q < t.xs.length := by omega
            obtain ⟨x, hx⟩ : ∃ x, t.xs[q]? = some x := ⟨_, List.getElem?_eq_getElem hq⟩
            have hxd := plain_getD hx
            refine R0 ?_
            refine xV (e_mv (v := .pointer _) (q0 rfl)) rfl rfl ?_
            refine xV (e_mv (v := .int _ _) (q0 rfl)) rfl rfl ?_
            refine xV (eS Try.isAgg23 Try.sizeOf23 (q0 rfl)) rfl rfl ?_
            refine X_eff (f_callM (en Try.call58 (ha3 (q0 rfl) (q0 rfl) (q0 rfl))) (fun w hw => resume_w (Mem.rot (X := [_, _]) (S := stY a t) hw) hmk hI hN hq hx ⟨eat, el⟩) rfl (fun _ => rfl) fun u => ?_)
            refine XN ?_
            refine blockJ_normal ?_
            exact end0 rfl hmk fun w' hw => ⟨⟨(a, _), rfl, by
              rw [d6 hk6, if_pos hp']
              unfold resumeY TY.plain
              simp only [Int.toNat_natCast]
              rw [hxd, map_setR]
              rfl⟩, rfl, Mem.cutM (X := [_, _]) hw⟩
          · have hp' : ¬ 0 ≤ v := by simpa using hp
            refine H_skip ?_
            refine blockJ_normal ?_
            exact end0 rfl hmk fun w' hw => ⟨⟨(a, t), rfl, by rw [d6 hk6, if_neg hp']⟩, rfl, hw.tail.tail⟩
        · refine H_seq ?_
          refine R0 ?_
          refine xV (e_eq (q0 rfl) (q0 rfl)) rfl rfl ?_
          refine xV (e_as (v := .bool _) (q0 rfl)) rfl rfl ?_
          refine XN ?_
          refine thenJ_normal ?_
          refine H_cond rfl (fun h1 => ?_) (fun h1 => ?_)
          · have hk1 : ekind = 1 := by simpa using h1
            refine R0 ?_
            refine xV (e_mv (v := .pointer _) (q0 rfl)) rfl rfl ?_
            refine xV (e_fld Try.underlying50 rfl Try.sizeOf3 rfl (q0 rfl)) rfl rfl ?_
            refine xV (eL Try.isAgg3 (q0 rfl)) rfl rfl ?_
            refine xV (e_fld Try.underlying50 rfl Try.sizeOf3 rfl (q0 rfl)) rfl rfl ?_
            refine xV (eL Try.isAgg3 (q0 rfl)) rfl rfl ?_
            refine xV (e_build Try.underlying58 fl58 Try.zeroValue58 (pt (v := .int _ _) rfl (pt (v := .int _ _) rfl E.p0)) rfl) rfl rfl ?_
            refine xV (eS Try.isAgg23 Try.sizeOf23 (q0 rfl)) rfl rfl ?_
            refine X_eff (f_callM (en Try.call59 (ha4 (q0 rfl) (q0 rfl) (q0 rfl) (q0 rfl))) (fun w hw => leave_w (Mem.rot (X := [_, _]) (S := stY a t) hw) hmk hI hN k hkn ⟨1, epl, 0, false⟩ ⟨eat, el⟩) rfl (fun _ => rfl) fun y => ?_)
            refine XN ?_
            refine blockJ_normal ?_
            exact end0 rfl hmk fun w' hw => ⟨⟨(a, y.1), rfl, y.2.trans (d1 hk1).symm⟩, rfl, Mem.cutM (X := [_, _]) hw⟩
          · refine H_seq ?_
            refine R0 ?_
            refine xV (e_eq (q0 rfl) (q0 rfl)) rfl rfl ?_
            refine xV (e_as (v := .bool _) (q0 rfl)) rfl rfl ?_
            refine XN ?_
            refine thenJ_normal ?_
            refine H_cond rfl (fun h2 => ?_) (fun h2 => ?_)
            · have hk2 : ekind = 2 := by simpa using h2
              refine R0 ?_
              refine xV (e_mv (v := .pointer _) (q0 rfl)) rfl rfl ?_
              refine xV (e_fld Try.underlying50 rfl Try.sizeOf3 rfl (q0 rfl)) rfl rfl ?_
              refine xV (eL Try.isAgg3 (q0 rfl)) rfl rfl ?_
              refine xV (e_fld Try.underlying50 rfl Try.sizeOf3 rfl (q0 rfl)) rfl rfl ?_
              refine xV (eL Try.isAgg3 (q0 rfl)) rfl rfl ?_
              refine xV (e_build Try.underlying58 fl58 Try.zeroValue58 (pt (v := .int _ _) rfl (pt (v := .int _ _) rfl E.p0)) rfl) rfl rfl ?_
              refine xV (eS Try.isAgg23 Try.sizeOf23 (q0 rfl)) rfl rfl ?_
              refine X_eff (f_callM (en Try.call59 (ha4 (q0 rfl) (q0 rfl) (q0 rfl) (q0 rfl))) (fun w hw => leave_w (Mem.rot (X := [_, _]) (S := stY a t) hw) hmk hI hN k hkn ⟨2, epl, 0, false⟩ ⟨eat, el⟩) rfl (fun _ => rfl) fun y => ?_)
              refine XN ?_
              refine blockJ_normal ?_
              exact end0 rfl hmk fun w' hw => ⟨⟨(a, y.1), rfl, y.2.trans (d2 hk2).symm⟩, rfl, Mem.cutM (X := [_, _]) hw⟩
            · refine H_seq ?_
              refine R0 ?_
              refine xV (e_eq (q0 rfl) (q0 rfl)) rfl rfl ?_
              refine xV (e_as (v := .bool _) (q0 rfl)) rfl rfl ?_
              refine XN ?_
              refine thenJ_normal ?_
              refine H_cond rfl (fun h9 => ?_) (fun h9 => ?_)
              · have hk9 : ekind = 9 := by simpa using h9
                refine R0 ?_
                refine xV (e_mv (v := .pointer _) (q0 rfl)) rfl rfl ?_
                refine xV (e_fld Try.underlying50 rfl Try.sizeOf3 rfl (q0 rfl)) rfl rfl ?_
                refine xV (eL Try.isAgg3 (q0 rfl)) rfl rfl ?_
                refine xV (e_build Try.underlying58 fl58 Try.zeroValue58 (pt (v := .int _ _) rfl E.p0) rfl) rfl rfl ?_
                refine xV (eS Try.isAgg23 Try.sizeOf23 (q0 rfl)) rfl rfl ?_
                refine X_eff (f_callM (en Try.call59 (ha4 (q0 rfl) (q0 rfl) (q0 rfl) (q0 rfl))) (fun w hw => leave_w (Mem.rot (X := [_, _]) (S := stY a t) hw) hmk hI hN k hkn ⟨6, 0, 0, false⟩ ⟨eat, el⟩) rfl (fun _ => rfl) fun y => ?_)
                refine XN ?_
                refine blockJ_normal ?_
                exact end0 rfl hmk fun w' hw => ⟨⟨(a, y.1), rfl, y.2.trans (d9 hk9).symm⟩, rfl, Mem.cutM (X := [_, _]) hw⟩
              · refine H_skip ?_
                refine blockJ_normal ?_
                exact end0 rfl hmk fun w' hw => ⟨⟨(a, t), rfl, (d0 (by simpa using h3) (by simpa using h4) (by simpa using h5) (by simpa using h6) (by simpa using h1) (by simpa using h2) (by simpa using h9)).symm⟩, rfl, hw.tail.tail⟩
end

end Go.Proofs.Rid

/-
  Plain facts: an insertion sort, a swap at a time.
-/
namespace Go.Proofs.Rid
open Go.Proofs.Cus

section
variable {α : Type} {lt : α → α → Bool} {xs0 xs : List α} {a b i j : Nat}
def SortedOn (lt : α → α → Bool) (xs : List α) (a b : Nat) : Prop := ∀ p q x y, a ≤ p → p < q → q < b → xs[p]? = some x → xs[q]? = some y → lt y x = false
structure InsI (lt : α → α → Bool) (xs0 xs : List α) (a i j : Nat) : Prop where
  perm : xs.Perm xs0
  out : ∀ p, p < a ∨ i < p → xs[p]? = xs0[p]?
  ok : ∀ p q x y, a ≤ p → p < q → q ≤ i → q ≠ j → xs[p]? = some x → xs[q]? = some y → lt y x = false
structure InsO (lt : α → α → Bool) (xs0 xs : List α) (a i : Nat) : Prop where
  perm : xs.Perm xs0
  out : ∀ p, p < a ∨ i ≤ p → xs[p]? = xs0[p]?
  ok : SortedOn lt xs a i
theorem InsO.start (xs : List α) (a : Nat) : InsO lt xs xs a (a + 1) := ⟨List.Perm.refl _, fun _ _ => rfl, fun p q x y h1 h2 h3 => by omega⟩
theorem InsO.inner (h : InsO lt xs0 xs a i) : InsI lt xs0 xs a i i := ⟨h.perm, fun p hp => h.out p (by omega), fun p q x y h1 h2 h3 h4 => h.ok p q x y h1 h2 (by omega)⟩
theorem swap_perm {x y : α} (hj : 0 < j) (hx : xs[j]? = some x) (hy : xs[j - 1]? = some y) : ((xs.set j y).set (j - 1) x).Perm xs := by
  obtain ⟨h1, e1⟩ := List.getElem?_eq_some_iff.1 hx
  obtain ⟨h2, e2⟩ := List.getElem?_eq_some_iff.1 hy
  have := List.set_set_perm h1 h2
  rw [e1, e2] at this
  exact this
theorem swap_get {x y : α} (hj : 0 < j) (hx : xs[j]? = some x) (hy : xs[j - 1]? = some y) (p : Nat) : ((xs.set j y).set (j - 1) x)[p]? = if p = j - 1 then some x else if p = j then some y else xs[p]? := by
  have h1 := (List.getElem?_eq_some_iff.1 hx).1
  rw [List.getElem?_set]
  by_cases e : j - 1 = p
  · rw [if_pos e, if_pos (by simp; omega), if_pos e.symm]
  · rw [if_neg e, if_neg (fun h => e h.symm), List.getElem?_set]
    by_cases e2 : j = p
    · rw [if_pos e2, if_pos (by omega), if_pos e2.symm]
    · rw [if_neg e2, if_neg (fun h => e2 h.symm)]
theorem InsI.step {x y : α} (hS : ∀ u v : α, lt u v = true → lt v u = false) (h : InsI lt xs0 xs a i j) (hj : a < j) (hji : j ≤ i) (hx : xs[j]? = some x) (hy : xs[j - 1]? = some y) (hl : lt x y = true) : InsI lt xs0 ((xs.set j y).set (j - 1) x) a i (j - 1) := by
  have hg := swap_get (by omega) hx hy
  refine ⟨(swap_perm (by omega) hx hy).trans h.perm, fun p hp => ?_, fun p q u v h1 h2 h3 h4 hu hv => ?_⟩
  · rw [hg, if_neg (by omega), if_neg (by omega)]; exact h.out p hp
  · rw [hg] at hu hv
    rw [if_neg h4] at hv
    by_cases hq : q = j
    · rw [if_pos hq] at hv
      cases hv
      by_cases hp : p = j - 1
      · rw [if_pos hp] at hu; cases hu; exact hS _ _ hl
      · rw [if_neg hp, if_neg (by omega)] at hu
        exact h.ok p (j - 1) u y h1 (by omega) (by omega) (by omega) hu hy
    · rw [if_neg hq] at hv
      by_cases hp : p = j - 1
      · rw [if_pos hp] at hu; cases hu
        exact h.ok j q _ v (by omega) (by omega) h3 hq hx hv
      · rw [if_neg hp] at hu
        by_cases hp2 : p = j
        · rw [if_pos hp2] at hu; cases hu
          exact h.ok (j - 1) q _ v (by omega) (by omega) h3 hq hy hv
        · rw [if_neg hp2] at hu
          exact h.ok p q u v h1 h2 h3 hq hu hv
theorem InsI.stop (hN : ∀ u v w : α, lt u v = false → lt v w = false → lt u w = false) (h : InsI lt xs0 xs a i j) (hj : a ≤ j) (hji : j ≤ i) (he : j = a ∨ ∃ x y, xs[j]? = some x ∧ xs[j - 1]? = some y ∧ lt x y = false) : InsO lt xs0 xs a (i + 1) := by
  refine ⟨h.perm, fun p hp => h.out p (by omega), fun p q u v h1 h2 h3 hu hv => ?_⟩
  by_cases hq : q = j
  · rcases he with he | ⟨x, y, hx, hy, hl⟩
    · omega
    · rw [hq, hx] at hv
      cases hv
      by_cases hp : p = j - 1
      · rw [hp, hy] at hu; cases hu; exact hl
      · exact hN _ _ _ hl (h.ok p (j - 1) u y h1 (by omega) (by omega) (by omega) hu hy)
  · exact h.ok p q u v h1 h2 (by omega) hq hu hv
end

/-! rides by their number -/
def idLt (x y : Rd) : Bool := decide (x.id < y.id)
def byId (l : List Rd) : List Rd := l.mergeSort fun x y => decide (x.id ≤ y.id)
theorem byId_perm (l : List Rd) : (byId l).Perm l := List.mergeSort_perm _ _
theorem byId_sorted (l : List Rd) : (byId l).Pairwise fun x y => x.id ≤ y.id := by
  have := List.pairwise_mergeSort (le := fun x y : Rd => decide (x.id ≤ y.id)) (fun a b c h1 h2 => by simp at *; omega) (fun a b => by simp; omega) l
  exact this.imp fun h => by simpa using h
theorem sorted_unique : ∀ {l m : List Rd}, l.Perm m → l.Pairwise (fun x y => x.id < y.id) → m.Pairwise (fun x y => x.id < y.id) → l = m
  | [], m, hp, _, _ => (List.Perm.nil_eq hp)
  | x :: l, [], hp, _, _ => by have := hp.length_eq; simp at this
  | x :: l, y :: m, hp, h1, h2 => by
    have h1' := List.pairwise_cons.1 h1
    have h2' := List.pairwise_cons.1 h2
    have hxy : x = y := by
      have hx : x ∈ y :: m := hp.subset (by simp)
      have hy : y ∈ x :: l := hp.symm.subset (by simp)
      rcases List.mem_cons.1 hx with e | hx
      · exact e
      · rcases List.mem_cons.1 hy with e | hy
        · exact e.symm
        · have a1 := h2'.1 x hx
          have a2 := h1'.1 y hy
          omega
    subst hxy
    rw [sorted_unique ((List.perm_cons x).1 hp) h1'.2 h2'.2]
theorem strict_of {l : List Rd} (h : l.Pairwise fun x y => x.id ≤ y.id) (hn : (l.map (·.id)).Nodup) : l.Pairwise fun x y => x.id < y.id := by
  have h2 : l.Pairwise fun x y => x.id ≠ y.id := List.pairwise_map.1 hn
  exact (List.Pairwise.and h h2).imp fun ⟨a, b⟩ => by omega
theorem byId_strict {l : List Rd} (hn : (l.map (·.id)).Nodup) : (byId l).Pairwise fun x y => x.id < y.id :=
  strict_of (byId_sorted l) (((byId_perm l).map _).nodup_iff.2 hn)
theorem byId_unique {l m : List Rd} (hp : m.Perm l) (hs : m.Pairwise fun x y => x.id ≤ y.id) (hn : (l.map (·.id)).Nodup) : m = byId l :=
  sorted_unique (hp.trans (byId_perm l).symm) (strict_of hs ((hp.map _).nodup_iff.2 hn)) (byId_strict hn)

end Go.Proofs.Rid

/-
  The walks: rides sorted by their number, in place, at most twenty.
-/
namespace Go.Proofs.Rid
open Go Go.RowKit Go.Proofs.E Go.Proofs.Cus

theorem cmpId_w (x y : RX) (w : World) : Calls Try.prog 43 #[.agg x.cells.toArray, .agg y.cells.toArray] w fun e w' => e = .returned (.int .i64 (cmpI x.r.id y.r.id)) ∧ Bel w w' := by
  refine H_enter Try.func43 rfl Try.ntmps43 rfl ?_
  refine H_seq ?_
  refine R0 ?_
  refine X_box (v := .agg _) rfl rfl fun b2 => ?_
  refine X_box (v := .agg _) rfl rfl fun b3 => ?_
  refine xV (e_as (v := .int _ _) (q0 rfl)) rfl rfl ?_
  refine XN ?_
  refine thenJ_normal ?_
  refine H_seq ?_
  refine R0 ?_
  refine xV (e_fld Try.underlying27 rfl Try.sizeOf3 rfl (q0 rfl)) rfl rfl ?_
  refine xV (eL Try.isAgg3 (q0 rfl)) rfl rfl ?_
  refine xV (e_fld Try.underlying27 rfl Try.sizeOf3 rfl (q0 rfl)) rfl rfl ?_
  refine xV (eL Try.isAgg3 (q0 rfl)) rfl rfl ?_
  refine xC (en Try.call44 (ha2 (q0 rfl) (q0 rfl))) (fun _ w _ => compare_w x.r.id y.r.id w) rfl rfl ?_
  refine xV (e_as (v := .int _ _) (q0 rfl)) rfl rfl ?_
  refine XN ?_
  refine thenJ_normal ?_
  refine H_ret ?_
  exact ret1 (v := .int _ _) rfl rfl rfl fun w' hw => ⟨rfl, hw.1⟩
def xlt (x y : RX) : Bool := idLt x.r y.r
theorem cmpI_lt (a b : Int) : decide (cmpI a b < 0) = decide (a < b) := by
  unfold cmpI
  split
  · rename_i h; simp [h]
  · rename_i h
    split <;> simp [h]
theorem xlt_asymm (u v : RX) (h : xlt u v = true) : xlt v u = false := by unfold xlt idLt at *; simp at *; omega
theorem xlt_ntrans (u v w : RX) (h1 : xlt u v = false) (h2 : xlt v w = false) : xlt u w = false := by unfold xlt idLt at *; simp at *; omega
section
variable {w0 w : World} {L : List E.Item}
set_option maxHeartbeats 1000000 in
set_option maxRecDepth 20000 in
theorem ins_w {A : Option Addr} {c : Nat} {xs : List RX} (a b : Nat) (hw : Mem w0 (rdRow A c xs :: L) w) (hmk : marks L = []) (hb : b ≤ xs.length) (hl : xs.length ≤ 100000) (ha : a ≤ 100000) :
    Calls Try.prog 77 #[.slice A xs.length c, .int .i64 a, .int .i64 b, .func (.func 43) #[] #[]] w fun e w' => ∃ ys : { ys : List RX // ∃ i, b ≤ i ∧ (i ≤ b ∨ i = a + 1) ∧ InsO xlt xs ys a i }, e = .returned (.tuple #[]) ∧ Mem w0 (rdRow A c ys.1 :: L) w' := by
  refine H_enterM hw hmk Try.func77 rfl Try.ntmps77 rfl ?_
  refine H_seq ?_
  refine R0 ?_
  refine xV (e_mv (v := .int _ _) (q0 rfl)) rfl rfl ?_
  refine xV (e_add (q0 rfl) (q0 rfl) (fun _ => ⟨rfl, by omega, by omega⟩)) rfl rfl ?_
  refine xV (e_as (v := .int _ _) (q0 rfl)) rfl rfl ?_
  refine XN ?_
  refine thenJ_normal ?_
  refine H_block ?_
  refine H_loop [8, 9, 12, 13, 14, 15, 16, 17, 18, 19, 20, 21, 22, 23, 24, 25, 26, 27, 28, 29, 30, 31, 32, 33, 34, 35, 36, 37, 38, 39, 40, 41, 42, 43, 44, 45, 46, 47, 48, 49, 50, 51, 52] (fun q : Nat × List RX => [(8, .int .i64 q.1)]) (fun q => rdRow A c q.2 :: L) (fun q => a + 1 ≤ q.1 ∧ (q.1 ≤ b ∨ q.1 = a + 1) ∧ InsO xlt xs q.2 a q.1) (fun q => b - q.1) (a + 1, xs) ⟨rfl, trivial⟩ (fun w hw => hw) rfl ⟨Nat.le_refl _, .inr rfl, InsO.start xs a⟩ ?_
  rintro ⟨i, ys⟩ g ⟨hai, hib, hO⟩
  simp only at hai hib hO
  have hyl : ys.length = xs.length := hO.perm.length_eq
  rw [← hyl]
  refine H_seq ?_
  refine H_seq ?_
  refine R0 ?_
  refine xV (e_mv (v := .int _ _) (q0 rfl)) rfl rfl ?_
  refine xV (e_mv (v := .int _ _) (q0 rfl)) rfl rfl ?_
  refine xV (e_lt (q0 rfl) (q0 rfl)) rfl rfl ?_
  refine XN ?_
  refine thenJ_normal ?_
  refine H_cond rfl (fun hlt => ?_) (fun hlt => ?_)
  · have hlt' : i < b := by simpa using hlt
    refine H_skip ?_
    refine thenJ_normal ?_
    refine H_seq ?_
    refine H_block ?_
    refine H_seq ?_
    refine R0 ?_
    refine xV (e_mv (v := .int _ _) (q0 rfl)) rfl rfl ?_
    refine xV (e_as (v := .int _ _) (q0 rfl)) rfl rfl ?_
    refine XN ?_
    refine thenJ_normal ?_
    refine H_block ?_
    refine H_loop [9, 18, 19, 20, 21, 22, 23, 24, 25, 26, 27, 28, 29, 30, 31, 32, 33, 34, 35, 36, 37, 38, 39, 40, 41, 42, 43, 44, 45, 46, 47, 48, 49, 50, 51, 52] (fun q : Nat × List RX => [(9, .int .i64 q.1)]) (fun q => rdRow A c q.2 :: L) (fun q => a ≤ q.1 ∧ q.1 ≤ i ∧ InsI xlt xs q.2 a i q.1) (fun q => q.1) (i, ys) ⟨rfl, trivial⟩ (fun w hw => hw) rfl ⟨by show a ≤ i; omega, Nat.le_refl _, hO.inner⟩ ?_
    rintro ⟨j, zs⟩ g2 ⟨haj, hji, hI⟩
    simp only at haj hji hI
    have hzl : zs.length = xs.length := hI.perm.length_eq
    rw [show ys.length = zs.length by omega]
    obtain ⟨x, hx⟩ : ∃ x, zs[j]? = some x := ⟨_, List.getElem?_eq_getElem (by omega)⟩
    obtain ⟨y, hy⟩ : ∃ y, zs[j - 1]? = some y := ⟨_, List.getElem?_eq_getElem (by omega)⟩
    refine H_know (fun w hw => rowT_at (j := 0) hw rfl (by simp only; omega)) fun ⟨rb, hrb⟩ => ?_
    subst hrb
    refine H_seq ?_
    refine H_seq ?_
    refine R1 rfl (by decide +kernel) ?_
    refine xV (e_mv (v := .int _ _) (q0 rfl)) rfl rfl ?_
    refine xV (e_mv (v := .int _ _) (q0 rfl)) rfl rfl ?_
    refine xV (e_gt (q0 rfl) (q0 rfl)) rfl rfl ?_
    refine xV (e_mv (v := .bool _) (q0 rfl)) rfl rfl ?_
    refine xVT (e_mv (q0 rfl)) rfl rfl rfl rfl ?_
    refine xVT (e_mv (v := .slice _ _ _) (q0 rfl)) rfl rfl rfl rfl ?_
    refine xVT (e_mv (v := .int _ _) (q0 rfl)) rfl rfl rfl rfl ?_
    refine xVT (e_idx j Try.underlying32 Try.sizeOf27 (q1 rfl) (q1 rfl) (fun _ => ⟨rfl, by omega⟩)) rfl rfl rfl rfl ?_
    refine xVT (e_lds (vs := x.cells) Try.isAgg27 Try.sizeOf27 (q1 rfl) (rrs 0 rfl hx) rfl) rfl rfl rfl rfl ?_
    refine xVT (e_mv (v := .slice _ _ _) (q0 rfl)) rfl rfl rfl rfl ?_
    refine xVT (e_mv (v := .int _ _) (q0 rfl)) rfl rfl rfl rfl ?_
    refine xVT (e_sub (r := ((j - 1 : Nat) : Int)) (q1 rfl) (q0 rfl) (fun hg => by simp at hg; exact ⟨by omega, by omega, by omega⟩)) rfl rfl rfl rfl ?_
    refine xVT (e_idx (j - 1) Try.underlying32 Try.sizeOf27 (q1 rfl) (q1 rfl) (fun _ => ⟨rfl, by omega⟩)) rfl rfl rfl rfl ?_
    refine xVT (e_lds (vs := y.cells) Try.isAgg27 Try.sizeOf27 (q1 rfl) (rrs 0 rfl hy) rfl) rfl rfl rfl rfl ?_
    refine xCT (enV (cap := []) (al := [.agg x.cells.toArray, .agg y.cells.toArray]) Try.call43 (q1 rfl) (fun hg => by rw [ha2 (q1 (v := .agg _) rfl) (q1 (v := .agg _) rfl) hg]; rfl)) (fun _ w _ => cmpId_w x y w) rfl rfl rfl rfl ?_
    refine xVT (e_lt (q1 rfl) (q0 rfl)) rfl rfl rfl rfl ?_
    refine xV (e_and (q0 rfl) rfl (fun h => by first | rfl | (rw [h]; rfl))) rfl rfl ?_
    refine XN ?_
    refine thenJ_normal ?_
    refine H_cond rfl (fun hc => ?_) (fun hc => ?_)
    · have hja : a < j ∧ xlt x y = true := by
        rw [cmpI_lt] at hc
        unfold xlt idLt
        simpa using hc
      have hx2 : (zs.set (j - 1) x)[j]? = some x := by rw [List.getElem?_set_ne (by omega)]; exact hx
      have hy2 : (zs.set j y)[j - 1]? = some y := by rw [List.getElem?_set_ne (by omega)]; exact hy
      refine H_skip ?_
      refine thenJ_normal ?_
      refine H_seq ?_
      refine H_block ?_
      refine H_cut [37, 38, 39, 40, 41, 42, 43, 44, 45, 46, 47, 48, 49, 50, 51, 52] (fun _ : Unit => []) (fun _ => rdRow (some ⟨rb, 0, none⟩) c ((zs.set j y).set (j - 1) x) :: L) (fun _ => True) ?_ ?_
      · refine RAd 1 rfl (by decide +kernel) ?_
        refine aV 0 (by decide +kernel) rfl (e_mv (v := .slice _ _ _) (q0 rfl)) rfl ?_
        refine aV 1 (by decide +kernel) rfl (e_mv (v := .int _ _) (q0 rfl)) rfl ?_
        refine aV 2 (by decide +kernel) rfl (e_mv (v := .slice _ _ _) (q0 rfl)) rfl ?_
        refine aV 3 (by decide +kernel) rfl (e_mv (v := .int _ _) (q0 rfl)) rfl ?_
        refine aV 4 (by decide +kernel) rfl (e_sub (q0 rfl) (q0 rfl) (fun _ => ⟨rfl, by omega, by omega⟩)) rfl ?_
        refine aV 5 (by decide +kernel) rfl (e_mv (v := .slice _ _ _) (q0 rfl)) rfl ?_
        refine aV 6 (by decide +kernel) rfl (e_mv (v := .int _ _) (q0 rfl)) rfl ?_
        refine aV 7 (by decide +kernel) rfl (e_sub (q0 rfl) (q0 rfl) (fun _ => ⟨rfl, by omega, by omega⟩)) rfl ?_
        refine aV 8 (by decide +kernel) rfl (e_idx (j - 1) Try.underlying32 Try.sizeOf27 (q0 rfl) (q0 rfl) (fun _ => ⟨by omega, by omega⟩)) rfl ?_
        refine aV 10 (by decide +kernel) rfl (e_mv (v := .slice _ _ _) (q0 rfl)) rfl ?_
        refine aV 11 (by decide +kernel) rfl (e_mv (v := .int _ _) (q0 rfl)) rfl ?_
        refine aV 12 (by decide +kernel) rfl (e_idx j Try.underlying32 Try.sizeOf27 (q0 rfl) (q0 rfl) (fun _ => ⟨by omega, by omega⟩)) rfl ?_
        refine rdy2 (i := 9) (j := 13) (by decide +kernel) (sub_drop 1) ?_ ?_
        · refine aL rfl (f_ev (e_lds (vs := y.cells) Try.isAgg27 Try.sizeOf27 (q0 rfl) (rrs 0 rfl hy) rfl) rfl rfl ?_)
          refine rdy1 (i := 13) (by decide +kernel) (sub_drop 1) ?_
          refine aL rfl (f_ev (e_lds (vs := x.cells) Try.isAgg27 Try.sizeOf27 (q0 rfl) (rrs 0 rfl hx) rfl) rfl rfl ?_)
          refine aV 14 (by decide +kernel) rfl (e_idx j Try.underlying32 Try.sizeOf27 (q0 rfl) (q0 rfl) (fun _ => ⟨by omega, by omega⟩)) rfl ?_
          refine rdy1 (i := 15) (by decide +kernel) (sub_drop 1) ?_
          refine aL rfl (f_storeR0 0 y rfl rfl Try.sizeOf27 rfl rfl rfl (by first | exact hx | exact hx2) rfl rfl ?_)
          refine aV 16 (by decide +kernel) rfl (e_idx (j - 1) Try.underlying32 Try.sizeOf27 (q0 rfl) (q0 rfl) (fun _ => ⟨by omega, by omega⟩)) rfl ?_
          refine rdy1 (i := 17) (by decide +kernel) (sub_drop 1) ?_
          refine aL rfl (f_storeR0 0 x rfl rfl Try.sizeOf27 rfl rfl rfl (by first | exact hy2 | exact hy) rfl rfl ?_)
          refine aZ (by decide +kernel) (sub_drop 1) ?_
          exact cutJ_normal () (by repeat (first | exact agree_self | exact agree_over | refine agree_upd rfl ?_ | refine agree_updL rfl ?_ | refine agree_over2 rfl ?_)) trivial (fun w hw => by first | exact hw | (rw [List.set_comm _ _ (by omega)]; exact hw)) rfl trivial
        · refine aL rfl (f_ev (e_lds (vs := x.cells) Try.isAgg27 Try.sizeOf27 (q0 rfl) (rrs 0 rfl hx) rfl) rfl rfl ?_)
          refine rdy1 (i := 9) (by decide +kernel) (sub_drop 1) ?_
          refine aL rfl (f_ev (e_lds (vs := y.cells) Try.isAgg27 Try.sizeOf27 (q0 rfl) (rrs 0 rfl hy) rfl) rfl rfl ?_)
          refine aV 14 (by decide +kernel) rfl (e_idx j Try.underlying32 Try.sizeOf27 (q0 rfl) (q0 rfl) (fun _ => ⟨by omega, by omega⟩)) rfl ?_
          refine rdy1 (i := 15) (by decide +kernel) (sub_drop 1) ?_
          refine aL rfl (f_storeR0 0 y rfl rfl Try.sizeOf27 rfl rfl rfl (by first | exact hx | exact hx2) rfl rfl ?_)
          refine aV 16 (by decide +kernel) rfl (e_idx (j - 1) Try.underlying32 Try.sizeOf27 (q0 rfl) (q0 rfl) (fun _ => ⟨by omega, by omega⟩)) rfl ?_
          refine rdy1 (i := 17) (by decide +kernel) (sub_drop 1) ?_
          refine aL rfl (f_storeR0 0 x rfl rfl Try.sizeOf27 rfl rfl rfl (by first | exact hy2 | exact hy) rfl rfl ?_)
          refine aZ (by decide +kernel) (sub_drop 1) ?_
          exact cutJ_normal () (by repeat (first | exact agree_self | exact agree_over | refine agree_upd rfl ?_ | refine agree_updL rfl ?_ | refine agree_over2 rfl ?_)) trivial (fun w hw => by first | exact hw | (rw [List.set_comm _ _ (by omega)]; exact hw)) rfl trivial
      · intro _ g5 _
        refine blockJ_normal ?_
        refine thenJ_normal ?_
        refine R0 ?_
        refine xV (e_mv (v := .int _ _) (q0 rfl)) rfl rfl ?_
        refine xV (e_sub (q0 rfl) (q0 rfl) (fun _ => ⟨rfl, by omega, by omega⟩)) rfl rfl ?_
        refine xV (e_as (v := .int _ _) (q0 rfl)) rfl rfl ?_
        refine XN ?_
        exact loopJ_normal (j - 1, (zs.set j y).set (j - 1) x) (by repeat (first | exact agree_self | exact agree_over | refine agree_upd rfl ?_ | refine agree_updL rfl ?_ | refine agree_over2 rfl ?_)) ⟨by show Value.int .i64 ((j : Int) - 1) = Value.int .i64 ((j - 1 : Nat) : Int); congr 1; omega, trivial⟩ (fun w hw => hw) rfl ⟨by show a ≤ j - 1; omega, by show j - 1 ≤ i; omega, hI.step xlt_asymm hja.1 hji hx hy hja.2⟩ (by show j - 1 < j; omega)
    · have hja : j = a ∨ xlt x y = false := by
        rw [cmpI_lt] at hc
        unfold xlt idLt
        simp at hc
        simp
        omega
      refine H_exit ?_
      refine thenJ_exit ?_
      refine loopJ_exit ?_
      refine blockJ_hit ?_
      refine blockJ_normal ?_
      refine thenJ_normal ?_
      refine R0 ?_
      refine xV (e_mv (v := .int _ _) (q0 rfl)) rfl rfl ?_
      refine xV (e_add (q0 rfl) (q0 rfl) (fun _ => ⟨rfl, by omega, by omega⟩)) rfl rfl ?_
      refine xV (e_as (v := .int _ _) (q0 rfl)) rfl rfl ?_
      refine XN ?_
      exact loopJ_normal (i + 1, zs) (by repeat (first | exact agree_self | exact agree_over | refine agree_upd rfl ?_ | refine agree_updL rfl ?_ | refine agree_over2 rfl ?_)) ⟨rfl, trivial⟩ (fun w hw => hw) rfl ⟨by show a + 1 ≤ i + 1; omega, .inl (by show i + 1 ≤ b; omega), hI.stop xlt_ntrans haj hji (hja.imp id fun h => ⟨x, y, hx, hy, h⟩)⟩ (by show b - (i + 1) < b - i; omega)
  · have hlt' : b ≤ i := by simpa using hlt
    refine H_exit ?_
    refine thenJ_exit ?_
    refine loopJ_exit ?_
    refine blockJ_hit ?_
    exact end0 rfl hmk fun w' hw => ⟨⟨ys, i, hlt', hib, hO⟩, rfl, hw⟩
/-- a list of at most twenty rides, sorted -/
structure Sorted (xs ys : List RX) : Prop where
  perm : ys.Perm xs
  ok : SortedOn xlt ys 0 ys.length
set_option maxRecDepth 20000 in
theorem stable_w {A : Option Addr} {c : Nat} {xs : List RX} (hw : Mem w0 (rdRow A c xs :: L) w) (hmk : marks L = []) (hl : xs.length ≤ 20) :
    Calls Try.prog 60 #[.slice A xs.length c, .int .i64 xs.length, .func (.func 43) #[] #[]] w fun e w' => ∃ ys : { ys : List RX // Sorted xs ys }, e = .returned (.tuple #[]) ∧ Mem w0 (rdRow A c ys.1 :: L) w' := by
  refine H_enterM hw hmk Try.func60 rfl Try.ntmps60 rfl ?_
  refine H_seq ?_
  refine R0 ?_
  refine xV (e_as (v := .int _ _) (q0 rfl)) rfl rfl ?_
  refine XN ?_
  refine thenJ_normal ?_
  refine H_seq ?_
  refine R0 ?_
  refine xV (e_mv (v := .int _ _) (q0 rfl)) rfl rfl ?_
  refine xV (e_as (v := .int _ _) (q0 rfl)) rfl rfl ?_
  refine xV (e_as (v := .int _ _) (q0 rfl)) rfl rfl ?_
  refine XN ?_
  refine thenJ_normal ?_
  refine H_seq ?_
  refine H_block ?_
  refine H_loop [7, 8, 11, 12, 13, 14, 15, 16, 17, 18, 19, 20, 21, 22] (fun q : Bool × List RX => [(7, .int .i64 (if q.1 = true then 20 else 0)), (8, .int .i64 (if q.1 = true then 40 else 20))]) (fun q => rdRow A c q.2 :: L) (fun q => q.2.Perm xs ∧ (q.1 = true → xs.length = 20 ∧ SortedOn xlt q.2 0 20) ∧ (q.1 = false → q.2 = xs)) (fun q => if q.1 = true then 0 else 1) (false, xs) ⟨rfl, rfl, trivial⟩ (fun w hw => hw) rfl ⟨List.Perm.refl _, fun h => by simp at h, fun _ => rfl⟩ ?_
  rintro ⟨d, ys⟩ g ⟨hp, hd1, hd0⟩
  simp only at hp hd1 hd0
  have hyl : ys.length = xs.length := hp.length_eq
  rw [← hyl]
  refine H_seq ?_
  refine H_seq ?_
  refine R0 ?_
  refine xV (e_mv (v := .int _ _) (q0 rfl)) rfl rfl ?_
  refine xV (e_mv (v := .int _ _) (q0 rfl)) rfl rfl ?_
  refine xV (e_le (q0 rfl) (q0 rfl)) rfl rfl ?_
  refine XN ?_
  refine thenJ_normal ?_
  refine H_cond rfl (fun hle => ?_) (fun hle => ?_)
  · cases d with
    | true => simp at hle; omega
    | false =>
      have h20 : ys.length = 20 := by simp at hle; omega
      have hyx := hd0 rfl
      refine H_skip ?_
      refine thenJ_normal ?_
      refine H_block ?_
      refine H_seq ?_
      refine R0 ?_
      refine xV (e_mv (v := .slice _ _ _) (q0 rfl)) rfl rfl ?_
      refine xV (e_mv (v := .int _ _) (q0 rfl)) rfl rfl ?_
      refine xV (e_mv (v := .int _ _) (q0 rfl)) rfl rfl ?_
      refine xV (e_mv (q0 rfl)) rfl rfl ?_
      refine X_eff (f_callM (en Try.call77 (ha4 (q0 rfl) (q0 rfl) (q0 rfl) (q0 rfl))) (fun w hw => ins_w (xs := ys) 0 20 hw hmk (by omega) (by omega) (by omega)) rfl (fun _ => rfl) fun u => ?_)
      obtain ⟨zs, i, hi1, hi2, hO⟩ := u
      refine XN ?_
      refine thenJ_normal ?_
      refine H_seq ?_
      refine R0 ?_
      refine xV (e_mv (v := .int _ _) (q0 rfl)) rfl rfl ?_
      refine xV (e_as (v := .int _ _) (q0 rfl)) rfl rfl ?_
      refine XN ?_
      refine thenJ_normal ?_
      refine R0 ?_
      refine xV (e_mv (v := .int _ _) (q0 rfl)) rfl rfl ?_
      refine xV (e_mv (v := .int _ _) (q0 rfl)) rfl rfl ?_
      refine xV (e_add (q0 rfl) (q0 rfl) (fun _ => ⟨rfl, by omega, by omega⟩)) rfl rfl ?_
      refine xV (e_as (v := .int _ _) (q0 rfl)) rfl rfl ?_
      refine XN ?_
      refine blockJ_normal ?_
      exact loopJ_normal (true, zs) (by repeat (first | exact agree_self | exact agree_over | refine agree_upd rfl ?_ | refine agree_updL rfl ?_ | refine agree_over2 rfl ?_)) ⟨rfl, rfl, trivial⟩ (fun w hw => hw) rfl ⟨hO.perm.trans hp, fun _ => ⟨by omega, fun p q x y h1 h2 h3 => hO.ok p q x y h1 h2 (by omega)⟩, fun h => by cases h⟩ (by show 0 < 1; decide)
  · have hlt : d = true ∨ ys.length < 20 := by
      cases d with
      | true => exact .inl rfl
      | false => right; simp at hle; omega
    have hmid : ∃ a0 : Nat, (if d = true then (20 : Int) else 0) = (a0 : Int) ∧ (a0 = 20 ∧ d = true ∨ a0 = 0 ∧ d = false) := by
      cases d with
      | true => exact ⟨20, rfl, .inl ⟨rfl, rfl⟩⟩
      | false => exact ⟨0, rfl, .inr ⟨rfl, rfl⟩⟩
    obtain ⟨a0, ha0, hcase⟩ := hmid
    simp only [ha0]
    refine H_exit ?_
    refine thenJ_exit ?_
    refine loopJ_exit ?_
    refine blockJ_hit ?_
    refine thenJ_normal ?_
    refine H_seq ?_
    refine R0 ?_
    refine xV (e_mv (v := .slice _ _ _) (q0 rfl)) rfl rfl ?_
    refine xV (e_mv (v := .int _ _) (q0 rfl)) rfl rfl ?_
    refine xV (e_mv (v := .int _ _) (q0 rfl)) rfl rfl ?_
    refine xV (e_mv (q0 rfl)) rfl rfl ?_
    refine X_eff (f_callM (en Try.call77 (ha4 (q0 rfl) (q0 rfl) (q0 rfl) (q0 rfl))) (fun w hw => ins_w (xs := ys) a0 ys.length hw hmk (by omega) (by omega) (by omega)) rfl (fun _ => rfl) fun u => ?_)
    obtain ⟨zs, i, hi1, hi2, hO⟩ := u
    have hzl : zs.length = xs.length := (hO.perm.trans hp).length_eq
    have hfin : Sorted xs zs := by
      refine ⟨hO.perm.trans hp, fun p q x y h1 h2 h3 hx hy => ?_⟩
      rcases hcase with ⟨h4, h5⟩ | ⟨h4, h5⟩
      · obtain ⟨h6, h7⟩ := hd1 h5
        rw [hO.out p (by omega)] at hx
        rw [hO.out q (by omega)] at hy
        exact h7 p q x y h1 h2 (by omega) hx hy
      · exact hO.ok p q x y (by omega) h2 (by omega) hx hy
    have hz20 : zs.length ≤ 20 := by omega
    refine XN ?_
    refine thenJ_normal ?_
    refine H_block ?_
    refine H_loop [6, 7, 8, 9, 28, 29, 30, 31, 32, 33, 34, 35, 36, 37, 38, 39, 40, 41, 42, 43, 44, 45, 46, 47, 48, 49, 50, 51, 52, 53, 54, 55, 56, 57, 58, 59, 60, 61, 62] (fun _ : Unit => [(6, .int .i64 20)]) (fun _ => rdRow A c zs :: L) (fun _ => True) (fun _ => 0) () ⟨rfl, trivial⟩ (fun w hw => hw) rfl trivial ?_
    intro _ g2 _
    refine H_seq ?_
    refine H_seq ?_
    refine R0 ?_
    refine xV (e_mv (v := .int _ _) (q0 rfl)) rfl rfl ?_
    refine xV (e_mv (v := .int _ _) (q0 rfl)) rfl rfl ?_
    refine xV (e_lt (q0 rfl) (q0 rfl)) rfl rfl ?_
    refine XN ?_
    refine thenJ_normal ?_
    refine H_cond rfl (fun h9 => ?_) (fun h9 => ?_)
    · simp at h9; omega
    · refine H_exit ?_
      refine thenJ_exit ?_
      refine loopJ_exit ?_
      refine blockJ_hit ?_
      exact end0 rfl hmk fun w' hw => ⟨⟨zs, hfin⟩, rfl, hw⟩
set_option maxRecDepth 20000 in
theorem sort_w {A : Option Addr} {c : Nat} {xs : List RX} (hw : Mem w0 (rdRow A c xs :: L) w) (hmk : marks L = []) (hl : xs.length ≤ 20) :
    Calls Try.prog 42 #[.slice A xs.length c, .func (.func 43) #[] #[]] w fun e w' => ∃ ys : { ys : List RX // Sorted xs ys }, e = .returned (.tuple #[]) ∧ Mem w0 (rdRow A c ys.1 :: L) w' := by
  refine H_enterM hw hmk Try.func42 rfl Try.ntmps42 rfl ?_
  refine R0 ?_
  refine xV (e_mv (v := .slice _ _ _) (q0 rfl)) rfl rfl ?_
  refine xV (e_mv (v := .slice _ _ _) (q0 rfl)) rfl rfl ?_
  refine xV (e_len Try.underlying32 (q0 rfl)) rfl rfl ?_
  refine xV (e_mv (q0 rfl)) rfl rfl ?_
  refine X_eff (f_callM (en Try.call60 (ha3 (q0 rfl) (q0 rfl) (q0 rfl))) (fun w hw => stable_w hw hmk hl) rfl (fun _ => rfl) fun u => ?_)
  refine XN ?_
  exact end0 rfl hmk fun w' hw => ⟨u, rfl, hw⟩
end

end Go.Proofs.Rid
