import Derived.Test.YtlihpbblpmpcfaaRid7
import Derived.Test.YtlihpbblpmpcfaaRid6
set_option linter.unusedVariables false
set_option linter.unusedSimpArgs false
/-
  Plain facts: the legs that a moment lies in.
-/
namespace Go.Proofs.Rid
open Go.Proofs.Cus

/-- is the moment in this leg; fin: it is the last of an open ride -/
def covG (b t : Int) (fin : Bool) (g : Lg) : Bool := (decide (g.bike = b) && decide (g.from_.lo ≤ t)) && (fin || decide (t < g.to_.lo))
/-- how many legs of a ride the moment lies in -/
def covN (b t : Int) (o : Bool) : List Lg → Nat
  | [] => 0
  | g :: l => (if covG b t (o && l.isEmpty) g = true then 1 else 0) + covN b t o l
theorem covN_shut_app (b t : Int) : ∀ l m : List Lg, covN b t false (l ++ m) = covN b t false l + covN b t false m
  | [], m => by simp [covN]
  | g :: l, m => by
    show (if covG b t (false && (l ++ m).isEmpty) g = true then 1 else 0) + covN b t false (l ++ m) = ((if covG b t (false && l.isEmpty) g = true then 1 else 0) + covN b t false l) + covN b t false m
    rw [covN_shut_app b t l m]
    simp only [Bool.false_and]
    omega
theorem covN_open (b t : Int) : ∀ (l : List Lg) (g : Lg), covN b t true (l ++ [g]) = covN b t false l + if covG b t true g = true then 1 else 0
  | [], g => by simp [covN]
  | h :: l, g => by
    show (if covG b t (true && (l ++ [g]).isEmpty) h = true then 1 else 0) + covN b t true (l ++ [g]) = ((if covG b t (false && l.isEmpty) h = true then 1 else 0) + covN b t false l) + _
    rw [covN_open b t l g, show (l ++ [g]).isEmpty = false by cases l <;> rfl]
    simp only [Bool.false_and, Bool.and_false]
    omega
/-- a leg that ends later than the moment -/
theorem covG_end (b t : Int) (g : Lg) (w : Spn) (h : t < w.lo) : covG b t false { g with to_ := w } = covG b t true g := by
  unfold covG
  simp [h]
theorem covG_new (b t : Int) (fin : Bool) (k : Int) (w z : Spn) (h : t < w.lo) : covG b t fin ⟨k, w, z⟩ = false := by
  unfold covG
  have : ¬ w.lo ≤ t := by omega
  simp [this]
def covR (b t : Int) (r : Rd) : Nat := covN b t r.open_ r.legs
/-- an event behind the moment changes nothing of what lies at it -/
theorem cov_step {T : Int} {p p' : Bool} {r q : Rd} {e : Ev} (h : RV T p r) (ho : r.open_ = true) (hs : RdStep e p r p' q) (b t : Int) (ht : t < e.at_) : covR b t q = covR b t r := by
  obtain ⟨l, g, hlg, _, _⟩ := h.last ho
  have hw : t < (spanE e).lo := ht
  have hrl : ∀ p, (resumeR p (spanE e) r).legs = r.legs ∧ (resumeR p (spanE e) r).open_ = r.open_ := fun p => by unfold resumeR; split <;> exact ⟨rfl, rfl⟩
  have hbase : covR b t r = covN b t false l + if covG b t true g = true then 1 else 0 := by
    unfold covR; rw [ho, hlg, covN_open]
  have hend : covN b t false (l ++ [({ g with to_ := spanE e } : Lg)]) = covN b t false l + if covG b t true g = true then 1 else 0 := by
    rw [covN_shut_app]
    show _ + ((if covG b t (false && true) { g with to_ := spanE e } = true then 1 else 0) + 0) = _
    rw [Bool.false_and, covG_end b t g _ hw]; rfl
  cases hs with
  | swap h4 hp =>
    rw [hbase]
    show covN b t r.open_ (endLeg (spanE e) r.legs ++ [(⟨e.bike, spanE e, zSpn⟩ : Lg)]) = _
    rw [ho, covN_open, hlg, endLeg_snoc, hend, covG_new b t true _ _ _ hw]; rfl
  | pause h5 hp => rfl
  | resume h6 =>
    unfold covR
    rw [(hrl p).1, (hrl p).2]
  | finish to h3 hto =>
    rw [hbase]
    show covN b t false (endLeg (spanE e) (resumeR p (spanE e) r).legs) = _
    rw [(hrl p).1, hlg, endLeg_snoc, hend]
/-- the numbers of the rides that a moment lies in, on a bicycle -/
def covF (b t : Int) (r : Rd) : List Int := List.replicate (covR b t r) r.id
def covY (b t : Int) (l : List Rd) : List Int := (l.map (covF b t)).flatten
theorem step_id {e : Ev} {p p' : Bool} {r q : Rd} (h : RdStep e p r p' q) : q.id = r.id := by
  have hres : ∀ p, (resumeR p (spanE e) r).id = r.id := fun p => by unfold resumeR; split <;> rfl
  cases h with
  | swap h4 hp => rfl
  | pause h5 hp => rfl
  | resume h6 => exact hres p
  | finish to h3 hto => exact hres p
theorem cov_form {T : Int} {y z : SY} {e : Ev} (h : VI T y) (hf : StForm e y z) (b t : Int) (ht : t < e.at_) : covY b t z.rides = covY b t y.rides := by
  unfold covY
  cases hf with
  | same h3 h1 h2 => rw [h1]
  | new from_ h3 h1 h2 =>
    rw [h1, List.map_append, List.flatten_append]
    have h0 : covR b t (newR e from_ (spanE e)) = 0 := by
      show covN b t true ([] ++ [(⟨e.bike, spanE e, zSpn⟩ : Lg)]) = 0
      rw [covN_open, covG_new b t true _ _ _ (show t < (spanE e).lo from ht)]; rfl
    have h1 : [newR e from_ (spanE e)].map (covF b t) = [[]] := by
      show [covF b t (newR e from_ (spanE e))] = [[]]
      unfold covF
      rw [h0]; rfl
    rw [h1]
    simp
  | one j r q p p' h3 hr ho hp hs h1 h2 =>
    have hF : covF b t q = covF b t r := by unfold covF; rw [cov_step (h j r p hr hp) ho hs b t ht, step_id hs]
    rw [h1, List.map_set, hF, set_same (by rw [List.getElem?_map, hr]; rfl)]
theorem cov_run {f : Fl} {n : Nat} (hn : f.bikes = n) (b t : Int) : ∀ (l : List Ev) {N : Nat} {T : Int} {s : PS} {y : SY}, VI T y → Joint n N s y → Replay f s l → (∀ e ∈ l, T ≤ e.at_ ∧ t < e.at_) → l.Pairwise (fun a b => a.at_ ≤ b.at_) → covY b t (l.foldl tellY y).rides = covY b t y.rides
  | [], N, T, s, y, h, _, _, _, _ => rfl
  | e :: l, N, T, s, y, h, hJ, ⟨h1, h2, h3, h4⟩, hT, hs => by
    have hb := (evErr_ok h1).2.1
    rw [hn] at hb
    obtain ⟨hw, hid⟩ := ev_span h1
    have hform := tell_form hJ.ji hJ.inv hb h3
    have hJ2 : Joint n (N + 1) (doP s e) (tellY y e) := ⟨hJ.ji.step hJ.inv hJ.wf hb h3, hJ.inv.step hb h3, hJ.wf.tell hb⟩
    obtain ⟨hs1, hs2⟩ := List.pairwise_cons.1 hs
    have hTe := hT e (by simp)
    rw [List.foldl_cons, cov_run hn b t l (h.step hJ.wf hform hw hid hTe.1) hJ2 h4 (fun a ha => ⟨hs1 a ha, (hT a (by simp [ha])).2⟩) hs2]
    exact cov_form h hform b t hTe.2
/-- legs that follow one another in order end by the end -/
theorem chain_le : ∀ (l : List Lg) (a e : Spn), chainP a l e = true → l.all lgOrd = true → a.lo ≤ e.lo ∧ ∀ g ∈ l, g.to_.lo ≤ e.lo
  | [], a, e, h, _ => by
    have : a = e := by simpa [chainP] using h
    subst this
    exact ⟨Int.le_refl _, fun g hg => by cases hg⟩
  | g :: l, a, e, h, ho => by
    simp only [chainP, Bool.and_eq_true, decide_eq_true_eq] at h
    rw [List.all_cons, Bool.and_eq_true] at ho
    obtain ⟨h1, h2⟩ := chain_le l g.to_ e h.2 ho.2
    have h3 : g.from_.lo ≤ g.to_.lo := by
      have := ho.1
      unfold lgOrd at this
      simp at this
      exact this
    rw [← h.1]
    exact ⟨by omega, fun x hx => by
      rcases List.mem_cons.1 hx with rfl | hx
      · exact h1
      · exact h2 x hx⟩
theorem covN_late (b t : Int) : ∀ l : List Lg, (∀ g ∈ l, g.to_.lo ≤ t) → covN b t false l = 0
  | [], _ => rfl
  | g :: l, h => by
    show (if covG b t (false && l.isEmpty) g = true then 1 else 0) + covN b t false l = 0
    rw [covN_late b t l (fun x hx => h x (List.mem_cons_of_mem _ hx))]
    have h1 : ¬ t < g.to_.lo := by have := h g (List.mem_cons_self ..); omega
    have : covG b t (false && l.isEmpty) g = false := by unfold covG; simp [h1]
    rw [this]; rfl
/-- behind all events: an open ride's last leg is what the moment lies in -/
theorem cov_open {T t : Int} {p : Bool} {r : Rd} (h : RV T p r) (ho : r.open_ = true) (hT : T ≤ t) (b : Int) : covR b t r = if lastBike r.legs = b then 1 else 0 := by
  obtain ⟨l, g, hlg, _, hgT⟩ := h.last ho
  have hch : chainP r.start l g.from_ = true := by
    have := h.chain
    rw [hlg, chain_snoc] at this
    simp at this
    exact this.1
  have hlo : l.all lgOrd = true := by have := h.lord; rw [ho, hlg, lord_open] at this; exact this
  have hle := (chain_le l r.start g.from_ hch hlo).2
  unfold covR
  rw [ho, hlg, covN_open, covN_late b t l (fun x hx => by have := hle x hx; omega), lastBike_snoc]
  have h1 : g.from_.lo ≤ t := by omega
  have : covG b t true g = decide (g.bike = b) := by unfold covG; simp [h1]
  rw [this]
  by_cases hb : g.bike = b <;> simp [hb]
theorem cov_shut {t : Int} {T : Int} {p : Bool} {r : Rd} (h : RV T p r) (ho : r.open_ = false) (he : r.end_.lo ≤ t) (b : Int) : covR b t r = 0 := by
  have hlo : r.legs.all lgOrd = true := by have := h.lord; rw [ho, lord_shut] at this; exact this
  have hle := (chain_le r.legs r.start r.end_ h.chain hlo).2
  unfold covR
  rw [ho]
  exact covN_late b t _ fun x hx => by have := hle x hx; omega
/-- rides that have ended ended by T -/
def EI (T : Int) (y : SY) : Prop := ∀ r ∈ y.rides, r.open_ = false → r.end_.lo ≤ T
theorem EI.step {T : Int} {y z : SY} {e : Ev} (h : EI T y) (hf : StForm e y z) (hT : T ≤ e.at_) : EI e.at_ z := by
  cases hf with
  | same h3 h1 h2 => intro r hr ho; rw [h1] at hr; have := h r hr ho; omega
  | new from_ h3 h1 h2 =>
    intro r hr ho
    rw [h1] at hr
    rcases List.mem_append.1 hr with hr | hr
    · have := h r hr ho; omega
    · rw [List.mem_singleton] at hr
      subst hr
      cases ho
  | one j r q p p' h3 hr ho hp hs h1 h2 =>
    intro u hu huo
    rw [h1] at hu
    rcases List.mem_or_eq_of_mem_set hu with hu | rfl
    · have := h u hu huo; omega
    · have hro : ∀ p, (resumeR p (spanE e) r).open_ = r.open_ := fun p => by unfold resumeR; split <;> rfl
      cases hs with
      | swap h4 hp0 => rw [show r.open_ = false from huo] at ho; cases ho
      | pause h5 hp0 => rw [show r.open_ = false from huo] at ho; cases ho
      | resume h6 => rw [hro, ho] at huo; cases huo
      | finish to h3' hto => exact Int.le_refl _
theorem EI.run {f : Fl} {n : Nat} (hn : f.bikes = n) : ∀ (l : List Ev) {N : Nat} {T : Int} {s : PS} {y : SY}, EI T y → VI T y → Joint n N s y → Replay f s l → (∀ e ∈ l, T ≤ e.at_) → l.Pairwise (fun a b => a.at_ ≤ b.at_) → ∀ t, T ≤ t → (∀ e ∈ l, e.at_ ≤ t) → ∃ T', T' ≤ t ∧ EI T' (l.foldl tellY y) ∧ VI T' (l.foldl tellY y)
  | [], N, T, s, y, h, hV, _, _, _, _, t, ht, _ => ⟨T, ht, h, hV⟩
  | e :: l, N, T, s, y, h, hV, hJ, ⟨h1, h2, h3, h4⟩, hT, hs, t, ht, hl => by
    have hb := (evErr_ok h1).2.1
    rw [hn] at hb
    obtain ⟨hw, hid⟩ := ev_span h1
    have hform := tell_form hJ.ji hJ.inv hb h3
    have hJ2 : Joint n (N + 1) (doP s e) (tellY y e) := ⟨hJ.ji.step hJ.inv hJ.wf hb h3, hJ.inv.step hb h3, hJ.wf.tell hb⟩
    obtain ⟨hs1, hs2⟩ := List.pairwise_cons.1 hs
    have hTe := hT e (by simp)
    exact EI.run hn l (h.step hform hTe) (hV.step hJ.wf hform hw hid hTe) hJ2 h4 (fun a ha => hs1 a ha) hs2 t (hl e (by simp)) (fun a ha => hl a (by simp [ha]))

end Go.Proofs.Rid

/-
  Plain facts: the accepted events split at a moment; what the legs say of a bicycle at a moment.
-/
namespace Go.Proofs.Rid
open Go.Proofs.Cus

theorem run_full {f : Fl} : ∀ (l : List Ev) (s : PS) (za : List Ev), ∃ t, runR f accCb l (s, za) = (t.foldl doP s, za ++ t) ∧ Replay f s t ∧ t.Sublist l
  | [], s, za => ⟨[], by simp [runR], trivial, List.Sublist.refl _⟩
  | e :: l, s, za => by
    show ∃ t, runR f accCb l (tellR accCb za e (stepR f s e)) = (t.foldl doP s, za ++ t) ∧ _
    by_cases h0 : errR f s e = 0
    · by_cases hk : e.kind = 10
      · rw [step_beat h0 hk]
        obtain ⟨t, h1, h2, h3⟩ := run_full l s za
        exact ⟨t, h1, h2, h3.cons _⟩
      · obtain ⟨h1, h2, h3⟩ := step_do h0 hk
        rw [h1]
        obtain ⟨t, a1, a2, a3⟩ := run_full l (doP s e) (za ++ [e])
        refine ⟨e :: t, ?_, ⟨h2, hk, h3, a2⟩, a3.cons_cons _⟩
        show runR f accCb l (doP s e, accCb za (doP s e) e 0) = _
        rw [show accCb za (doP s e) e 0 = za ++ [e] from rfl, a1]
        simp
    · rw [step_err h0]
      show ∃ t, runR f accCb l (s, accCb za s e (errR f s e)) = _ ∧ _
      rw [show accCb za s e (errR f s e) = za by unfold accCb; rw [if_neg h0]]
      obtain ⟨t, h1, h2, h3⟩ := run_full l s za
      exact ⟨t, h1, h2, h3.cons _⟩
theorem acc_split {f : Fl} (hok : flErr f = 0) (xs : List Ev) (t : Int) : ∃ rest, accOf f xs = accOf f (untilP t xs) ++ rest ∧ Replay f (finS f (untilP t xs)) rest ∧ (∀ e ∈ accOf f (untilP t xs), e.at_ ≤ t) ∧ (∀ e ∈ rest, t < e.at_) := by
  have hs := (set_isSet xs).sorted
  obtain ⟨k, hk, hf, hd⟩ := early_take (l := setOf xs) (fun x => !decide (t < x.at_)) hs (fun a b hab hb => by simp at hb ⊢; omega)
  have hu : untilP t xs = (setOf xs).take k := hf
  obtain ⟨t1, a1, a2, a3⟩ := run_full (f := f) ((setOf xs).take k) (beginP (nbOf f)) []
  obtain ⟨t2, b1, b2, b3⟩ := run_full (f := f) ((setOf xs).drop k) (t1.foldl doP (beginP (nbOf f))) ([] ++ t1)
  have hacc : accOf f xs = t1 ++ t2 := by
    unfold accOf
    rw [if_pos hok]
    conv => lhs; rw [← List.take_append_drop k (setOf xs)]
    rw [runR_append, a1, b1]
    simp
  have hpre : accOf f (untilP t xs) = t1 := by
    unfold accOf
    rw [if_pos hok, until_set, hu, a1]
    simp
  refine ⟨t2, by rw [hacc, hpre], by unfold finS; rw [hpre]; exact b2, fun e he => ?_, fun e he => ?_⟩
  · rw [hpre] at he
    have h2 := a3.subset he
    rw [← hf] at h2
    have := (List.mem_filter.1 h2).2
    simp at this; simpa using this
  · have := hd e (b3.subset he)
    simp at this; simpa using this
/-- is this the open ride on the bicycle -/
def onB (b : Int) (r : Rd) : Bool := r.open_ && decide (lastBike r.legs = b)
theorem covY_filter (b t : Int) : ∀ l : List Rd, (∀ r ∈ l, covR b t r = if onB b r = true then 1 else 0) → covY b t l = (l.filter (onB b)).map (·.id)
  | [], _ => rfl
  | r :: l, h => by
    have ih := covY_filter b t l fun x hx => h x (List.mem_cons_of_mem _ hx)
    unfold covY at ih ⊢
    rw [List.map_cons, List.flatten_cons, ih, List.filter_cons]
    have h1 := h r (List.mem_cons_self ..)
    unfold covF
    rw [h1]
    by_cases hb : onB b r = true
    · rw [if_pos hb, if_pos hb]; rfl
    · rw [if_neg hb, if_neg hb]; rfl
theorem on_spot {n : Nat} {s : PS} {y : SY} (hJ : JI n s y) (hI : PInv n s) {b : Nat} {r : Rd} (hr : r ∈ y.rides) (hb : onB b r = true) : ∃ x, s.spots[b]? = some x ∧ x.where_ = 3 ∧ x.ride = r.id := by
  unfold onB at hb
  rw [Bool.and_eq_true, decide_eq_true_eq] at hb
  obtain ⟨k, hk⟩ := List.mem_iff_getElem?.1 hr
  obtain ⟨t, ht⟩ := hJ.rid k r hk hb.1
  obtain ⟨j, q, a1, a2, a3, a4, _⟩ := hJ.open_ _ t ht
  have hjk := id_uniq hJ.ids hk a1 a2.symm
  subst hjk
  rw [hk] at a1; cases a1
  obtain ⟨_, x, hx, h3, hxr, _⟩ := hI.bike _ ht
  simp only at hx hxr
  have : t.bike.toNat = b := by rw [← a4, hb.2]; rfl
  rw [this] at hx
  exact ⟨x, hx, h3, hxr⟩
theorem on_list {n : Nat} {s : PS} {y : SY} (hJ : JI n s y) (hI : PInv n s) {b : Nat} {x : Sp} (hx : s.spots[b]? = some x) : (y.rides.filter (onB b)).map (·.id) = if x.where_ = 3 then [x.ride] else [] := by
  have hall : ∀ i ∈ (y.rides.filter (onB b)).map (·.id), x.where_ = 3 ∧ i = x.ride := fun i hi => by
    obtain ⟨r, hr, rfl⟩ := List.mem_map.1 hi
    obtain ⟨hr1, hr2⟩ := List.mem_filter.1 hr
    obtain ⟨z, hz, h3, hzr⟩ := on_spot hJ hI hr1 hr2
    rw [hx] at hz
    cases hz
    exact ⟨h3, hzr.symm⟩
  have hnd : ((y.rides.filter (onB b)).map (·.id)).Nodup := hJ.ids.sublist (List.filter_sublist.map _)
  split
  · rename_i h3
    obtain ⟨t, ht, htb⟩ := hI.spot b x hx h3
    obtain ⟨k, r, a1, a2, a3, a4, _⟩ := hJ.open_ _ _ ht
    have hm : x.ride ∈ (y.rides.filter (onB b)).map (·.id) := List.mem_map.2 ⟨r, List.mem_filter.2 ⟨List.mem_of_getElem? a1, by unfold onB; rw [a3, a4, htb]; simp⟩, a2⟩
    generalize (y.rides.filter (onB b)).map (·.id) = L at *
    match L, hall, hnd, hm with
    | [], _, _, hm => cases hm
    | [i], hall, _, _ => rw [(hall i (by simp)).2]
    | i :: j :: L, hall, hnd, _ =>
      have h1 := (hall i (by simp)).2
      have h2 := (hall j (by simp)).2
      rw [h1, h2] at hnd
      simp at hnd
  · rename_i h3
    cases hL : (y.rides.filter (onB b)).map (·.id) with
    | nil => rfl
    | cons i L => exact absurd (hall i (by rw [hL]; simp)).1 h3
theorem covY_perm {b t : Int} {l m : List Rd} (h : l.Perm m) : (covY b t l).Perm (covY b t m) := by
  unfold covY
  exact (h.map _).flatten
/-- what lies in a ride's leg at a moment is what is in a ride then -/
theorem cov_at {f : Fl} (hok : flErr f = 0) (xs : List Ev) {t : Int} (h0 : 0 ≤ t) {b : Nat} {x : Sp} (hx : (spotsOf f (untilP t xs))[b]? = some x) : covY b t (allOf f xs) = if x.where_ = 3 then [x.ride] else [] := by
  obtain ⟨rest, hacc, hrr, hpre, hpost⟩ := acc_split hok xs t
  have hn := nb_eq hok
  obtain ⟨hrp, _⟩ := replay_of hok (untilP t xs) (fun _ => ())
  have hJ := joint_of hok (untilP t xs)
  have hpos : ∀ e ∈ accOf f (untilP t xs), 0 ≤ e.at_ := fun e he => by
    obtain ⟨k, hk⟩ := List.mem_iff_getElem?.1 he
    exact (evErr_ok (hrp.at_ (g := fun _ => ()) hk).1).2.2.2.2.1
  have hV0 : VI 0 (beginSY (nbOf f)) := fun k r p h => by simp [beginSY] at h
  have hE0 : EI 0 (beginSY (nbOf f)) := fun r h => by simp [beginSY] at h
  obtain ⟨T, hT, hE, hV⟩ := EI.run hn (accOf f (untilP t xs)) hE0 hV0 (joint_begin _) hrp hpos (acc_sorted hok _) t h0 hpre
  have hsr : rest.Pairwise fun a b => a.at_ ≤ b.at_ := by
    have := acc_sorted hok xs
    rw [hacc, List.pairwise_append] at this
    exact this.2.1
  have hst : storyOf f xs = rest.foldl tellY (storyOf f (untilP t xs)) := by
    unfold storyOf
    rw [hacc, List.foldl_append]
  have h1 : covY b t (storyOf f xs).rides = covY b t (storyOf f (untilP t xs)).rides := by
    rw [hst]
    exact cov_run hn b t rest hV hJ hrr (fun e he => by have := hpost e he; exact ⟨by omega, this⟩) hsr
  have h2 : covY b t (storyOf f (untilP t xs)).rides = ((storyOf f (untilP t xs)).rides.filter (onB b)).map (·.id) := by
    refine covY_filter b t _ fun r hr => ?_
    obtain ⟨k, hk⟩ := List.mem_iff_getElem?.1 hr
    obtain ⟨p, hp⟩ : ∃ p, (storyOf f (untilP t xs)).paused[k]? = some p := ⟨_, List.getElem?_eq_getElem (by rw [hJ.wf.paused]; exact (List.getElem?_eq_some_iff.1 hk).1)⟩
    have hR := hV k r p hk hp
    unfold onB
    cases ho : r.open_ with
    | true =>
      rw [cov_open hR ho hT b, Bool.true_and]
      by_cases hb : lastBike r.legs = b <;> simp [hb]
    | false =>
      rw [cov_shut hR ho (by have := hE r hr ho; omega) b]
      simp
  rw [spots_fin hok] at hx
  have h3 := on_list hJ.ji hJ.inv (b := b) hx
  have hp : (covY b t (allOf f xs)).Perm (if x.where_ = 3 then [x.ride] else []) := by
    rw [← h3, ← h2, ← h1]
    unfold allOf
    rw [if_pos hok]
    exact covY_perm (byId_perm _)
  split
  · rename_i h
    rw [if_pos h] at hp
    exact List.perm_singleton.1 hp
  · rename_i h
    rw [if_neg h] at hp
    exact List.perm_nil.1 hp

end Go.Proofs.Rid

/-
  The walks of the laws: the legs that a moment lies in.
-/
namespace Go.Proofs.Rid
open Go Go.RowKit Go.Proofs.E Go.Proofs.Cus

theorem cov_snoc {b t : Int} {xs : List RX} {k : Nat} {x : RX} (h : xs[k]? = some x) : covY b t ((xs.take (k + 1)).map (·.r)) = covY b t ((xs.take k).map (·.r)) ++ covF b t x.r := by
  unfold covY
  rw [take_snoc _ _ _ h, List.map_append, List.map_append, List.flatten_append]
  simp
theorem last_rep (L : List Int) (a : Nat) (id : Int) : (L ++ List.replicate a id).getLastD 0 = if a = 0 then L.getLastD 0 else id := by
  cases a with
  | zero => simp
  | succ a => rw [List.replicate_succ', ← List.append_assoc, List.getLastD_concat, if_neg (by omega)]
theorem cov_drop {b t : Int} {o : Bool} {l : List Lg} {q : Nat} {g : Lg} (h : l[q]? = some g) (hq : q < l.length) : covN b t o (l.drop q) = (if covG b t (o && decide ((q : Int) = (l.length : Int) - 1)) g = true then 1 else 0) + covN b t o (l.drop (q + 1)) := by
  rw [drop_of h]
  show (if covG b t (o && (l.drop (q + 1)).isEmpty) g = true then 1 else 0) + _ = _
  rw [drop_empty hq]
set_option maxHeartbeats 1000000 in
set_option maxRecDepth 20000 in
theorem within_w (A : Option Addr) (n c : Nat) (xs : List RX) (b t : Int) (w : World) (hx : RdsAt w A n xs) (hs : ∀ x ∈ xs, x.r.legs.length ≤ 1000) (hn1 : n ≤ 1000) : Calls Try.prog 28 #[.slice A n c, .int .i64 b, .int .i64 t] w fun e w' => e = .returned (.tuple #[.int .i64 ((covY b t (xs.map (·.r))).length : Nat), .int .i64 ((covY b t (xs.map (·.r))).getLastD 0)]) ∧ Bel w w' := by
  have hl := hx.1.1
  obtain ⟨L, hL⟩ : ∃ L : Nat → List Int, ∀ k, L k = covY b t ((xs.take k).map (·.r)) := ⟨_, fun _ => rfl⟩
  have hL0 : L 0 = [] := by rw [hL]; rfl
  have hLn : covY b t (xs.map (·.r)) = L n := by rw [hL, ← hl, List.take_length]
  have hLs : ∀ k x, xs[k]? = some x → L (k + 1) = L k ++ List.replicate (covR b t x.r) x.r.id := fun k x h => by rw [hL, hL, cov_snoc h]; rfl
  have hcN : ∀ (o : Bool) (l : List Lg), covN b t o l ≤ l.length := fun o l => by
    induction l with
    | nil => exact Nat.le_refl _
    | cons g l ih =>
      show (if _ then 1 else 0) + covN b t o l ≤ l.length + 1
      split <;> omega
  have hLl : ∀ k, k ≤ n → (L k).length ≤ 1000 * k := by
    intro k
    induction k with
    | zero => intro _; rw [hL0]; exact Nat.le_refl _
    | succ k ih =>
      intro hk
      obtain ⟨x, hxk⟩ : ∃ x, xs[k]? = some x := ⟨_, List.getElem?_eq_getElem (by omega)⟩
      rw [hLs k x hxk, List.length_append, List.length_replicate]
      have h1 := ih (by omega)
      have h2 := hcN x.r.open_ x.r.legs
      have h3 := hs x (List.mem_of_getElem? hxk)
      unfold covR
      omega
  rw [hLn]
  refine H_enter Try.func28 rfl Try.ntmps28 rfl ?_
  refine H_seq ?_
  refine R0 ?_
  refine xV (e_as (v := .int _ _) (q0 rfl)) rfl rfl ?_
  refine xV (e_as (v := .int _ _) (q0 rfl)) rfl rfl ?_
  refine XN ?_
  refine thenJ_normal ?_
  refine H_seq ?_
  refine R0 ?_
  refine xV (e_as (v := .int _ _) (q0 rfl)) rfl rfl ?_
  refine xV (e_as (v := .int _ _) (q0 rfl)) rfl rfl ?_
  refine XN ?_
  refine thenJ_normal ?_
  refine H_seq ?_
  refine H_seq ?_
  refine R0 ?_
  refine xV (e_as (v := .int _ _) (q0 rfl)) rfl rfl ?_
  refine XN ?_
  refine thenJ_normal ?_
  refine H_block ?_
  refine H_loop [8, 9, 10, 11, 12, 13, 14, 15, 16, 17, 18, 19, 20, 21, 22, 23, 24, 25, 26, 27, 28, 29, 30, 31, 32, 33, 34, 35, 36, 37, 38, 39, 40, 41, 42, 43, 44, 45, 46, 47, 48, 49, 50, 51, 52, 53, 54, 55, 56, 57, 58, 59, 60, 61, 62, 63, 64, 65, 66, 67, 68, 69, 70, 71, 72, 73, 74, 75, 76, 77, 78, 79, 80, 81] (fun k : Nat => [(10, .int .i64 k), (8, .int .i64 ((L k).length : Nat)), (9, .int .i64 ((L k).getLastD 0))]) (fun _ => []) (fun k => k ≤ n) (fun k => n - k) 0 ⟨rfl, by rw [hL0]; rfl, by rw [hL0]; rfl, trivial⟩ (fun w hw => hw) rfl (Nat.zero_le _) ?_
  rintro k g hk
  have hLk := hLl k hk
  refine H_seq ?_
  refine H_seq ?_
  refine R0 ?_
  refine xV (e_mv (v := .int _ _) (q0 rfl)) rfl rfl ?_
  refine xV (e_mv (v := .slice _ _ _) (q0 rfl)) rfl rfl ?_
  refine xV (e_len Try.underlying32 (q0 rfl)) rfl rfl ?_
  refine xV (e_lt (q0 rfl) (q0 rfl)) rfl rfl ?_
  refine XN ?_
  refine thenJ_normal ?_
  refine H_cond rfl (fun hlt => ?_) (fun hlt => ?_)
  · have hlt' : k < n := by simpa using hlt
    obtain ⟨rb, off, y, rfl, hbl, hy, hry⟩ := hx.1.at_ hlt'
    have hym := List.mem_of_getElem? hy
    have hya := (hx.2 y hym).legs
    have hyl := hs y hym
    have hst := hLs k y hy
    obtain ⟨r, ⟨lA, lc, pA, pc⟩⟩ := y
    simp only at hya hyl hst
    refine H_skip ?_
    refine thenJ_normal ?_
    refine H_seq ?_
    refine H_block ?_
    refine H_seq ?_
    refine R0 ?_
    refine xV (e_as (v := .int _ _) (q0 rfl)) rfl rfl ?_
    refine XN ?_
    refine thenJ_normal ?_
    refine H_block ?_
    refine H_loop [8, 9, 11, 12, 13, 20, 21, 22, 23, 24, 25, 26, 27, 28, 29, 30, 31, 32, 33, 34, 35, 36, 37, 38, 39, 40, 41, 42, 43, 44, 45, 46, 47, 48, 49, 50, 51, 52, 53, 54, 55, 56, 57, 58, 59, 60, 61, 62, 63, 64, 65, 66, 67, 68, 69, 70, 71, 72, 73, 74, 75, 76, 77, 78, 79, 80, 81] (fun q : Nat × Nat => [(11, .int .i64 q.1), (8, .int .i64 (((L k).length + q.2 : Nat) : Int)), (9, .int .i64 (if q.2 = 0 then (L k).getLastD 0 else r.id))]) (fun _ => []) (fun q => q.1 ≤ r.legs.length ∧ q.2 + covN b t r.open_ (r.legs.drop q.1) = covR b t r) (fun q => r.legs.length - q.1) (0, 0) ⟨rfl, rfl, rfl, trivial⟩ (fun w hw => hw) rfl ⟨Nat.zero_le _, Nat.zero_add _⟩ ?_
    rintro ⟨q, a⟩ g2 ⟨hq, hcov⟩
    simp only at hq hcov
    have ha := hcN r.open_ r.legs
    refine H_seq ?_
    refine H_seq ?_
    refine R0 ?_
    refine xV (e_mv (v := .int _ _) (q0 rfl)) rfl rfl ?_
    refine xV (e_mv (v := .slice _ _ _) (q0 rfl)) rfl rfl ?_
    refine xV (e_mv (v := .int _ _) (q0 rfl)) rfl rfl ?_
    refine xV (e_idx _ Try.underlying32 Try.sizeOf27 (q0 rfl) (q0 rfl) (fun _ => ⟨rfl, by omega⟩)) rfl rfl ?_
    refine xV (e_fld Try.underlying27 rfl Try.sizeOf24 rfl (q0 rfl)) rfl rfl ?_
    refine xV (eL Try.isAgg24 (q0 rfl)) rfl rfl ?_
    refine xV (e_len Try.underlying24 (q0 rfl)) rfl rfl ?_
    refine xV (e_lt (q0 rfl) (q0 rfl)) rfl rfl ?_
    refine XN ?_
    refine thenJ_normal ?_
    refine H_cond rfl (fun hlt2 => ?_) (fun hlt2 => ?_)
    · have hlt2' : q < r.legs.length := by simpa using hlt2
      obtain ⟨lb, lo, z, rfl, hlbl, hz, hrz⟩ := hya.at_ hlt2'
      rw [cov_drop hz hlt2'] at hcov
      have hab : a ≤ 1000 := by unfold covR at hcov; omega
      refine H_skip ?_
      refine thenJ_normal ?_
      refine H_seq ?_
      refine H_block ?_
      refine H_seq ?_
      refine R0 ?_
      refine xV (e_mv (v := .slice _ _ _) (q0 rfl)) rfl rfl ?_
      refine xV (e_mv (v := .int _ _) (q0 rfl)) rfl rfl ?_
      refine xV (e_idx _ Try.underlying32 Try.sizeOf27 (q0 rfl) (q0 rfl) (fun _ => ⟨rfl, by omega⟩)) rfl rfl ?_
      refine xV (e_fld Try.underlying27 rfl Try.sizeOf24 rfl (q0 rfl)) rfl rfl ?_
      refine xV (eL Try.isAgg24 (q0 rfl)) rfl rfl ?_
      refine xV (e_mv (v := .int _ _) (q0 rfl)) rfl rfl ?_
      refine xV (e_idx q Try.underlying24 Try.sizeOf52 (q0 rfl) (q0 rfl) (fun _ => ⟨rfl, hlt2'⟩)) rfl rfl ?_
      refine xV (eS Try.isAgg52 Try.sizeOf52 (q0 rfl)) rfl rfl ?_
      refine X_alloc Try.zeroValue52 rfl fun b12 => ?_
      refine X_st (v := .agg _) rfl rfl Try.sizeOf52 ?_
      refine XN ?_
      refine thenJ_normal ?_
      refine H_seq ?_
      refine R0 ?_
      refine xV (e_mv (v := .slice _ _ _) (q0 rfl)) rfl rfl ?_
      refine xV (e_mv (v := .int _ _) (q0 rfl)) rfl rfl ?_
      refine xV (e_idx _ Try.underlying32 Try.sizeOf27 (q0 rfl) (q0 rfl) (fun _ => ⟨rfl, by omega⟩)) rfl rfl ?_
      refine xV (e_fld Try.underlying27 rfl Try.sizeOf4 rfl (q0 rfl)) rfl rfl ?_
      refine xV (eL Try.isAgg4 (q0 rfl)) rfl rfl ?_
      refine xV (e_mv (v := .bool _) (q0 rfl)) rfl rfl ?_
      refine xVT (e_mv (v := .int _ _) (q0 rfl)) rfl rfl rfl rfl ?_
      refine xVT (e_mv (v := .slice _ _ _) (q0 rfl)) rfl rfl rfl rfl ?_
      refine xVT (e_mv (v := .int _ _) (q0 rfl)) rfl rfl rfl rfl ?_
      refine xVT (e_idx _ Try.underlying32 Try.sizeOf27 (q1 rfl) (q1 rfl) (fun _ => ⟨rfl, by omega⟩)) rfl rfl rfl rfl ?_
      refine xVT (e_fld Try.underlying27 rfl Try.sizeOf24 rfl (q1 rfl)) rfl rfl rfl rfl ?_
      refine xVT (eL Try.isAgg24 (q1 rfl)) rfl rfl rfl rfl ?_
      refine xVT (e_len Try.underlying24 (q1 rfl)) rfl rfl rfl rfl ?_
      refine xVT (e_sub (r := (r.legs.length : Int) - 1) (q1 rfl) (q0 rfl) (fun _ => ⟨rfl, by omega, by omega⟩)) rfl rfl rfl rfl ?_
      refine xVT (e_eq (q1 rfl) (q1 rfl)) rfl rfl rfl rfl ?_
      refine xV (e_and (q0 rfl) rfl (fun h => by first | rfl | (rw [h]; rfl))) rfl rfl ?_
      refine xV (e_as (v := .bool _) (q0 rfl)) rfl rfl ?_
      refine XN ?_
      refine thenJ_normal ?_
      refine H_seq ?_
      refine R0 ?_
      refine xV (e_fld Try.underlying52 rfl Try.sizeOf3 rfl (q0 rfl)) rfl rfl ?_
      refine xV (eL Try.isAgg3 (q0 rfl)) rfl rfl ?_
      refine xV (e_mv (v := .int _ _) (q0 rfl)) rfl rfl ?_
      refine xV (e_eq (q0 rfl) (q0 rfl)) rfl rfl ?_
      refine xV (e_mv (v := .bool _) (q0 rfl)) rfl rfl ?_
      refine xVT (e_fld Try.underlying52 rfl Try.sizeOf23 rfl (q0 rfl)) rfl rfl rfl rfl ?_
      refine xVT (e_fld Try.underlying23 rfl Try.sizeOf3 rfl (q1 rfl)) rfl rfl rfl rfl ?_
      refine xVT (eL Try.isAgg3 (q1 rfl)) rfl rfl rfl rfl ?_
      refine xVT (e_mv (v := .int _ _) (q0 rfl)) rfl rfl rfl rfl ?_
      refine xVT (e_le (q1 rfl) (q1 rfl)) rfl rfl rfl rfl ?_
      refine xV (e_and (q0 rfl) rfl (fun h => by first | rfl | (rw [h]; rfl))) rfl rfl ?_
      refine xV (e_mv (v := .bool _) (q0 rfl)) rfl rfl ?_
      refine xVT (e_mv (v := .bool _) (q0 rfl)) rfl rfl rfl rfl ?_
      refine xVT (e_mv (v := .bool _) (q1 rfl)) rfl rfl rfl rfl ?_
      refine xVF2 (e_mv (v := .int _ _) (q0 rfl)) rfl rfl rfl rfl ?_
      refine xVF2 (e_fld Try.underlying52 rfl Try.sizeOf23 rfl (q0 rfl)) rfl rfl rfl rfl ?_
      refine xVF2 (e_fld Try.underlying23 rfl Try.sizeOf3 rfl (q1 rfl)) rfl rfl rfl rfl ?_
      refine xVF2 (eL Try.isAgg3 (q1 rfl)) rfl rfl rfl rfl ?_
      refine xVF2 (e_lt (q1 rfl) (q1 rfl)) rfl rfl rfl rfl ?_
      refine xVT (e_or (q1 rfl) rfl (fun h => by first | rfl | (rw [h]; rfl))) rfl rfl rfl rfl ?_
      refine xV (e_and (q0 rfl) rfl (fun h => by first | rfl | (rw [h]; rfl))) rfl rfl ?_
      refine XN ?_
      refine thenJ_normal ?_
      refine H_cond rfl (fun hb => ?_) (fun hb => ?_)
      · have hc : covG b t (r.open_ && decide ((q : Int) = (r.legs.length : Int) - 1)) z = true := hb
        rw [if_pos hc] at hcov
        refine H_seq ?_
        refine R0 ?_
        refine xV (e_mv (v := .int _ _) (q0 rfl)) rfl rfl ?_
        refine xV (e_add (q0 rfl) (q0 rfl) (fun _ => ⟨rfl, by omega, by omega⟩)) rfl rfl ?_
        refine xV (e_as (v := .int _ _) (q0 rfl)) rfl rfl ?_
        refine XN ?_
        refine thenJ_normal ?_
        refine R0 ?_
        refine xV (e_mv (v := .slice _ _ _) (q0 rfl)) rfl rfl ?_
        refine xV (e_mv (v := .int _ _) (q0 rfl)) rfl rfl ?_
        refine xV (e_idx _ Try.underlying32 Try.sizeOf27 (q0 rfl) (q0 rfl) (fun _ => ⟨rfl, by omega⟩)) rfl rfl ?_
        refine xV (e_fld Try.underlying27 rfl Try.sizeOf3 rfl (q0 rfl)) rfl rfl ?_
        refine xV (eL Try.isAgg3 (q0 rfl)) rfl rfl ?_
        refine xV (e_as (v := .int _ _) (q0 rfl)) rfl rfl ?_
        refine XN ?_
        refine blockJ_normal ?_
        refine thenJ_normal ?_
        refine R0 ?_
        refine xV (e_mv (v := .int _ _) (q0 rfl)) rfl rfl ?_
        refine xV (e_add (q0 rfl) (q0 rfl) (fun _ => ⟨rfl, by omega, by omega⟩)) rfl rfl ?_
        refine xV (e_as (v := .int _ _) (q0 rfl)) rfl rfl ?_
        refine XN ?_
        exact loopJ_normal (q + 1, a + 1) (by repeat (first | exact agree_self | exact agree_over | refine agree_upd rfl ?_ | refine agree_updL rfl ?_ | refine agree_over2 rfl ?_)) ⟨rfl, rfl, rfl, trivial⟩ (fun w hw => mem_nil.2 hw.1) rfl ⟨by show q + 1 ≤ _; omega, by show a + 1 + covN b t r.open_ (r.legs.drop (q + 1)) = covR b t r; omega⟩ (by show r.legs.length - (q + 1) < r.legs.length - q; omega)
      · have hc : covG b t (r.open_ && decide ((q : Int) = (r.legs.length : Int) - 1)) z = false := hb
        rw [if_neg (by rw [hc]; decide), Nat.zero_add] at hcov
        refine H_skip ?_
        refine blockJ_normal ?_
        refine thenJ_normal ?_
        refine R0 ?_
        refine xV (e_mv (v := .int _ _) (q0 rfl)) rfl rfl ?_
        refine xV (e_add (q0 rfl) (q0 rfl) (fun _ => ⟨rfl, by omega, by omega⟩)) rfl rfl ?_
        refine xV (e_as (v := .int _ _) (q0 rfl)) rfl rfl ?_
        refine XN ?_
        exact loopJ_normal (q + 1, a) (by repeat (first | exact agree_self | exact agree_over | refine agree_upd rfl ?_ | refine agree_updL rfl ?_ | refine agree_over2 rfl ?_)) ⟨rfl, rfl, rfl, trivial⟩ (fun w hw => mem_nil.2 hw.1) rfl ⟨by show q + 1 ≤ _; omega, hcov⟩ (by show r.legs.length - (q + 1) < r.legs.length - q; omega)
    · have hend : q = r.legs.length := by simp at hlt2; omega
      rw [hend, List.drop_length] at hcov
      have hae : a = covR b t r := hcov
      have h1 : (((L k).length + a : Nat) : Int) = (((L (k + 1)).length : Nat) : Int) := by rw [hst, List.length_append, List.length_replicate, hae]
      have h2 : (if a = 0 then (L k).getLastD 0 else r.id) = (L (k + 1)).getLastD 0 := by rw [hst, last_rep, hae]
      refine H_exit ?_
      refine thenJ_exit ?_
      refine loopJ_exit ?_
      refine blockJ_hit ?_
      refine blockJ_normal ?_
      refine thenJ_normal ?_
      refine R0 ?_
      refine xV (e_mv (v := .int _ _) (q0 rfl)) rfl rfl ?_
      refine xV (e_add (q0 rfl) (q0 rfl) (fun _ => ⟨rfl, by omega, by omega⟩)) rfl rfl ?_
      refine xV (e_as (v := .int _ _) (q0 rfl)) rfl rfl ?_
      refine XN ?_
      exact loopJ_normal (k + 1) (by repeat (first | exact agree_self | exact agree_over | refine agree_upd rfl ?_ | refine agree_updL rfl ?_ | refine agree_over2 rfl ?_)) ⟨rfl, by rw [← h1]; rfl, by rw [← h2]; rfl, trivial⟩ (fun w hw => hw) rfl (by show k + 1 ≤ _; omega) (by show n - (k + 1) < n - k; omega)
  · have hend : k = n := by simp at hlt; omega
    subst hend
    refine H_exit ?_
    refine thenJ_exit ?_
    refine loopJ_exit ?_
    refine blockJ_hit ?_
    refine thenJ_normal ?_
    refine H_seq ?_
    refine R0 ?_
    refine xV (e_mv (v := .int _ _) (q0 rfl)) rfl rfl ?_
    refine xV (e_mv (v := .int _ _) (q0 rfl)) rfl rfl ?_
    refine xV (e_as (v := .int _ _) (q0 rfl)) rfl rfl ?_
    refine xV (e_as (v := .int _ _) (q0 rfl)) rfl rfl ?_
    refine XN ?_
    refine thenJ_normal ?_
    refine H_ret ?_
    exact ret2 (v := .int _ _) (x := .int _ _) rfl rfl rfl rfl fun w' hw => ⟨rfl, hw.1⟩

end Go.Proofs.Rid

/-
  The walks of the laws: at every moment a bicycle is in a ride exactly if the moment lies in a leg of it.
-/
namespace Go.Proofs.Rid
open Go Go.RowKit Go.Proofs.E Go.Proofs.Cus

theorem at_ok {f : Fl} (hok : flErr f = 0) {b : Nat} (hb : b < nbOf f) {t : Int} (h0 : 0 ≤ t) (h1 : t ≤ 4294943999) : atErr f b t = 0 := by
  have hn := nb_eq hok
  unfold atErr
  rw [if_neg (fun h => h hok), if_neg (by simp; omega), if_neg (by simp; omega)]
theorem cov_atOf {f : Fl} (hok : flErr f = 0) (xs : List Ev) {b : Nat} (hb : b < nbOf f) {t : Int} (h0 : 0 ≤ t) (h1 : t ≤ 4294943999) : covY b t (allOf f xs) = if (atOf f xs b t).where_ = 3 then [(atOf f xs b t).ride] else [] := by
  have hl : (spotsOf f (untilP t xs)).length = nbOf f := by unfold spotsOf; rw [if_pos hok]; exact spotsOf_len hok
  obtain ⟨x, hx⟩ : ∃ x, (spotsOf f (untilP t xs))[b]? = some x := ⟨_, List.getElem?_eq_getElem (by rw [hl]; exact hb)⟩
  have ha : atOf f xs b t = x := by
    unfold atOf
    rw [if_pos (at_ok hok hb h0 h1), Int.toNat_natCast, List.getD_eq_getElem?_getD, hx]; rfl
  rw [ha]
  exact cov_at hok xs h0 hx
def vI : Nat → Int
  | 0 => -1
  | j + 1 => (j : Int)
theorem vI_eq (s : Nat) : vI s = (s : Int) - 1 := by
  cases s with
  | zero => rfl
  | succ j => show (j : Int) = ((j + 1 : Nat) : Int) - 1; omega
def nOf (z : Sp) : Int := if z.where_ = 3 then 1 else 0
def rOf (z : Sp) : Int := if z.where_ = 3 then z.ride else 0
theorem within_all {f : Fl} (hok : flErr f = 0) {xs : List Ev} (y : RdsOut (allOf f xs)) {b : Nat} (hb : b < nbOf f) {t : Int} (h0 : 0 ≤ t) (h1 : t ≤ 4294943999) (w : World) (hx : RdsAt w y.1.1 y.1.2.2.length y.1.2.2) (hs : ∀ x ∈ y.1.2.2, x.r.legs.length ≤ 1000) (hn : y.1.2.2.length ≤ 1000) :
    Calls Try.prog 28 #[.slice y.1.1 y.1.2.2.length y.1.2.1, .int .i64 b, .int .i64 t] w fun e w' => e = .returned (.tuple #[.int .i64 (nOf (atOf f xs b t)), .int .i64 (rOf (atOf f xs b t))]) ∧ Bel w w' := by
  have h := within_w y.1.1 y.1.2.2.length y.1.2.1 y.1.2.2 b t w hx hs hn
  rw [y.2, cov_atOf hok xs hb h0 h1] at h
  have e1 : (((if (atOf f xs b t).where_ = 3 then [(atOf f xs b t).ride] else []).length : Nat) : Int) = nOf (atOf f xs b t) := by unfold nOf; split <;> rfl
  have e2 : (if (atOf f xs b t).where_ = 3 then [(atOf f xs b t).ride] else []).getLastD 0 = rOf (atOf f xs b t) := by unfold rOf; split <;> rfl
  rw [e1, e2] at h
  exact h
theorem at_all {f : Fl} (hok : flErr f = 0) (a : FA) (A : Option Addr) (n c : Nat) (xs : List Ev) {b : Nat} (hb : b < nbOf f) {t : Int} (h0 : 0 ≤ t) (h1 : t ≤ 4294943999) (w : World) (hf : FlAt w f a) (hx : EvsAt w A n xs) (hn : n ≤ 10000) (hpl : PlOk xs) :
    Calls Try.prog 27 #[.agg (f.cells a).toArray, .slice A n c, .int .i64 b, .int .i64 t] w fun r w' => r = .returned (.tuple #[.agg (atOf f xs b t).cells.toArray, .int .i64 0]) ∧ Bel w w' := by
  have h := at_w f a A n c xs b t w hf hx hn hpl
  rw [at_ok hok hb h0 h1] at h
  exact h
attribute [local irreducible] allOf flErr storyOf accOf atOf covY
set_option maxHeartbeats 8000000 in
set_option maxRecDepth 20000 in
theorem coversLaw_w (f : Fl) (a : FA) (A : Option Addr) (n c : Nat) (xs : List Ev) (t : Int) (w : World) (hf : FlAt w f a) (hx : EvsAt w A n xs) (hpl : PlOk xs) :
    Calls Try.prog 9 #[.agg (f.cells a).toArray, .slice A n c, .int .i64 t] w fun r w' => r = .returned (.bool true) ∧ Bel w w' := by
  have hl := hx.1
  refine H_enter Try.func9 rfl Try.ntmps9 rfl ?_
  refine H_seq ?_
  refine R0 ?_
  refine X_box (v := .agg _) rfl rfl fun b3 => ?_
  refine xV (e_as (v := .bool _) (q0 rfl)) rfl rfl ?_
  refine XN ?_
  refine thenJ_normal ?_
  refine H_seq ?_
  refine H_seq ?_
  refine R0 ?_
  refine xV (eS Try.isAgg42 Try.sizeOf42 (q0 rfl)) rfl rfl ?_
  refine xV (e_mv (v := .slice _ _ _) (q0 rfl)) rfl rfl ?_
  refine xC (en Try.call22 (ha2 (q0 rfl) (q0 rfl))) (fun _ w _ => few_w f a A n c w) rfl rfl ?_
  refine xV (e_not (q0 rfl)) rfl rfl ?_
  refine xV (e_mv (v := .bool _) (q0 rfl)) rfl rfl ?_
  refine xVF (e_mv (v := .int _ _) (q0 rfl)) rfl rfl rfl rfl ?_
  refine xVF (e_lt (q1 rfl) (q0 rfl)) rfl rfl rfl rfl ?_
  refine xV (e_or (q0 rfl) rfl (fun h => by first | rfl | (rw [h]; rfl))) rfl rfl ?_
  refine xV (e_mv (v := .bool _) (q0 rfl)) rfl rfl ?_
  refine xVF (e_mv (v := .int _ _) (q0 rfl)) rfl rfl rfl rfl ?_
  refine xVF (e_gt (q1 rfl) (q0 rfl)) rfl rfl rfl rfl ?_
  refine xV (e_or (q0 rfl) rfl (fun h => by first | rfl | (rw [h]; rfl))) rfl rfl ?_
  refine XN ?_
  refine thenJ_normal ?_
  refine H_cond rfl (fun h0 => ?_) (fun h0 => ?_)
  · refine H_seq ?_
    refine R0 ?_
    refine xC (en Try.call10 (ha0)) (fun _ w _ => awake_w w) rfl rfl ?_
    refine xV (e_as (v := .bool _) (q0 rfl)) rfl rfl ?_
    refine XN ?_
    refine thenJ_normal ?_
    refine H_ret ?_
    refine thenJ_ret ?_
    exact ret1 (v := .bool _) rfl rfl rfl fun w' hw => ⟨rfl, hw.1⟩
  · have h0' : ((!fewP a n || decide (t < 0)) || decide (4294943999 < t)) = false := h0
    simp only [Bool.or_eq_false_iff, decide_eq_false_iff_not] at h0'
    have hn := few_n h0'.1.1
    have ht0 : 0 ≤ t := by omega
    have ht1 : t ≤ 4294943999 := by omega
    subst hl
    have hr := story20 f hn
    have hl40 := all_len (f := f) xs
    have hsh0 := short_of f hn
    have hsh : ∀ r ∈ allOf f xs, r.legs.length ≤ 100000 ∧ r.pauses.length ≤ 100000 := fun r hr => by have := hsh0 r hr; omega
    refine H_skip ?_
    refine thenJ_normal ?_
    refine H_seq ?_
    refine R0 ?_
    refine xV (eS Try.isAgg42 Try.sizeOf42 (q0 rfl)) rfl rfl ?_
    refine xV (e_mv (v := .slice _ _ _) (q0 rfl)) rfl rfl ?_
    refine xCX (en Try.call23 (ha2 (q0 rfl) (q0 rfl))) (fun w hw => all_w f a A _ c xs w (hf.mem hw) (hx.mem hw) (by omega) hpl hr) rfl (fun _ => rfl) fun x => ?_
    have hxl : x.1.2.2.length = (allOf f xs).length := by
      have h9 := congrArg List.length x.2
      simpa using h9
    refine xV (e_mv (q0 rfl)) rfl rfl ?_
    refine xV (e_ext (q0 rfl) rfl) rfl rfl ?_
    refine xV (e_ext (q0 rfl) rfl) rfl rfl ?_
    refine xV (e_as (v := .slice _ _ _) (q0 rfl)) rfl rfl ?_
    refine xV (e_as (v := .int _ _) (q0 rfl)) rfl rfl ?_
    refine XN ?_
    refine thenJ_normal ?_
    refine H_seq ?_
    refine H_seq ?_
    refine R0 ?_
    refine xV (e_mv (v := .int _ _) (q0 rfl)) rfl rfl ?_
    refine xV (e_ne (q0 rfl) (q0 rfl)) rfl rfl ?_
    refine XN ?_
    refine thenJ_normal ?_
    refine H_cond rfl (fun h1 => ?_) (fun h1 => ?_)
    · have h1' : flErr f ≠ 0 := by simpa using h1
      have hx0 : x.1.2.2.length = 0 := by rw [hxl]; unfold allOf; rw [if_neg h1']; rfl
      refine H_seq ?_
      refine R0 ?_
      refine xV (e_mv (v := .slice _ _ _) (q0 rfl)) rfl rfl ?_
      refine xV (e_len Try.underlying32 (q0 rfl)) rfl rfl ?_
      refine xV (e_eq (q0 rfl) (q0 rfl)) rfl rfl ?_
      refine xV (e_mv (v := .bool _) (q0 rfl)) rfl rfl ?_
      refine xCT (en Try.call10 (ha0)) (fun _ w _ => awake_w w) rfl rfl rfl rfl ?_
      refine xV (e_and (q0 rfl) rfl (fun h => by first | rfl | (rw [h]; rfl))) rfl rfl ?_
      refine xV (e_as (v := .bool _) (q0 rfl)) rfl rfl ?_
      refine XN ?_
      refine thenJ_normal ?_
      refine H_ret ?_
      refine thenJ_ret ?_
      exact ret1 (v := .bool _) rfl rfl rfl fun w' hw => ⟨ret_bool (by simp only [hx0]; decide), hw.1⟩
    · have hok : flErr f = 0 := by simpa using h1
      have hnb := nb_eq hok
      obtain ⟨hbk, -⟩ := flErr_ok hok
      have hxs : ∀ y ∈ x.1.2.2, y.r.legs.length ≤ 1000 := fun y hy => by
        have := hsh0 y.r (by rw [← x.2]; exact List.mem_map_of_mem hy); omega
      refine H_skip ?_
      refine thenJ_normal ?_
      refine H_seq ?_
      refine H_seq ?_
      refine R0 ?_
      refine xV (e_as (v := .int _ _) (q0 rfl)) rfl rfl ?_
      refine XN ?_
      refine thenJ_normal ?_
      refine H_block ?_
      refine H_loop [6, 9, 10, 11, 12, 13, 14, 15, 43, 44, 45, 46, 47, 48, 49, 50, 51, 52, 53, 54, 55, 56, 57, 58, 59, 60, 61, 62, 63, 64, 65, 66, 67, 68, 69, 70, 71, 72, 73, 74, 75, 76, 77, 78, 79, 80, 81, 82, 83, 84, 85, 86, 87, 88, 89, 90, 91, 92, 93, 94, 95, 96, 97, 98, 99, 100, 101, 102, 103, 104, 105, 106, 107, 108, 109, 110, 111, 112, 113, 114, 115, 116, 117, 118, 119] (fun b : Nat => [(9, .int .i64 b)]) (fun _ => [rdRow x.1.1 x.1.2.1 x.1.2.2, rdBag x.1.2.2, box b3 42 (f.cells a)]) (fun b => b ≤ nbOf f) (fun b => nbOf f - b) 0 ⟨rfl, trivial⟩ (fun w hw => hw) rfl (Nat.zero_le _) ?_
      rintro b g hb
      refine H_seq ?_
      refine H_seq ?_
      refine R0 ?_
      refine xV (e_mv (v := .int _ _) (q0 rfl)) rfl rfl ?_
      refine xV (e_fld Try.underlying42 rfl Try.sizeOf3 rfl (q0 rfl)) rfl rfl ?_
      refine xV (eL Try.isAgg3 (q0 rfl)) rfl rfl ?_
      refine xV (e_lt (q0 rfl) (q0 rfl)) rfl rfl ?_
      refine XN ?_
      refine thenJ_normal ?_
      refine H_cond rfl (fun hlt => ?_) (fun hlt => ?_)
      · have hlt' : b < nbOf f := by
          have h2 : decide ((b : Int) < f.bikes) = true := hlt
          simp at h2
          omega
        refine H_skip ?_
        refine thenJ_normal ?_
        refine H_seq ?_
        refine H_block ?_
        refine H_seq ?_
        refine R0 ?_
        refine xV (e_as (v := .int _ _) (q0 rfl)) rfl rfl ?_
        refine XN ?_
        refine thenJ_normal ?_
        refine H_block ?_
        refine H_loop [6, 10, 11, 12, 13, 14, 15, 49, 50, 51, 52, 53, 54, 55, 56, 57, 58, 59, 60, 61, 62, 63, 64, 65, 66, 67, 68, 69, 70, 71, 72, 73, 74, 75, 76, 77, 78, 79, 80, 81, 82, 83, 84, 85, 86, 87, 88, 89, 90, 91, 92, 93, 94, 95, 96, 97, 98, 99, 100, 101, 102, 103, 104, 105, 106, 107, 108, 109, 110, 111, 112, 113, 114, 115, 116, 117, 118, 119] (fun s : Nat => [(10, .int .i64 (vI s))]) (fun _ => [rdRow x.1.1 x.1.2.1 x.1.2.2, rdBag x.1.2.2, box b3 42 (f.cells a)]) (fun s => s ≤ xs.length + 1) (fun s => xs.length + 1 - s) 0 ⟨rfl, trivial⟩ (fun w hw => hw) rfl (Nat.zero_le _) ?_
        rintro s g2 hs
        have hvs := vI_eq s
        refine H_seq ?_
        refine H_seq ?_
        refine R0 ?_
        refine xV (e_mv (v := .int _ _) (q0 rfl)) rfl rfl ?_
        refine xV (e_mv (v := .slice _ _ _) (q0 rfl)) rfl rfl ?_
        refine xV (e_len Try.underlying43 (q0 rfl)) rfl rfl ?_
        refine xV (e_lt (q0 rfl) (q0 rfl)) rfl rfl ?_
        refine XN ?_
        refine thenJ_normal ?_
        refine H_cond rfl (fun hlt2 => ?_) (fun hlt2 => ?_)
        · have hs' : s ≤ xs.length := by
            have h2 : decide (vI s < (xs.length : Int)) = true := hlt2
            simp at h2
            omega
          refine H_skip ?_
          refine thenJ_normal ?_
          refine H_seq ?_
          refine H_block ?_
          refine H_seq ?_
          refine R0 ?_
          refine xV (e_mv (v := .int _ _) (q0 rfl)) rfl rfl ?_
          refine xV (e_as (v := .int _ _) (q0 rfl)) rfl rfl ?_
          refine XN ?_
          refine thenJ_normal ?_
          refine H_seq ?_
          refine H_seq ?_
          refine H_cut [56, 57, 58, 59, 60, 61, 62, 63, 64, 65, 66, 67, 68, 69, 70, 71, 72, 73] (fun c : Bool => [(73, .bool c)]) (fun _ => [rdRow x.1.1 x.1.2.1 x.1.2.2, rdBag x.1.2.2, box b3 42 (f.cells a)]) (fun c => c = true → ∃ j e, s = j + 1 ∧ xs[j]? = some e ∧ 0 ≤ e.at_ ∧ e.at_ ≤ 4294943999) ?_ ?_
          · rcases Nat.eq_zero_or_pos s with h00 | h00
            · subst h00
              refine R0 ?_
              refine xV (e_mv (v := .int _ _) (q0 rfl)) rfl rfl ?_
              refine xV (e_ge (q0 rfl) (q0 rfl)) rfl rfl ?_
              refine xV (e_mv (v := .bool _) (q0 rfl)) rfl rfl ?_
              refine xVT (e_dead (v := .slice none 0 0) (by decide)) rfl rfl rfl rfl ?_
              refine xVT (e_dead (v := .int .i64 0) (by decide)) rfl rfl rfl rfl ?_
              refine xVT (e_dead (v := .pointer none) (by decide)) rfl rfl rfl rfl ?_
              refine xVT (e_dead (v := .pointer none) (by decide)) rfl rfl rfl rfl ?_
              refine xVT (e_dead (v := .int .i64 0) (by decide)) rfl rfl rfl rfl ?_
              refine xVT (e_dead (v := .bool false) (by decide)) rfl rfl rfl rfl ?_
              refine xV (e_and (q0 rfl) rfl (fun h => by first | rfl | (rw [h]; rfl))) rfl rfl ?_
              refine xV (e_mv (v := .bool _) (q0 rfl)) rfl rfl ?_
              refine xVT (e_dead (v := .slice none 0 0) (by decide)) rfl rfl rfl rfl ?_
              refine xVT (e_dead (v := .int .i64 0) (by decide)) rfl rfl rfl rfl ?_
              refine xVT (e_dead (v := .pointer none) (by decide)) rfl rfl rfl rfl ?_
              refine xVT (e_dead (v := .pointer none) (by decide)) rfl rfl rfl rfl ?_
              refine xVT (e_dead (v := .int .i64 0) (by decide)) rfl rfl rfl rfl ?_
              refine xVT (e_dead (v := .bool false) (by decide)) rfl rfl rfl rfl ?_
              refine xV (e_and (q0 rfl) rfl (fun h => by first | rfl | (rw [h]; rfl))) rfl rfl ?_
              refine XN ?_
              exact cutJ_normal _ (by repeat (first | exact agree_self | exact agree_over | refine agree_upd rfl ?_ | refine agree_updL rfl ?_ | refine agree_over2 rfl ?_)) ⟨rfl, trivial⟩ (fun w hw => hw) rfl (fun h => absurd h (by decide))
            · obtain ⟨j, rfl⟩ : ∃ j, s = j + 1 := ⟨s - 1, by omega⟩
              have hjl : j < xs.length := by omega
              obtain ⟨eb, off, e, rfl, hbl, he, hre⟩ := hx.at_ hjl
              refine R0 ?_
              refine xV (e_mv (v := .int _ _) (q0 rfl)) rfl rfl ?_
              refine xV (e_ge (q0 rfl) (q0 rfl)) rfl rfl ?_
              refine xV (e_mv (v := .bool _) (q0 rfl)) rfl rfl ?_
              refine xVT (e_mv (v := .slice _ _ _) (q0 rfl)) rfl rfl rfl rfl ?_
              refine xVT (e_mv (v := .int _ _) (q0 rfl)) rfl rfl rfl rfl ?_
              refine xVT (e_idx j Try.underlying43 Try.sizeOf50 (q1 rfl) (q1 rfl) (fun _ => ⟨rfl, hjl⟩)) rfl rfl rfl rfl ?_
              refine xVT (e_fld Try.underlying50 rfl Try.sizeOf3 rfl (q1 rfl)) rfl rfl rfl rfl ?_
              refine xVT (eL Try.isAgg3 (q1 rfl)) rfl rfl rfl rfl ?_
              refine xVT (e_ge (q1 rfl) (q0 rfl)) rfl rfl rfl rfl ?_
              refine xV (e_and (q0 rfl) rfl (fun h => by first | rfl | (rw [h]; rfl))) rfl rfl ?_
              refine xV (e_mv (v := .bool _) (q0 rfl)) rfl rfl ?_
              refine xVT (e_mv (v := .slice _ _ _) (q0 rfl)) rfl rfl rfl rfl ?_
              refine xVT (e_mv (v := .int _ _) (q0 rfl)) rfl rfl rfl rfl ?_
              refine xVT (e_idx j Try.underlying43 Try.sizeOf50 (q1 rfl) (q1 rfl) (fun _ => ⟨rfl, hjl⟩)) rfl rfl rfl rfl ?_
              refine xVT (e_fld Try.underlying50 rfl Try.sizeOf3 rfl (q1 rfl)) rfl rfl rfl rfl ?_
              refine xVT (eL Try.isAgg3 (q1 rfl)) rfl rfl rfl rfl ?_
              refine xVT (e_le (q1 rfl) (q0 rfl)) rfl rfl rfl rfl ?_
              refine xV (e_and (q0 rfl) rfl (fun h => by first | rfl | (rw [h]; rfl))) rfl rfl ?_
              refine XN ?_
              exact cutJ_normal _ (by repeat (first | exact agree_self | exact agree_over | refine agree_upd rfl ?_ | refine agree_updL rfl ?_ | refine agree_over2 rfl ?_)) ⟨rfl, trivial⟩ (fun w hw => hw) rfl (fun h => ⟨j, e, rfl, he, by simp at h; omega, by simp at h; omega⟩)
          · rintro cb g3 hcc
            refine thenJ_normal ?_
            refine H_cut [11, 74, 75, 76, 77, 78] (fun y : Int => [(11, .int .i64 y)]) (fun _ => [rdRow x.1.1 x.1.2.1 x.1.2.2, rdBag x.1.2.2, box b3 42 (f.cells a)]) (fun y => 0 ≤ y ∧ y ≤ 4294943999) ?_ ?_
            · have _ht : True := trivial
              refine H_cond rfl (fun hc => ?_) (fun hc => ?_)
              · obtain ⟨j, e, rfl, he, ha0, ha1⟩ := hcc hc
                have hjl : j < xs.length := (List.getElem?_eq_some_iff.1 he).1
                obtain ⟨eb, off, e', rfl, hbl, he', hre⟩ := hx.at_ hjl
                rw [he] at he'
                cases he'
                refine R0 ?_
                refine xV (e_mv (v := .slice _ _ _) (q0 rfl)) rfl rfl ?_
                refine xV (e_mv (v := .int _ _) (q0 rfl)) rfl rfl ?_
                refine xV (e_idx j Try.underlying43 Try.sizeOf50 (q0 rfl) (q0 rfl) (fun _ => ⟨rfl, hjl⟩)) rfl rfl ?_
                refine xV (e_fld Try.underlying50 rfl Try.sizeOf3 rfl (q0 rfl)) rfl rfl ?_
                refine xV (eL Try.isAgg3 (q0 rfl)) rfl rfl ?_
                refine xV (e_as (v := .int _ _) (q0 rfl)) rfl rfl ?_
                refine XN ?_
                exact cutJ_normal e.at_ (by repeat (first | exact agree_self | exact agree_over | refine agree_upd rfl ?_ | refine agree_updL rfl ?_ | refine agree_over2 rfl ?_)) ⟨rfl, trivial⟩ (fun w hw => hw) rfl ⟨ha0, ha1⟩
              · refine H_skip ?_
                exact cutJ_normal t (by repeat (first | exact agree_self | exact agree_over | refine agree_upd rfl ?_ | refine agree_updL rfl ?_ | refine agree_over2 rfl ?_)) ⟨rfl, trivial⟩ (fun w hw => hw) rfl ⟨ht0, ht1⟩
            · rintro y g4 ⟨hy0, hy1⟩
              refine thenJ_normal ?_
              refine H_seq ?_
              refine R0 ?_
              refine xV (eS Try.isAgg42 Try.sizeOf42 (q0 rfl)) rfl rfl ?_
              refine xV (e_mv (v := .slice _ _ _) (q0 rfl)) rfl rfl ?_
              refine xV (e_mv (v := .int _ _) (q0 rfl)) rfl rfl ?_
              refine xV (e_mv (v := .int _ _) (q0 rfl)) rfl rfl ?_
              refine xC (en Try.call27 (ha4 (q0 rfl) (q0 rfl) (q0 rfl) (q0 rfl))) (fun _ w hw => at_all hok a A _ c xs hlt' hy0 hy1 w (hf.mem hw) (hx.mem hw) (by omega) hpl) rfl rfl ?_
              have hwi := fun (w : World) => within_all hok x hlt' hy0 hy1 w
              generalize atOf f xs b y = z at hwi ⊢
              refine xV (e_mv (q0 rfl)) rfl rfl ?_
              refine xV (e_ext (q0 rfl) rfl) rfl rfl ?_
              refine xV (e_ext (q0 rfl) rfl) rfl rfl ?_
              refine X_alloc Try.zeroValue58 rfl fun b12 => ?_
              refine X_st (v := .agg _) rfl rfl Try.sizeOf58 ?_
              refine xV (e_as (v := .int _ _) (q0 rfl)) rfl rfl ?_
              refine XN ?_
              refine thenJ_normal ?_
              refine H_seq ?_
              refine R0 ?_
              refine xV (e_mv (v := .slice _ _ _) (q0 rfl)) rfl rfl ?_
              refine xV (e_mv (v := .int _ _) (q0 rfl)) rfl rfl ?_
              refine xV (e_mv (v := .int _ _) (q0 rfl)) rfl rfl ?_
              refine xC (en Try.call28 (ha3 (q0 rfl) (q0 rfl) (q0 rfl))) (fun _ w hw => hwi w (rds_out x hw 1 2 rfl rfl (by omega) hsh) hxs (by omega)) rfl rfl ?_
              refine xV (e_mv (q0 rfl)) rfl rfl ?_
              refine xV (e_ext (q0 rfl) rfl) rfl rfl ?_
              refine xV (e_ext (q0 rfl) rfl) rfl rfl ?_
              refine xV (e_as (v := .int _ _) (q0 rfl)) rfl rfl ?_
              refine xV (e_as (v := .int _ _) (q0 rfl)) rfl rfl ?_
              refine XN ?_
              refine thenJ_normal ?_
              refine H_seq ?_
              refine H_seq ?_
              refine R0 ?_
              refine xV (e_mv (v := .int _ _) (q0 rfl)) rfl rfl ?_
              refine xV (e_ne (q0 rfl) (q0 rfl)) rfl rfl ?_
              refine xV (e_mv (v := .bool _) (q0 rfl)) rfl rfl ?_
              refine xVF (e_mv (v := .int _ _) (q0 rfl)) rfl rfl rfl rfl ?_
              refine xVF (e_gt (q1 rfl) (q0 rfl)) rfl rfl rfl rfl ?_
              refine xV (e_or (q0 rfl) rfl (fun h => by first | rfl | (rw [h]; rfl))) rfl rfl ?_
              refine xV (e_mv (v := .bool _) (q0 rfl)) rfl rfl ?_
              refine xVF (e_mv (v := .int _ _) (q0 rfl)) rfl rfl rfl rfl ?_
              refine xVF (e_eq (q1 rfl) (q0 rfl)) rfl rfl rfl rfl ?_
              refine xVF (e_fld Try.underlying58 rfl Try.sizeOf3 rfl (q0 rfl)) rfl rfl rfl rfl ?_
              refine xVF (eL Try.isAgg3 (q1 rfl)) rfl rfl rfl rfl ?_
              refine xVF (e_eq (q1 rfl) (q0 rfl)) rfl rfl rfl rfl ?_
              refine xVF (e_neb Try.underlying4 (q1 rfl) (q1 rfl)) rfl rfl rfl rfl ?_
              refine xV (e_or (q0 rfl) rfl (fun h => by first | rfl | (rw [h]; rfl))) rfl rfl ?_
              refine xV (e_mv (v := .bool _) (q0 rfl)) rfl rfl ?_
              refine xVF (e_mv (v := .int _ _) (q0 rfl)) rfl rfl rfl rfl ?_
              refine xVF (e_eq (q1 rfl) (q0 rfl)) rfl rfl rfl rfl ?_
              refine xVF (e_mv (v := .bool _) (q1 rfl)) rfl rfl rfl rfl ?_
              refine xVT2 (e_fld Try.underlying58 rfl Try.sizeOf3 rfl (q0 rfl)) rfl rfl rfl rfl ?_
              refine xVT2 (eL Try.isAgg3 (q1 rfl)) rfl rfl rfl rfl ?_
              refine xVT2 (e_mv (v := .int _ _) (q0 rfl)) rfl rfl rfl rfl ?_
              refine xVT2 (e_ne (q1 rfl) (q1 rfl)) rfl rfl rfl rfl ?_
              refine xVF (e_and (q1 rfl) rfl (fun h => by first | rfl | (rw [h]; rfl))) rfl rfl rfl rfl ?_
              refine xV (e_or (q0 rfl) rfl (fun h => by first | rfl | (rw [h]; rfl))) rfl rfl ?_
              refine XN ?_
              refine thenJ_normal ?_
              refine H_cond rfl (fun hbad => ?_) (fun hbad => ?_)
              · exfalso
                by_cases h3 : z.where_ = 3
                · simp [nOf, rOf, h3] at hbad
                · simp [nOf, rOf, h3] at hbad
              · refine H_skip ?_
                refine thenJ_normal ?_
                refine H_seq ?_
                refine R0 ?_
                refine xV (e_mv (v := .int _ _) (q0 rfl)) rfl rfl ?_
                refine xV (e_gt (q0 rfl) (q0 rfl)) rfl rfl ?_
                refine XN ?_
                refine thenJ_normal ?_
                refine H_cond rfl (fun hbig => ?_) (fun hbig => ?_)
                · refine H_exit ?_
                  refine blockJ_pass rfl ?_
                  refine thenJ_exit ?_
                  refine loopJ_exit ?_
                  refine blockJ_hit ?_
                  refine blockJ_normal ?_
                  refine thenJ_normal ?_
                  refine R0 ?_
                  refine xV (e_mv (v := .int _ _) (q0 rfl)) rfl rfl ?_
                  refine xV (e_add (q0 rfl) (q0 rfl) (fun _ => ⟨rfl, by omega, by omega⟩)) rfl rfl ?_
                  refine xV (e_as (v := .int _ _) (q0 rfl)) rfl rfl ?_
                  refine XN ?_
                  exact loopJ_normal (b + 1) (by repeat (first | exact agree_self | exact agree_over | refine agree_upd rfl ?_ | refine agree_updL rfl ?_ | refine agree_over2 rfl ?_)) ⟨rfl, trivial⟩ (fun w hw => hw.tail) rfl (by show b + 1 ≤ _; omega) (by show nbOf f - (b + 1) < nbOf f - b; omega)
                · refine H_skip ?_
                  refine blockJ_normal ?_
                  refine thenJ_normal ?_
                  refine R0 ?_
                  refine xV (e_mv (v := .int _ _) (q0 rfl)) rfl rfl ?_
                  refine xV (e_add (q0 rfl) (q0 rfl) (fun _ => ⟨rfl, by omega, by omega⟩)) rfl rfl ?_
                  refine xV (e_as (v := .int _ _) (q0 rfl)) rfl rfl ?_
                  refine XN ?_
                  exact loopJ_normal (s + 1) (by repeat (first | exact agree_self | exact agree_over | refine agree_upd rfl ?_ | refine agree_updL rfl ?_ | refine agree_over2 rfl ?_)) ⟨by show Value.int .i64 (vI s + 1) = Value.int .i64 (vI (s + 1)); rw [vI_eq (s + 1)]; congr 1; omega, trivial⟩ (fun w hw => hw.tail) rfl (by show s + 1 ≤ _; omega) (by show xs.length + 1 - (s + 1) < xs.length + 1 - s; omega)
        · refine H_exit ?_
          refine thenJ_exit ?_
          refine loopJ_exit ?_
          refine blockJ_hit ?_
          refine blockJ_normal ?_
          refine thenJ_normal ?_
          refine R0 ?_
          refine xV (e_mv (v := .int _ _) (q0 rfl)) rfl rfl ?_
          refine xV (e_add (q0 rfl) (q0 rfl) (fun _ => ⟨rfl, by omega, by omega⟩)) rfl rfl ?_
          refine xV (e_as (v := .int _ _) (q0 rfl)) rfl rfl ?_
          refine XN ?_
          exact loopJ_normal (b + 1) (by repeat (first | exact agree_self | exact agree_over | refine agree_upd rfl ?_ | refine agree_updL rfl ?_ | refine agree_over2 rfl ?_)) ⟨rfl, trivial⟩ (fun w hw => hw) rfl (by show b + 1 ≤ _; omega) (by show nbOf f - (b + 1) < nbOf f - b; omega)
      · refine H_exit ?_
        refine thenJ_exit ?_
        refine loopJ_exit ?_
        refine blockJ_hit ?_
        refine thenJ_normal ?_
        refine H_seq ?_
        refine R0 ?_
        refine xC (en Try.call10 (ha0)) (fun _ w _ => awake_w w) rfl rfl ?_
        refine xV (e_as (v := .bool _) (q0 rfl)) rfl rfl ?_
        refine XN ?_
        refine thenJ_normal ?_
        refine H_ret ?_
        exact ret1 (v := .bool _) rfl rfl rfl fun w' hw => ⟨rfl, hw.1⟩

end Go.Proofs.Rid
