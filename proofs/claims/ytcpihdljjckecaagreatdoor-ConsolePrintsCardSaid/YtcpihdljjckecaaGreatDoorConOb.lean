import Derived.Test.YtcpihdljjckecaaGreatDoorConOa
import Derived.Test.YtcpihdljjckecaaGreatDoorConEa
import Derived.Laws.CopyRow
import Derived.Laws.Append
set_option linter.unusedVariables false
set_option linter.unusedSimpArgs false
/-
  Structs, arrays and slices put together; new blocks.
-/
set_option linter.unusedVariables false
set_option linter.unusedSimpArgs false
namespace Go.Proofs.O
open Go Go.Proofs.E

theorem setAt_spl : ∀ (vs cs : List Value) (o : Nat), o + vs.length ≤ cs.length → setAt cs o vs = cs.take o ++ (vs ++ cs.drop (o + vs.length))
  | [], cs, o, h => by simp [setAt]
  | v :: vs, cs, o, h => by
    simp only [List.length_cons] at h
    rw [setAt, setAt_spl vs (cs.set o v) (o + 1) (by simp; omega)]
    have ho : o < cs.length := by omega
    have hs : cs.set o v = cs.take o ++ v :: cs.drop (o + 1) := by rw [List.set_eq_take_append_cons_drop, if_pos ho]
    have hA : (cs.take o).length = o := by simp; omega
    have h1 : (cs.set o v).take (o + 1) = cs.take o ++ [v] := by
      rw [hs, List.take_append, hA, show o + 1 - o = 1 by omega, List.take_of_length_le (by omega)]; simp
    have h2 : (cs.set o v).drop (o + 1 + vs.length) = cs.drop (o + (vs.length + 1)) := by
      rw [hs, List.drop_append, hA, show o + 1 + vs.length - o = vs.length + 1 by omega, List.drop_eq_nil_of_le (by omega)]
      simp only [List.nil_append, List.drop_succ_cons, List.drop_drop]
      congr 1; omega
    rw [h1, h2]
    simp
section
variable {c : Tab} {ρ : Env} {s : St} {f : Fm} {x y z : Operand} {t u : TypeId}
theorem fill_ok {n : Nat} (hf : FOk ρ n f) {pl place : Nat → Option (Nat × Nat)} (hp : ∀ i q, pl i = some q → place i = some q) : ∀ (l : List (Nat × Operand)) (g : Gp) (cs : List V), gpK cs.length pl l = some g → fitK (g.g f) = true → GdL ρ n cs →
    Instr.fill place (cvL ρ cs).toArray (l.map fun p => (p.1, ev (fv ρ f) p.2)) = some (cvL ρ (fillK cs (g.g f))).toArray ∧ GdL ρ n (fillK cs (g.g f)) ∧ (fillK cs (g.g f)).length = cs.length
  | [], g, cs, h, _, hg => by
    simp only [gpK, Option.some.injEq] at h
    subst h
    exact ⟨rfl, hg, rfl⟩
  | p :: l, g, cs, h, hfit, hg => by
    simp only [gpK] at h
    split at h
    · rename_i q g' hq hg'
      cases hb : Nat.ble (q.1 + q.2) cs.length with
      | false => rw [hb] at h; cases h
      | true =>
        rw [hb] at h
        simp only [cond_true, Option.some.injEq] at h
        subst h
        have hb := ble_t.1 hb
        have hfit2 : (Bool.rec (motive := fun _ => Bool) (band (Nat.beq (len (cel ((opd p.2).g f))) q.2) (fitK (g'.g f))) false (isBad ((opd p.2).g f))) = true := hfit
        rw [brec] at hfit2
        split at hfit2
        · cases hfit2
        · rename_i hnb
          obtain ⟨hl, hfit'⟩ := band_t.1 hfit2
          have hl := beq_t.1 hl
          rw [len_eq] at hl
          rcases opd_ok hf p.2 with e | ⟨e, gv⟩
          · rw [e] at hnb; exact absurd rfl hnb
          · have hgf : fillK cs ((Gp.mk fun f => (q.1, q.2, (opd p.2).g f) :: g'.g f).g f) = fillK (spl cs q.1 (cel ((opd p.2).g f))) (g'.g f) := rfl
            rw [hgf, List.map_cons]
            generalize (opd p.2).g f = v at *
            have hlen : (spl cs q.1 (cel v)).length = cs.length := by rw [spl_eq]; simp; omega
            have hcv : cvL ρ (spl cs q.1 (cel v)) = setAt (cvL ρ cs) q.1 (cv ρ v).cells.toList := by
              rw [setAt_spl _ _ _ (by rw [cv_cells, cvL_eq]; simp; omega), spl_eq, cv_cells]
              simp [cvL_eq, List.map_take, List.map_drop]
            have ih := fill_ok hf hp l g' (spl cs q.1 (cel v)) (by rw [hlen]; exact hg') hfit' (by rw [spl_eq]; exact gdL_app (gdL_take hg) (gdL_app (gd_cel gv) (gdL_drop hg)))
            refine ⟨?_, ih.2.1, by rw [← hlen]; exact ih.2.2⟩
            rw [← ih.1, hcv]
            have hsz : (cv ρ v).cells.size = q.2 := by rw [cv_cells]; simpa using hl
            have hfold : (cv ρ v).cells.zipIdx.foldl (fun cs (p : Value × Nat) => cs.setIfInBounds (q.1 + p.2) p.1) (cvL ρ cs).toArray = (setAt (cvL ρ cs) q.1 (cv ρ v).cells.toList).toArray := by
              have := zip_fold q.1 (cv ρ v).cells.toList 0 (cvL ρ cs).toArray
              rw [Nat.add_zero] at this
              simp only at this
              rw [← this, ← Array.foldl_toList]
              simp
            simp only [Instr.fill, hp _ _ hq, e]
            rw [if_neg (by simp [hsz, cvL_eq]; omega), hfold]
    · cases h
theorem zcz_ok {op : Op} {e : Operand → Value} {k : List V → Co} (h : isBad (c.zero t) = false → (cel (c.zero t)).length = c.size t → Nok c ρ s e op ((k (cel (c.zero t))).r f s)) : Nok c ρ s e op ((zcz c t k).r f s) := by
  unfold zcz
  refine cbif (p := fun z : Co => Nok c ρ s e op (z.r f s)) (fun hb => ?_) (fun _ => trivial)
  simp only [Bool.and_eq_true, Bool.not_eq_true'] at hb
  refine h hb.1 ?_
  have := beq_t.1 hb.2
  rwa [len_eq] at this
theorem zcs_ok {op : Op} {e : Operand → Value} {k : List V → Co} (h : isBad (c.zero t) = false → (cel (c.zero t)).length = c.size t → 0 < c.size t → Nok c ρ s e op ((k (cel (c.zero t))).r f s)) : Nok c ρ s e op ((zcs c t k).r f s) := by
  unfold zcs
  refine cbif (p := fun z : Co => Nok c ρ s e op (z.r f s)) (fun hb => ?_) (fun _ => trivial)
  simp only [Bool.and_eq_true, Bool.not_eq_true'] at hb
  refine h hb.1.1 ?_ (blt_t.1 hb.2)
  have := beq_t.1 hb.1.2
  rwa [len_eq] at this
theorem run_place {fs : List Field} (h : fs.all (fun f => (c.info f.type).isSome) = true) (w : World) : ((fs.mapM fun f => do pure (f.offset, ← sizeOf f.type)) : Sem (List (Nat × Nat))).run c.P w = .ok (fs.map fun f => (f.offset, c.size f.type)) w := by
  induction fs with
  | nil => rfl
  | cons a l ih =>
    simp only [List.all_cons, Bool.and_eq_true] at h
    have h1 : ∃ i, c.info a.type = some i := by
      cases hi : c.info a.type with
      | none => rw [hi] at h; simp at h
      | some i => exact ⟨i, rfl⟩
    simp only [List.mapM_cons, Sem.run_bind, Sem.run_pure, run_size h1, Result.andThen_ok, ih h.2, List.map_cons]
theorem k_build {ps : Array (Nat × Operand)} (hf : FOk ρ s.nx f) : Nok c ρ s (ev (fv ρ f)) (.build t ps) ((cop c (.build t ps)).r f s) := by
  unfold cop
  simp only
  split
  · rename_i fs hd
    refine cbif (p := fun z : Co => Nok c ρ s _ _ (z.r f s)) (fun hall => zcz_ok fun hz hl => ?_) (fun _ => trivial)
    unfold coBuild
    split
    · rename_i g hg
      show Nok c ρ s _ _ (buildK (cel (c.zero t)) (g.g f))
      unfold buildK; rw [brec]
      split
      · rename_i hfit
        obtain ⟨hzr, hzg, hi⟩ := run_zero (ρ := ρ) (n := s.nx) hz
        obtain ⟨h1, h2, h3⟩ := fill_ok (place := fun i => ((fs.toList.map fun f => (f.offset, c.size f.type))[i]?)) hf (pl := plS c t) (fun i q hq => by
          unfold plS at hq
          split at hq
          · rename_i fd hfd
            obtain ⟨fs', hd', hi'⟩ := fld_ok hfd
            rw [hd] at hd'; cases hd'
            cases hq
            have : fs.toList[i]? = some fd := by simpa using hi'
            rw [List.getElem?_map, this]; rfl
          · cases hq) ps.toList g (cel (c.zero t)) (by rw [hl]; exact hg) hfit (gd_cel hzg)
        refine nok_v (x := .a _) (by simpa [Gd] using h2) fun w _ _ _ _ _ => ?_
        have h4 : ((fs.mapM fun f => do pure (f.offset, ← sizeOf f.type)) : Sem (Array (Nat × Nat))).run c.P w = .ok (fs.toList.map fun f => (f.offset, c.size f.type)).toArray w := by
          have h5 := run_place hall w
          rw [Array.mapM_eq_mapM_toList]
          rw [map_eq_pure_bind, Sem.run_bind, h5]; rfl
        have h6 : (cv ρ (c.zero t)).cells = (cvL ρ (cel (c.zero t))).toArray := by rw [cv_cells, cvL_eq]
        have h7 : ((ps.map fun p => (p.1, ev (fv ρ f) p.2)).toList) = ps.toList.map fun p => (p.1, ev (fv ρ f) p.2) := by simp
        have h8 : Instr.fill (fun x => ((fs.toList.map fun f => (f.offset, c.size f.type)).toArray)[x]?) (cvL ρ (cel (c.zero t))).toArray (ps.toList.map fun p => (p.1, ev (fv ρ f) p.2)) = some (cvL ρ (fillK (cel (c.zero t)) (g.g f))).toArray := by
          rw [← h1]; congr 1; funext i; simp
        simp only [execOp, Instr.build, Sem.run_bind, hzr, run_und (desc_ok hd).1, Result.andThen_ok, h4, h6, h7, h8, cv, Sem.run_pure]
      · exact trivial
    · exact trivial
  · rename_i n el hd
    refine cbif (p := fun z : Co => Nok c ρ s _ _ (z.r f s)) (fun hsz => zcs_ok fun hz hl h0 => ?_) (fun _ => trivial)
    have hsz := blt_t.1 hsz
    unfold coBuild
    split
    · rename_i g hg
      show Nok c ρ s _ _ (buildK (cel (c.zero t)) (g.g f))
      unfold buildK; rw [brec]
      split
      · rename_i hfit
        obtain ⟨hzr, hzg, hi⟩ := run_zero (ρ := ρ) (n := s.nx) hz
        obtain ⟨h1, h2, h3⟩ := fill_ok (place := fun i => some (i * c.size el, c.size el)) hf (fun i q hq => hq) ps.toList g (cel (c.zero t)) (by rw [hl]; exact hg) hfit (gd_cel hzg)
        refine nok_v (x := .a _) (by simpa [Gd] using h2) fun w _ _ _ _ _ => ?_
        have h6 : (cv ρ (c.zero t)).cells = (cvL ρ (cel (c.zero t))).toArray := by rw [cv_cells, cvL_eq]
        have h7 : ((ps.map fun p => (p.1, ev (fv ρ f) p.2)).toList) = ps.toList.map fun p => (p.1, ev (fv ρ f) p.2) := by simp
        simp only [execOp, Instr.build, Sem.run_bind, hzr, run_und (desc_ok hd).1, Result.andThen_ok, run_size (size_info hsz), h6, h7, h1, cv, Sem.run_pure]
      · exact trivial
    · exact trivial
  · exact trivial

/-! new blocks -/
def Env.put (ρ : Env) (id a b k z : Nat) : Env := ⟨fun j => if j = id then a else ρ.ad j, fun j => if j = id then b else ρ.ba j, fun j => if j = id then k else ρ.ce j, fun j => if j = id then z else ρ.sz j, fun j => j = id ∨ ρ.ok j⟩
theorem put_exo (ρ : Env) (id a b k z : Nat) : Exo id ρ (ρ.put id a b k z) := ⟨.inl rfl, fun j hj => by simp [Env.put, hj]⟩
theorem al_c {sz : Nat} {rows : List (List V)} {w : World} {id : Nat} (hz : 0 < sz) (hl : ∀ r ∈ rows, r.length = sz) (hg : ∀ r ∈ rows, GdL ρ s.nx r) (hid : ¬ρ.ok id) :
    Exo id ρ (ρ.put id w.heap.size 0 rows.length sz) ∧ (ρ.put id w.heap.size 0 rows.length sz).ad id = w.heap.size ∧ BR (ρ.put id w.heap.size 0 rows.length sz) id (w.alloc (.cells (cvL ρ rows.flatten).toArray t)) (.c t sz true rows) ∧ BG (ρ.put id w.heap.size 0 rows.length sz) s.nx (.c t sz true rows) := by
  have hx := put_exo ρ id w.heap.size 0 rows.length sz
  refine ⟨hx, by simp [Env.put], ?_, fun r hr => GdL.ext (hx.exn (n := 0) hid (Nat.zero_le _)) (Nat.le_refl _) (hg r hr)⟩
  refine ⟨by simp [Env.put], hz, hl, [], [], ?_, by simp [Env.put], by simp [Env.put], fun _ => rfl⟩
  rw [map_cv_ext (hx.exn (n := 0) hid (Nat.zero_le _)) (gdl_flatten hg), cvL_eq]
  have h1 : (ρ.put id w.heap.size 0 rows.length sz).ad id = w.heap.size := by simp [Env.put]
  rw [h1]
  simpa using heap_alloc_new w (.cells (rows.flatten.map (cv ρ)).toArray t)
theorem nok_box {op : Op} {sz : Nat} {cs : List V} {e : Operand → Value} (hz : 0 < sz) (hg : GdL ρ s.nx cs) (hr : ∀ w, Rn c e op w (.ok (.value (.pointer (some ⟨w.heap.size, 0, none⟩))) (w.alloc (.cells (cvL ρ cs).toArray t)))) : Nok c ρ s e op (boxK t sz cs) := by
  unfold boxK; rw [brec]
  split
  · rename_i hl
    have hl := beq_t.1 hl
    rw [len_eq] at hl
    refine fun w0 F w hm => ⟨.cells (cvL ρ cs).toArray t, fun id hid => ⟨ρ.put id w.heap.size 0 1 sz, ?_⟩⟩
    have := al_c (ρ := ρ) (s := s) (t := t) (w := w) (id := id) (rows := [cs]) hz (by simp [hl]) (by simpa using hg) hid
    simp only [List.flatten_cons, List.flatten_nil, List.append_nil, List.length_singleton] at this
    obtain ⟨h1, h2, h3, h4⟩ := this
    refine ⟨h1, h2, h3, h4, by simp [Gd, Env.put], ?_⟩
    have h5 : cv (ρ.put id w.heap.size 0 1 sz) (.p id 0) = .pointer (some ⟨w.heap.size, 0, none⟩) := by simp [cv, Env.put]
    rw [h5]; exact hr w
  · exact trivial
theorem k_alloc (hf : FOk ρ s.nx f) : Nok c ρ s (ev (fv ρ f)) (.alloc t) ((cop c (.alloc t)).r f s) := by
  unfold cop
  refine zcs_ok fun hz hl h0 => ?_
  obtain ⟨hzr, hzg, hi⟩ := run_zero (ρ := ρ) (n := s.nx) hz
  refine nok_box h0 (gd_cel hzg) fun w _ _ _ _ _ => ?_
  simp [execOp, Instr.alloc, hzr, newVar, newRow, Result.andThen, cv_cells, cvL_eq]
theorem k_box (hf : FOk ρ s.nx f) : Nok c ρ s (ev (fv ρ f)) (.box t x) ((cop c (.box t x)).r f s) := by
  unfold cop
  refine cbif (p := fun z : Co => Nok c ρ s _ _ (z.r f s)) (fun hz => ?_) (fun _ => ?_)
  · have hz := blt_t.1 hz
    refine c1 (k := boxV t (c.size t)) hf ⟨_, rfl⟩ fun v h g => ?_
    unfold boxV
    rw [brec, gd_bad g]
    refine nok_box hz (gd_cel g) fun w _ _ _ _ _ => ?_
    simp [execOp, h, Instr.box, newVar, newRow, Result.andThen, cv_cells, cvL_eq]
  · refine c1 (k := boxZ t) hf ⟨_, rfl⟩ fun v h g => ?_
    unfold boxZ
    rw [brec, gd_bad g]
    show Nok c ρ s _ _ (Bool.rec (motive := fun _ => Nx) (.er 3) (.al (fun id => .p id 0) (.c t 1 true [])) (Nat.beq (len (cel v)) 0))
    rw [brec]
    split
    · rename_i hl
      have hl := beq_t.1 hl
      rw [len_eq] at hl
      have hl := List.eq_nil_of_length_eq_zero hl
      refine fun w0 F w hm => ⟨.cells #[] t, fun id hid => ⟨ρ.put id w.heap.size 0 0 1, ?_⟩⟩
      have := al_c (ρ := ρ) (s := s) (t := t) (w := w) (id := id) (rows := []) (sz := 1) (by decide) (by simp) (by simp) hid
      simp only [List.flatten_nil, List.length_nil] at this
      obtain ⟨h1, h2, h3, h4⟩ := this
      refine ⟨h1, h2, by simpa [cvL] using h3, h4, by simp [Gd, Env.put], ?_⟩
      have h5 : cv (ρ.put id w.heap.size 0 0 1) (.p id 0) = .pointer (some ⟨w.heap.size, 0, none⟩) := by simp [cv, Env.put]
      rw [h5]
      intro w1 hw1
      simp [execOp, h, Instr.box, newVar, newRow, Result.andThen, cv_cells, hl]
    · exact trivial
/-- rows of zero values -/
theorem range_mod (z : List Value) (hz : 0 < z.length) : ∀ n, (List.range (n * z.length)).map (fun i => z.toArray[i % z.toArray.size]!) = (List.replicate n z).flatten
  | 0 => by simp
  | n + 1 => by
    rw [Nat.succ_mul, List.range_add, List.map_append, range_mod z hz n, List.replicate_succ', List.flatten_append]
    congr 1
    simp only [List.map_map, List.flatten_cons, List.flatten_nil, List.append_nil]
    apply List.ext_getElem?
    intro j
    rw [List.getElem?_map]
    by_cases hj : j < z.length
    · have : (n * z.length + j) % z.length = j := by rw [Nat.add_comm, Nat.add_mul_mod_self_right]; exact Nat.mod_eq_of_lt hj
      rw [List.getElem?_range hj]
      simp [this, hj]
    · rw [List.getElem?_eq_none (by simpa using hj), List.getElem?_eq_none (by omega)]; rfl
theorem zero_rows (z : List Value) (hz : 0 < z.length) (n : Nat) : (Array.range (n * z.length)).map (z.toArray[· % z.toArray.size]!) = (List.replicate n z).flatten.toArray := by
  apply Array.ext'
  rw [Array.toList_map, Array.toList_range, range_mod z hz n]
theorem flat_eq (n : Nat) (cs : List V) : flat n cs = (List.replicate n cs).flatten := by
  induction n with
  | zero => rfl
  | succ n ih =>
    show apd cs (flat n cs) = _
    rw [apd_eq, ih]; simp [List.replicate_succ]
theorem chop_ok (sz : Nat) : ∀ (n : Nat) (l : List V), l.length = n * sz → (chop sz n l).flatten = l ∧ (chop sz n l).length = n ∧ ∀ r ∈ chop sz n l, r.length = sz
  | 0, l, h => by
    have : l = [] := List.eq_nil_of_length_eq_zero (by simpa using h)
    subst this
    exact ⟨rfl, rfl, fun r hr => by cases hr⟩
  | n + 1, l, h => by
    rw [Nat.succ_mul] at h
    have e : chop sz (n + 1) l = l.take sz :: chop sz n (l.drop sz) := by
      show tak l sz :: chop sz n (drp l sz) = _
      rw [tak_eq, drp_eq]
    obtain ⟨a, b, d⟩ := chop_ok sz n (l.drop sz) (by simp; omega)
    rw [e]
    refine ⟨by simp [a], by simp [b], fun r hr => ?_⟩
    rcases List.mem_cons.1 hr with rfl | hr
    · simp; omega
    · exact d r hr
theorem gdL_sub {n : Nat} {l r : List V} (h : GdL ρ n l) (hs : ∀ v ∈ r, v ∈ l) : GdL ρ n r := GdL_iff.2 fun v hv => GdL_iff.1 h v (hs v hv)
theorem nok_rows {op : Op} {sz n : Nat} {rows : List (List V)} {e : Operand → Value} (hz : 0 < sz) (hl : ∀ r ∈ rows, r.length = sz) (hn : n ≤ rows.length) (hg : ∀ r ∈ rows, GdL ρ s.nx r) (hr : ∀ w, Rn c e op w (.ok (.value (.slice (some ⟨w.heap.size, 0, none⟩) n rows.length)) (w.alloc (.cells (cvL ρ rows.flatten).toArray t)))) :
    Nok c ρ s e op (.al (fun id => .sl id 0 n none) (.c t sz true rows)) := fun w0 F w hm => ⟨.cells (cvL ρ rows.flatten).toArray t, fun id hid => ⟨ρ.put id w.heap.size 0 rows.length sz, by
    obtain ⟨h1, h2, h3, h4⟩ := al_c (ρ := ρ) (s := s) (t := t) (w := w) (id := id) hz hl hg hid
    refine ⟨h1, h2, h3, h4, by simp [Gd, Env.put]; exact hn, ?_⟩
    have h5 : cv (ρ.put id w.heap.size 0 rows.length sz) (.sl id 0 n none) = .slice (some ⟨w.heap.size, 0, none⟩) n rows.length := by simp [cv, Env.put]
    rw [h5]; exact hr w⟩⟩
theorem gdL_rep {n m : Nat} {cs : List V} (h : GdL ρ n cs) : GdL ρ n (List.replicate m cs).flatten := GdL_iff.2 fun v hv => by
  obtain ⟨r, hr, hv2⟩ := List.mem_flatten.1 hv
  have := (List.mem_replicate.1 hr).2
  rw [this] at hv2
  exact GdL_iff.1 h v hv2
theorem k_bsl {n : Nat} {ps : Array (Nat × Operand)} (hf : FOk ρ s.nx f) : Nok c ρ s (ev (fv ρ f)) (.buildSlice t n ps) ((cop c (.buildSlice t n ps)).r f s) := by
  unfold cop
  simp only
  split
  · rename_i el hd
    refine cbif (p := fun z : Co => Nok c ρ s _ _ (z.r f s)) (fun hb => zcs_ok fun hz hl h0 => ?_) (fun _ => trivial)
    have hb := ble_t.1 hb
    unfold coRows
    split
    · rename_i g hg
      show Nok c ρ s _ _ (rowsK el (c.size el) n (flat n (cel (c.zero el))) (g.g f))
      unfold rowsK; rw [brec]
      split
      · rename_i hfit
        obtain ⟨hzr, hzg, hi⟩ := run_zero (ρ := ρ) (n := s.nx) hz
        have hfl : (flat n (cel (c.zero el))).length = n * c.size el := by rw [flat_eq]; simp [List.length_flatten, hl]
        obtain ⟨h1, h2, h3⟩ := fill_ok (place := fun i => some (i * c.size el, c.size el)) hf (fun i q hq => hq) ps.toList g (flat n (cel (c.zero el))) (by rw [hfl]; exact hg) hfit (by rw [flat_eq]; exact gdL_rep (gd_cel hzg))
        obtain ⟨c1', c2', c3'⟩ := chop_ok (c.size el) n (fillK (flat n (cel (c.zero el))) (g.g f)) (by rw [h3, hfl])
        have hgr : ∀ r ∈ chop (c.size el) n (fillK (flat n (cel (c.zero el))) (g.g f)), GdL ρ s.nx r := fun r hr => gdL_sub h2 fun v hv => by rw [← c1']; exact List.mem_flatten.2 ⟨r, hr, hv⟩
        refine nok_rows h0 c3' (by rw [c2']; exact Nat.le_refl _) hgr fun w _ _ _ _ _ => ?_
        rw [c1', c2']
        have h6 : (cv ρ (c.zero el)).cells = (cvL ρ (cel (c.zero el))).toArray := by rw [cv_cells, cvL_eq]
        have h7 : ((ps.map fun p => (p.1, ev (fv ρ f) p.2)).toList) = ps.toList.map fun p => (p.1, ev (fv ρ f) p.2) := by simp
        have hb' : ¬ n * c.size el > 2 ^ 24 := by omega
        have hlz : (cvL ρ (cel (c.zero el))).length = c.size el := by rw [cvL_eq]; simpa using hl
        have h9 : (Array.range (n * c.size el)).map ((cvL ρ (cel (c.zero el))).toArray[· % (cvL ρ (cel (c.zero el))).toArray.size]!) = (cvL ρ (flat n (cel (c.zero el)))).toArray := by
          have := zero_rows (cvL ρ (cel (c.zero el))) (by omega) n
          rw [hlz] at this
          rw [this, flat_eq, cvL_eq, cvL_eq, List.map_flatten, List.map_replicate]
        by_cases hn0 : n * c.size el = 0
        · have hn : n = 0 := by rcases Nat.mul_eq_zero.1 hn0 with h | h <;> omega
          subst hn
          have h10 : (Array.range 0).map ((#[] : Array Value)[· % (#[] : Array Value).size]!) = (cvL ρ (flat 0 (cel (c.zero el)))).toArray := by simp [flat_eq, cvL]
          have hb0 : ¬ (0 : Nat) > 2 ^ 24 := by omega
          simp only [execOp, Instr.buildSlice, Sem.run_bind, run_und (desc_ok hd).1, Result.andThen_ok, run_size hi, hb', hb0, if_false, hn0, if_true, Sem.run_pure, h7, Nat.zero_mul, h10, h1, newRow, newObj, Sem.run]
          rfl
        · simp only [execOp, Instr.buildSlice, Sem.run_bind, run_und (desc_ok hd).1, Result.andThen_ok, run_size hi, hb', if_false, hn0, hzr, Sem.run_pure, h6, h7, h9, h1, newRow, newObj, Sem.run]
          rfl
      · exact trivial
    · exact trivial
  · exact trivial
end
end Go.Proofs.O

/-
  Loads and stores.
-/
set_option linter.unusedVariables false
set_option linter.unusedSimpArgs false
namespace Go.Proofs.O
open Go Go.Proofs.E

section
variable {c : Tab} {ρ : Env} {s : St} {f : Fm} {x y z : Operand} {t u : TypeId}
theorem flat_at {sz : Nat} : ∀ (rows : List (List V)) (q o : Nat) (row : List V), (∀ r ∈ rows, r.length = sz) → rows[q]? = some row → o < sz → rows.flatten[q * sz + o]? = row[o]?
  | [], q, o, row, _, h, _ => by simp at h
  | r :: rows, 0, o, row, hl, h, ho => by
    simp only [List.getElem?_cons_zero, Option.some.injEq] at h
    subst h
    have := hl r (List.mem_cons_self ..)
    rw [List.flatten_cons, List.getElem?_append_left (by omega), Nat.zero_mul, Nat.zero_add]
  | r :: rows, q + 1, o, row, hl, h, ho => by
    have hr := hl r (List.mem_cons_self ..)
    rw [List.flatten_cons, List.getElem?_append_right (by rw [hr, Nat.succ_mul]; omega), hr]
    have ih := flat_at rows q o row (fun r hm => hl r (List.mem_cons_of_mem _ hm)) (by simpa using h) ho
    rw [← ih]
    congr 1
    rw [Nat.succ_mul]; omega
theorem flat_len' {sz : Nat} : ∀ (rows : List (List V)), (∀ r ∈ rows, r.length = sz) → rows.flatten.length = rows.length * sz
  | [], _ => by simp
  | r :: rows, hl => by
    have := flat_len' rows fun r hm => hl r (List.mem_cons_of_mem _ hm)
    have hr := hl r (List.mem_cons_self ..)
    simp only [List.flatten_cons, List.length_append, List.length_cons, this, hr, Nat.succ_mul]; omega
theorem br_cell {id off tt sz : Nat} {ex : Bool} {rows : List (List V)} {v : V} {w : World} (h : BR ρ id w (.c tt sz ex rows)) (hv : rows.flatten[off]? = some v) : w.cell? ⟨ρ.ad id, ρ.ba id + off, none⟩ = some (cv ρ v) := by
  obtain ⟨h1, h2, h3, pre, post, h4, h5, h6, h7⟩ := h
  have ho : off < rows.flatten.length := (List.getElem?_eq_some_iff.1 hv).1
  simp only [World.cell?, h4, Option.isSome_none, Bool.false_eq_true, if_false]
  rw [List.getElem?_toArray, List.getElem?_append_right (by omega), List.getElem?_append_left (by rw [List.length_map]; omega), List.getElem?_map]
  rw [show ρ.ba id + off - pre.length = off by omega, hv]; rfl
theorem asBC_ok {h : HB} {tt sz : Nat} {ex : Bool} {rows : List (List V)} (e : asBC h = .c tt sz ex rows) : ∃ st, h = .bk st (.c tt sz ex rows) := by
  cases h with
  | no => exact BC.noConfusion e
  | bk st b =>
    cases b with
    | c a b d r => have e2 : BC.c a b d r = .c tt sz ex rows := e; injection e2 with e1 e2 e3 e4; subst e1; subst e2; subst e3; subst e4; exact ⟨st, rfl⟩
    | m es cl => exact BC.noConfusion e
    | it m a l t => exact BC.noConfusion e
theorem nth_no {l : List (List V)} {q : Nat} : nth OL.no (l.map OL.l) q = match l[q]? with | some r => .l r | none => .no := by
  rw [nth_eq, List.getD_eq_getElem?_getD, List.getElem?_map]
  cases l[q]? <;> rfl
theorem div_mod_eq (a b : Nat) : a / b * b + a % b = a := by rw [Nat.mul_comm]; exact Nat.div_add_mod a b
theorem k_load (hs : SOk ρ s) (hf : FOk ρ s.nx f) : Nok c ρ s (ev (fv ρ f)) (.load t x) ((cop c (.load t x)).r f s) := by
  unfold cop
  simp only
  split
  · rename_i g ha
    refine c1 (k := fun v => loadK g (c.size t) v s) hf ⟨_, rfl⟩ fun v h gv => ?_
    cases v <;> try exact trivial
    rename_i id off
    show Nok c ρ s _ _ (loadB g (c.size t) id off (asBC (blk s id)))
    cases hb : asBC (blk s id) with
    | no => exact trivial
    | c tt sz ex rows =>
      obtain ⟨st, hst⟩ := asBC_ok hb
      have hst : hget s.hp id = .bk st (.c tt sz ex rows) := hst
      have hbg : ∀ r ∈ rows, GdL ρ s.nx r := (hs.bk _ _ _ hst).2.2
      simp only [cv] at h
      show Nok c ρ s _ _ (OL.rec (motive := fun _ => Nx) (.er 8) (fun row => Bool.rec (motive := fun _ => Nx) (rvK id (nth .bad row (off % sz))) (rowA (c.size t) (off % sz) sz id row) g) (nth OL.no (rows.map OL.l) (off / sz)))
      rw [nth_no]
      cases hrow : rows[off / sz]? with
      | none => exact trivial
      | some row =>
        have hm := List.mem_of_getElem? hrow
        have hat : ∀ w0 F w, Mem w0 (hitem ρ s.hp :: F) w → ∀ j v, row[off % sz + j]? = some v → w.cell? ⟨ρ.ad id, ρ.ba id + off + j, none⟩ = some (cv ρ v) := fun w0 F w hw j v hv => by
          have hbr := m_br hw hst
          have hl := hbr.2.2.1
          have h0 := hbr.2.1
          have hlt : off % sz + j < sz := by have := (List.getElem?_eq_some_iff.1 hv).1; rw [hl row hm] at this; exact this
          have := flat_at rows (off / sz) (off % sz + j) row hl hrow hlt
          rw [hv, ← Nat.add_assoc, div_mod_eq] at this
          rw [Nat.add_assoc]
          exact br_cell hbr this
        cases g
        · show Nok c ρ s _ _ (rvK id (nth .bad row (off % sz)))
          rw [nth_eq, List.getD_eq_getElem?_getD]
          cases hv : row[off % sz]? with
          | none => exact trivial
          | some v =>
            have gd := GdL_iff.1 (hbg row hm) v (List.mem_of_getElem? hv)
            show Nok c ρ s _ _ (rvK id v)
            unfold rvK; rw [brec, gd_bad gd]
            refine fun w0 F w hw => ⟨gd, fun _ _ _ _ _ => ?_⟩
            have := hat w0 F w hw 0 v hv
            simp only [Nat.add_zero] at this
            simp [execOp, h, Instr.loadAt, Instr.sureAddr, loadVar, run_isAgg ha, load, Sem.run, this, Result.andThen]
        · have hagg : ∀ cs : List V, cs.length = c.size t → (∀ j v, cs[j]? = some v → row[off % sz + j]? = some v) → Nok c ρ s (ev (fv ρ f)) (.load t x) (.rv (.a cs) id) := fun cs hcl hcs => by
            have gl : GdL ρ s.nx cs := GdL_iff.2 fun v hv => by
              obtain ⟨j, hj⟩ := List.mem_iff_getElem?.1 hv
              exact GdL_iff.1 (hbg row hm) v (List.mem_of_getElem? (hcs j v hj))
            refine fun w0 F w hw => ⟨by simpa [Gd] using gl, fun _ _ _ _ _ => ?_⟩
            have h2 := run_loadCells_list (P := c.P) w ⟨ρ.ad id, ρ.ba id + off, none⟩ (cvL ρ cs) (fun j u hu => by
              rw [cvL_eq, List.getElem?_map] at hu
              cases hj : cs[j]? with
              | none => rw [hj] at hu; cases hu
              | some v =>
                rw [hj] at hu
                simp only [Option.map_some, Option.some.injEq] at hu
                rw [add_addr, ← hu]
                exact hat w0 F w hw j v (hcs j v hj))
            have h3 : (cvL ρ cs).length = c.size t := by rw [cvL_eq]; simpa using hcl
            rw [h3] at h2
            simp [execOp, h, Instr.loadAt, Instr.sureAddr, loadVar, run_isAgg ha, run_size (agg_info ha), h2, Result.andThen, cv]
          show Nok c ρ s _ _ (rowA (c.size t) (off % sz) sz id row)
          unfold rowA
          rw [brec, brec]
          have hlr : ∀ w0 F w, Mem w0 (hitem ρ s.hp :: F) w → row.length = sz := fun w0 F w hw => (m_br hw hst).2.2.1 row hm
          split
          · rename_i hq
            obtain ⟨h1, h2⟩ := band_t.1 hq
            have h1 : off % sz = 0 := beq_t.1 h1
            have h2 : c.size t = sz := beq_t.1 h2
            exact fun w0 F w hw => hagg row (by rw [h2]; exact hlr w0 F w hw) (fun j v hv => by rw [h1, Nat.zero_add]; exact hv) w0 F w hw
          · split
            · rename_i hq
              have hq : off % sz + c.size t ≤ sz := ble_t.1 hq
              rw [tak_eq, drp_eq]
              refine fun w0 F w hw => ?_
              exact hagg ((row.drop (off % sz)).take (c.size t)) (by have := hlr w0 F w hw; simp; omega) (fun j v hv => by
                rw [List.getElem?_take] at hv
                split at hv
                · rw [List.getElem?_drop] at hv; exact hv
                · cases hv) w0 F w hw
            · exact trivial
  · exact trivial

/-! stores -/
theorem oneC_ok {v : V} (h : oneC v = true) : (cv ρ v).oneCell' = true ∧ v ≠ .bad := by
  cases v with
  | sl id off n cap => cases cap <;> exact ⟨by simp [cv, Value.oneCell'], by simp⟩
  | a cs => exact absurd h (by simp [oneC])
  | t cs => exact absurd h (by simp [oneC])
  | bad => exact absurd h (by simp [oneC])
  | _ => exact ⟨by simp [cv, Value.oneCell'], by simp⟩
theorem oneL_iff {l : List V} : oneL l = true ↔ ∀ v ∈ l, oneC v = true := by
  induction l with
  | nil => simp [oneL]
  | cons v l ih =>
    have : oneL (v :: l) = (if oneC v = true then oneL l else false) := by
      show (Bool.rec (motive := fun _ => Bool) false (oneL l) (oneC v)) = _
      rw [brec]
    rw [this]
    by_cases hb : oneC v = true
    · rw [if_pos hb]; simp [ih, hb]
    · rw [if_neg hb]; simp [hb]
theorem oneR_iff {l : List (List V)} : oneR l = true ↔ ∀ r ∈ l, oneL r = true := by
  induction l with
  | nil => simp [oneR]
  | cons v l ih =>
    have : oneR (v :: l) = (if oneL v = true then oneR l else false) := by
      show (Bool.rec (motive := fun _ => Bool) false (oneR l) (oneL v)) = _
      rw [brec]
    rw [this]
    by_cases hb : oneL v = true
    · rw [if_pos hb]; simp [ih, hb]
    · rw [if_neg hb]; simp [hb]
theorem oneL_cv {l : List V} (h : oneL l = true) : ∀ v ∈ cvL ρ l, v.oneCell' = true := fun v hv => by
  rw [cvL_eq] at hv
  obtain ⟨u, hu, rfl⟩ := List.mem_map.1 hv
  exact (oneC_ok (oneL_iff.1 h u hu)).1
/-- cells are written over a block -/
theorem br_write {id tt sz off : Nat} {ex : Bool} {rows rows' : List (List V)} {vs : List V} {w : World} (h : BR ρ id w (.c tt sz ex rows)) (hfit : off + vs.length ≤ rows.length * sz) (h1 : oneL vs = true)
    (hl' : ∀ r ∈ rows', r.length = sz) (hrl : rows'.length = rows.length) (hfl : rows'.flatten = rows.flatten.take off ++ (vs ++ rows.flatten.drop (off + vs.length))) :
    ∃ w', (storeCells ⟨ρ.ad id, ρ.ba id + off, none⟩ (cvL ρ vs)).run c.P w = .ok () w' ∧ BR ρ id w' (.c tt sz ex rows') ∧ (w'.os = w.os ∧ w'.tape = w.tape ∧ w'.output = w.output ∧ w'.heap.size = w.heap.size ∧ w.drawn ≤ w'.drawn) ∧ ∀ b, b ≠ ρ.ad id → w'.heap[b]? = w.heap[b]? := by
  obtain ⟨h1', h2, h3, pre, post, h4, h5, h6, h7⟩ := h
  have hfl0 := flat_len' rows h3
  have hvl : (cvL ρ vs).length = vs.length := by rw [cvL_eq]; simp
  have hst := run_storeCells_at (P := c.P) (ρ.ad id) (ρ.ba id + off) tt (cvL ρ vs) 0 _ w h4 (by
    rw [List.size_toArray, List.length_append, List.length_append, List.length_map]; omega) (oneL_cv h1)
  refine ⟨_, hst, ?_, ⟨rfl, rfl, rfl, by simp [World.setRow], Nat.le_refl _⟩, fun b hb => ?_⟩
  · refine ⟨h1', h2, hl', pre, post, ?_, h5, by rw [hrl]; exact h6, h7⟩
    rw [setRow_heap _ _ _ _ tt _ h4]
    congr 2
    simp only [Nat.add_zero, hvl]
    congr 1
    rw [← h5, hfl, List.take_append, List.drop_append]
    have e1 : pre.take (pre.length + off) = pre := List.take_of_length_le (by omega)
    have e2 : pre.drop (pre.length + off + vs.length) = [] := List.drop_eq_nil_of_le (by omega)
    rw [e1, e2, show pre.length + off - pre.length = off by omega, show pre.length + off + vs.length - pre.length = off + vs.length by omega]
    rw [List.take_append_of_le_length (by rw [List.length_map]; omega), List.drop_append_of_le_length (by rw [List.length_map]; omega)]
    simp [cvL_eq, List.map_take, List.map_drop]
  · simp only [World.setRow]
    rw [Array.getElem?_modify]
    rw [if_neg (fun e => hb e.symm)]
theorem set_flat {sz : Nat} : ∀ (rows : List (List V)) (q o : Nat) (row vs : List V), (∀ r ∈ rows, r.length = sz) → rows[q]? = some row → o + vs.length ≤ sz →
    (rows.set q (row.take o ++ (vs ++ row.drop (o + vs.length)))).flatten = rows.flatten.take (q * sz + o) ++ (vs ++ rows.flatten.drop (q * sz + o + vs.length))
  | [], q, o, row, vs, _, h, _ => by simp at h
  | r :: rows, 0, o, row, vs, hl, h, ho => by
    simp only [List.getElem?_cons_zero, Option.some.injEq] at h
    subst h
    have hr := hl r (List.mem_cons_self ..)
    simp only [List.set_cons_zero, List.flatten_cons, Nat.zero_mul, Nat.zero_add]
    rw [List.take_append_of_le_length (by omega), List.drop_append_of_le_length (by omega)]
    simp
  | r :: rows, q + 1, o, row, vs, hl, h, ho => by
    have hr := hl r (List.mem_cons_self ..)
    have ih := set_flat rows q o row vs (fun r hm => hl r (List.mem_cons_of_mem _ hm)) (by simpa using h) ho
    simp only [List.set_cons_succ, List.flatten_cons]
    rw [ih, List.take_append, List.drop_append]
    have e : (q + 1) * sz = q * sz + sz := Nat.succ_mul q sz
    have e1 : r.take ((q + 1) * sz + o) = r := List.take_of_length_le (by omega)
    have e2 : r.drop ((q + 1) * sz + o + vs.length) = [] := List.drop_eq_nil_of_le (by omega)
    rw [e1, e2, show (q + 1) * sz + o - r.length = q * sz + o by omega, show (q + 1) * sz + o + vs.length - r.length = q * sz + o + vs.length by omega]
    simp
theorem sok_upd {id st : Nat} {k k' : B} (hs : SOk ρ s) (hk : hget s.hp id = .bk st k) (hg : BG ρ s.nx k') : SOk ρ (upd s id k') ∧ Mono s (upd s id k') := by
  have hid := (hs.bk _ _ _ hk).1
  have hi : id < 1000000 := Nat.lt_trans (hs.up _ hid) hs.nx
  have hg' : ∀ j, hget (upd s id k').hp j = if j = id then .bk s.tk k' else hget s.hp j := fun j => hgp _ _ _ hi
  refine ⟨⟨hs.nx, fun j sj bj hj => ?_, hs.up⟩, ⟨Nat.le_refl _, Nat.le_succ _, fun j sj bj hj hlt => ?_⟩⟩
  · rw [hg'] at hj
    split at hj
    · cases hj; rename_i e; subst e; exact ⟨hid, Nat.lt_succ_self _, hg⟩
    · have := hs.bk _ _ _ hj; exact ⟨this.1, Nat.lt_succ_of_lt this.2.1, this.2.2⟩
  · rw [hg'] at hj
    split at hj
    · cases hj; exact absurd hlt (Nat.lt_irrefl _)
    · exact hj
theorem k_store (hs : SOk ρ s) (hf : FOk ρ s.nx f) : Nok c ρ s (ev (fv ρ f)) (.store t x y) ((cop c (.store t x y)).r f s) := by
  unfold cop
  refine cbif (p := fun z : Co => Nok c ρ s _ _ (z.r f s)) (fun hz => ?_) (fun _ => trivial)
  have hz := blt_t.1 hz
  show Nok c ρ s _ _ (storK (c.size t) ((opd x).g f) ((opd y).g f) s)
  unfold storK
  rw [brec]
  split
  · rename_i hq
    obtain ⟨hl, h1⟩ := band_t.1 hq
    have hl := beq_t.1 hl
    rw [len_eq] at hl
    rcases opd_ok hf x with h | ⟨h, g⟩
    · rw [h]; exact trivial
    rcases opd_ok hf y with h' | ⟨h', g'⟩
    · rw [h'] at h1; exact absurd h1 (by simp [oneL, cel, asA, oneC])
    generalize (opd x).g f = v at h g
    generalize (opd y).g f = u at h' g' hl h1
    cases v <;> try exact trivial
    rename_i id off
    show Nok c ρ s _ _ (storB s id off (cel u) (asBC (blk s id)))
    cases hb : asBC (blk s id) with
    | no => exact trivial
    | c tt sz ex rows =>
      obtain ⟨st, hst⟩ := asBC_ok hb
      have hst : hget s.hp id = .bk st (.c tt sz ex rows) := hst
      have hbg : ∀ r ∈ rows, GdL ρ s.nx r := (hs.bk _ _ _ hst).2.2
      show Nok c ρ s _ _ (OL.rec (motive := fun _ => Nx) (.er 11) (fun row => Bool.rec (motive := fun _ => Nx) (.er 12) (.sv und (upd s id (.c tt sz ex (setl (spl row (off % sz) (cel u)) rows (off / sz))))) (Nat.ble (Nat.add (off % sz) (len (cel u))) sz)) (nth OL.no (rows.map OL.l) (off / sz)))
      rw [nth_no]
      cases hrow : rows[off / sz]? with
      | none => exact trivial
      | some row =>
        have hm := List.mem_of_getElem? hrow
        show Nok c ρ s _ _ (Bool.rec (motive := fun _ => Nx) (.er 12) (.sv und (upd s id (.c tt sz ex (setl (spl row (off % sz) (cel u)) rows (off / sz))))) (Nat.ble (Nat.add (off % sz) (len (cel u))) sz))
        rw [brec]
        split
        · rename_i hfit
          have hfit : off % sz + len (cel u) ≤ sz := ble_t.1 hfit
          rw [len_eq] at hfit
          rw [setl_eq, spl_eq]
          intro hnx w0 F w hw
          have hbr := m_br hw hst
          have hl3 := hbr.2.2.1
          have hrl := hl3 row hm
          have hgs : ∀ r ∈ rows.set (off / sz) (row.take (off % sz) ++ (cel u ++ row.drop (off % sz + (cel u).length))), GdL ρ s.nx r := fun r hr => by
            rcases List.mem_or_eq_of_mem_set hr with h | h
            · exact hbg r h
            · rw [h]; exact gdL_app (gdL_take (hbg row hm)) (gdL_app (gd_cel g') (gdL_drop (hbg row hm)))
          obtain ⟨w', hrun, hbr', hos, hout⟩ := br_write (c := c) (off := off) (vs := cel u) hbr (by
              have hq : off / sz < rows.length := (List.getElem?_eq_some_iff.1 hrow).1
              have e := div_mod_eq off sz
              have : (off / sz + 1) * sz ≤ rows.length * sz := Nat.mul_le_mul_right _ hq
              rw [Nat.succ_mul] at this; omega) h1
            (rows' := rows.set (off / sz) (row.take (off % sz) ++ (cel u ++ row.drop (off % sz + (cel u).length)))) (fun r hr => by
              rcases List.mem_or_eq_of_mem_set hr with h | h
              · exact hl3 r h
              · rw [h]; simp; omega) (by simp) (by
              have := set_flat rows (off / sz) (off % sz) row (cel u) hl3 hrow hfit
              rw [div_mod_eq] at this
              exact this)
          obtain ⟨hs', hmono⟩ := sok_upd hs hst (k' := .c tt sz ex (rows.set (off / sz) (row.take (off % sz) ++ (cel u ++ row.drop (off % sz + (cel u).length))))) hgs
          refine ⟨ρ, w', Exn.refl, hs', hmono, gd_und, m_set hw (Nat.lt_trans (hs.up _ (hs.bk _ _ _ hst).1) hs.nx) hst hbr' hos hout, .inr ⟨rfl, fun _ _ _ _ _ => ?_⟩⟩
          simp only [cv] at h
          have hsz : (cv ρ u).cells.size = c.size t := by rw [cv_cells]; simpa using hl
          have hinfo : ∃ i, c.info t = some i := size_info hz
          have hcl : (cv ρ u).cells.toList = cvL ρ (cel u) := by rw [cv_cells, cvL_eq]
          simp [execOp, h, h', Instr.storeAt, Instr.sureAddr, storeVar, run_size hinfo, hsz, hcl, hrun, Result.andThen]
        · exact trivial
  · exact trivial
end
end Go.Proofs.O

/-
  Slices made and cut; maps made; lengths; the least and the greatest.
-/
set_option linter.unusedVariables false
set_option linter.unusedSimpArgs false
namespace Go.Proofs.O
open Go Go.Proofs.E

section
variable {c : Tab} {ρ : Env} {s : St} {f : Fm} {x y z : Operand} {t u : TypeId}
theorem i64w {n : Int} (h1 : -9223372036854775808 ≤ n) (h2 : n ≤ 9223372036854775807) : IntKind.i64.wrap n = n := wrap_in (by simpa [kneg] using h1) (by simpa [kmax] using h2)
theorem k_msl (hf : FOk ρ s.nx f) : Nok c ρ s (ev (fv ρ f)) (.makeSlice t x y) ((cop c (.makeSlice t x y)).r f s) := by
  unfold cop
  simp only
  split
  · rename_i el hd
    refine cbif (p := fun z : Co => Nok c ρ s _ _ (z.r f s)) (fun hb => zcs_ok fun hz hl h0 => ?_) (fun _ => trivial)
    refine c2 (k := mslN el (c.size el) (cel (c.zero el))) hf (fun v => ⟨_, rfl⟩) (fun v => ?_) fun v w h g h' g' => ?_
    · unfold mslN; cases asN v <;> exact ⟨_, rfl⟩
    · unfold mslN
      cases h1 : asN v with
      | no => exact trivial
      | n l =>
        cases h2 : asN w with
        | no => exact trivial
        | n k =>
          obtain ⟨k1, rfl⟩ := asN_ok h1
          obtain ⟨k2, rfl⟩ := asN_ok h2
          show Nok c ρ s _ _ (Bool.rec (motive := fun _ => Nx) (.er 121) (mslK el (c.size el) (cel (c.zero el)) l k) (Nat.ble k 100000))
          rw [brec]
          split
          · rename_i hk
            have hk := ble_t.1 hk
            unfold mslK; rw [brec]
            split
            · rename_i hlk
              have hlk := ble_t.1 hlk
              rw [rpl_eq]
              obtain ⟨hzr, hzg, hi⟩ := run_zero (ρ := ρ) (n := s.nx) hz
              unfold bytesOk at hb
              split at hb
              · rename_i i hinf
                have hby := ble_t.1 hb
                simp only [cv] at h h'
                have hrl : (List.replicate k (cel (c.zero el))).length = k := by simp
                refine nok_rows h0 (fun r hr => by rw [(List.mem_replicate.1 hr).2]; exact hl) (by rw [hrl]; exact hlk) (fun r hr => by rw [(List.mem_replicate.1 hr).2]; exact gd_cel hzg) fun w _ _ _ _ _ => ?_
                rw [hrl]
                have w1 : IntKind.i64.wrap (l : Int) = l := i64w (by omega) (by omega)
                have w2 : IntKind.i64.wrap (k : Int) = k := i64w (by omega) (by omega)
                have hmul : (i.bytes : Int) * (k : Int) ≤ 10000000000 := by
                  have := Nat.mul_le_mul hby hk
                  omega
                have h6 : (cv ρ (c.zero el)).cells = (cvL ρ (cel (c.zero el))).toArray := by rw [cv_cells, cvL_eq]
                have hlz : (cvL ρ (cel (c.zero el))).length = c.size el := by rw [cvL_eq]; simpa using hl
                have h9 : (Array.range (k * c.size el)).map ((cvL ρ (cel (c.zero el))).toArray[· % (cvL ρ (cel (c.zero el))).toArray.size]!) = (cvL ρ (List.replicate k (cel (c.zero el))).flatten).toArray := by
                  have := zero_rows (cvL ρ (cel (c.zero el))) (by omega) k
                  rw [hlz] at this
                  rw [this, cvL_eq, cvL_eq, List.map_flatten, List.map_replicate]
                have ht : (decide ((k : Int) < 0) || decide ((i.bytes : Int) * (k : Int) > 2 ^ 48)) = false := by simp; omega
                have hcond : ((decide ((k : Int) < 0) || decide ((i.bytes : Int) * (k : Int) > 2 ^ 48)) = true ∨ (l : Int) < 0 ∨ (l : Int) > k) = False := by
                  rw [ht]; simp; omega
                have hroom : ∀ n, (askRoom n).run c.P w = .ok () w := fun n => by unfold askRoom mark; split <;> rfl
                by_cases hn0 : k * c.size el = 0
                · have hn : k = 0 := by rcases Nat.mul_eq_zero.1 hn0 with h | h <;> omega
                  subst hn
                  have : l = 0 := by omega
                  subst this
                  simp only [execOp, h, h', Instr.makeSlice, Sem.run_bind, run_und (desc_ok hd).1, Result.andThen_ok, asInt, asIntOf, Sem.run_pure, run_info hinf, w1, w2]
                  simp [run_size hi, hroom, newRow, newObj, Sem.run, Result.andThen, cvL]
                  have hr0 : Array.range 0 = #[] := Array.ext' (by simp)
                  rw [hr0]; simp only [Array.map_empty]
                · simp only [execOp, h, h', Instr.makeSlice, Sem.run_bind, run_und (desc_ok hd).1, Result.andThen_ok, asInt, asIntOf, Sem.run_pure, run_info hinf, w1, w2]
                  have hneg1 : ¬ (k : Int) < 0 := by omega
                  have hneg2 : ¬ (i.bytes : Int) * (k : Int) > 2 ^ 48 := by omega
                  have hneg3 : ¬ (l : Int) < 0 := by omega
                  have hneg4 : ¬ (l : Int) > k := by omega
                  simp only [hneg1, hneg2, hneg3, hneg4, decide_false, Bool.or_false, Bool.false_eq_true, or_false, if_false, Int.toNat_natCast, hroom, Sem.run_bind, Result.andThen_ok, run_size hi, hn0, hzr, Sem.run_pure, h6, h9, newRow, newObj, Sem.run]
                  rfl
              · cases hb
            · exact trivial
          · exact trivial
  · exact trivial
theorem k_mmap (hf : FOk ρ s.nx f) : Nok c ρ s (ev (fv ρ f)) (.makeMap t none) (.al .m (.m [] 0)) := by
  intro w0 F w hw
  refine ⟨.map #[] 0, fun id hid => ⟨ρ.put id w.heap.size 0 0 0, put_exo _ _ _ _ _ _, by simp [Env.put], ?_, (fun e he => by cases he), by simp [Gd, Env.put], fun _ _ _ _ _ => ?_⟩⟩
  · show (w.alloc (.map #[] 0)).heap[(ρ.put id w.heap.size 0 0 0).ad id]? = _
    have h1 : (ρ.put id w.heap.size 0 0 0).ad id = w.heap.size := by simp [Env.put]
    rw [h1]; simpa using heap_alloc_new w (.map #[] 0)
  · have h5 : cv (ρ.put id w.heap.size 0 0 0) (.m id) = .map (some w.heap.size) := by simp [cv, Env.put]
    rw [h5]
    simp [execOp, Instr.makeMap, newObj, Sem.run, Result.andThen]

/-! built-in functions -/
theorem run_blt {b : Builtin} {xs : List Operand} {ts : List TypeId} {e : Operand → Value} {w : World} {r : Result Next} (h : ∀ ty cs, (builtin b ts.toArray ty cs (xs.map e).toArray).run c.P w = r) : Rn c e (.call { callee := .builtin b, args := xs.toArray, argTypes := ts.toArray }) w r := fun dst ty pos af gu => by
  have e1 : (xs.toArray).map e = (xs.map e).toArray := by simp
  simp only [execOp, resolve, Sem.run_bind, Sem.run_pure, Result.andThen_ok, invoke, e1]
  exact h ty _
theorem k_lenSl {el : TypeId} {r : List TypeId} (hf : FOk ρ s.nx f) (hd : c.desc t = some (.slice el)) : Nok c ρ s (ev (fv ρ f)) (.call { callee := .builtin .len, args := [x].toArray, argTypes := (t :: r).toArray }) (lenSl ((opd x).g f)) := c1 (k := lenSl) hf ⟨_, rfl⟩ fun v h g => by
  cases v <;> try exact trivial
  · rename_i id off n cap
    refine nok_v (x := .i .i64 (.ofNat n)) trivial fun w => run_blt fun ty cs => ?_
    cases cap <;> simp only [cv] at h <;> simp [builtin, Builtin.len_, h, run_und (desc_ok hd).1, Result.andThen, cv, goInt]
  · refine nok_v (x := .i .i64 (.ofNat 0)) trivial fun w => run_blt fun ty cs => ?_
    simp only [cv] at h
    simp [builtin, Builtin.len_, h, run_und (desc_ok hd).1, Result.andThen, cv, goInt]
theorem k_lenSt {r : List TypeId} (hf : FOk ρ s.nx f) (hd : c.desc t = some .string) : Nok c ρ s (ev (fv ρ f)) (.call { callee := .builtin .len, args := [x].toArray, argTypes := (t :: r).toArray }) (lenSt ((opd x).g f)) := c1 (k := lenSt) hf ⟨_, rfl⟩ fun v h g => by
  cases v <;> try exact trivial
  rename_i b
  refine nok_v (x := .i .i64 (.ofNat b.size)) trivial fun w => run_blt fun ty cs => ?_
  simp only [cv] at h
  simp [builtin, Builtin.len_, h, run_und (desc_ok hd).1, Result.andThen, cv, goInt]
theorem asBM_ok {h : HB} {es : Es} {cl : Nat} (e : asBM h = .m es cl) : ∃ st, h = .bk st (.m es cl) := by
  cases h with
  | no => exact BM.noConfusion e
  | bk st b =>
    cases b with
    | c a b d r => exact BM.noConfusion e
    | m a b => have e2 : BM.m a b = .m es cl := e; injection e2 with e1 e2; subst e1; subst e2; exact ⟨st, rfl⟩
    | it m a l t => exact BM.noConfusion e
theorem k_lenMp {kt el : TypeId} {r : List TypeId} (hf : FOk ρ s.nx f) (hd : c.desc t = some (.map kt el)) : Nok c ρ s (ev (fv ρ f)) (.call { callee := .builtin .len, args := [x].toArray, argTypes := (t :: r).toArray }) (lenMp ((opd x).g f) s) := c1 (k := fun v => lenMp v s) hf ⟨_, rfl⟩ fun v h g => by
  cases v <;> try exact trivial
  · rename_i id
    show Nok c ρ s _ _ (lenM id (asBM (blk s id)))
    cases hb : asBM (blk s id) with
    | no => exact trivial
    | m es cl =>
      obtain ⟨st, hst⟩ := asBM_ok hb
      have hst : hget s.hp id = .bk st (.m es cl) := hst
      refine fun w0 F w hw => ⟨trivial, run_blt fun ty cs => ?_⟩
      have hbr : w.heap[ρ.ad id]? = some (.map (es.map (entV ρ)).toArray cl) := m_br hw hst
      simp only [cv] at h
      simp [builtin, Builtin.len_, h, run_und (desc_ok hd).1, getObj, Sem.run, hbr, Result.andThen, cv, goInt, len_eq]
  · refine nok_v (x := .i .i64 (.ofNat 0)) trivial fun w => run_blt fun ty cs => ?_
    simp only [cv] at h
    simp [builtin, Builtin.len_, h, run_und (desc_ok hd).1, Result.andThen, cv, goInt]
theorem k_lenA {n : Nat} {el : TypeId} {r : List TypeId} (hd : c.desc t = some (.array n el)) : Nok c ρ s (ev (fv ρ f)) (.call { callee := .builtin .len, args := [x].toArray, argTypes := (t :: r).toArray }) (.v (.i .i64 (.ofNat n))) :=
  nok_v (x := .i .i64 (.ofNat n)) trivial fun w => run_blt fun ty cs => by
    simp [builtin, Builtin.len_, run_und (desc_ok hd).1, Result.andThen, cv, goInt]
theorem k_lenPA {n : Nat} {a el : TypeId} {r : List TypeId} (hd : c.desc t = some (.pointer a)) (ha : c.desc a = some (.array n el)) : Nok c ρ s (ev (fv ρ f)) (.call { callee := .builtin .len, args := [x].toArray, argTypes := (t :: r).toArray }) (.v (.i .i64 (.ofNat n))) :=
  nok_v (x := .i .i64 (.ofNat n)) trivial fun w => run_blt fun ty cs => by
    simp [builtin, Builtin.len_, run_und (desc_ok hd).1, run_und (desc_ok ha).1, Result.andThen, cv, goInt]
theorem min2_ok {mx : Bool} {v w : V} (h : min2 mx v w ≠ .bad) : (∀ wd, (bif mx then Builtin.max2 (cv ρ v) (cv ρ w) else Builtin.min2 (cv ρ v) (cv ρ w)).run c.P wd = .ok (cv ρ (min2 mx v w)) wd) ∧ ∃ k n, min2 mx v w = .i k n := by
  cases v <;> try exact absurd rfl h
  cases w <;> try exact absurd rfl h
  rename_i k a j b
  have e : min2 mx (.i k a) (.i j b) = .i k (Bool.rec (motive := fun _ => Int) b a (Bool.rec (motive := fun _ => Bool) (ile a b) (ile b a) mx)) := rfl
  refine ⟨fun wd => ?_, k, _, e⟩
  rw [e]
  cases mx
  · simp only [cond_false, brec, cv, Builtin.min2, ile_eq, Sem.run_pure]
    congr 2
    by_cases hab : a ≤ b
    · simp [hab]; try omega
    · simp [hab]; try omega
  · simp only [cond_true, brec, cv, Builtin.max2, ile_eq, Sem.run_pure]
    congr 2
    by_cases hab : b ≤ a
    · simp [hab]; try omega
    · simp [hab]; try omega
theorem minF_ok {mx : Bool} : ∀ (l : List V) (x : V), (List.rec (motive := fun _ => V → V) (fun x => x) (fun y _ ih x => ih (min2 mx x y)) l x) ≠ .bad → (∀ wd, ((cvL ρ l).foldlM (if mx then Builtin.max2 else Builtin.min2) (cv ρ x)).run c.P wd = .ok (cv ρ (List.rec (motive := fun _ => V → V) (fun x => x) (fun y _ ih x => ih (min2 mx x y)) l x)) wd) ∧ (l = [] ∨ ∃ k n, (List.rec (motive := fun _ => V → V) (fun x => x) (fun y _ ih x => ih (min2 mx x y)) l x) = .i k n)
  | [], x, h => ⟨fun wd => rfl, .inl rfl⟩
  | y :: l, x, h => by
    have h2 : (List.rec (motive := fun _ => V → V) (fun x => x) (fun y _ ih x => ih (min2 mx x y)) l (min2 mx x y)) ≠ .bad := h
    have hb : min2 mx x y ≠ .bad := by
      intro e
      rw [e] at h2
      have : ∀ l : List V, (List.rec (motive := fun _ => V → V) (fun x => x) (fun y _ ih x => ih (min2 mx x y)) l V.bad) = .bad := by
        intro l
        induction l with
        | nil => rfl
        | cons z l ih => exact ih
      exact h2 (this l)
    obtain ⟨h3, k, n, h4⟩ := min2_ok (c := c) (ρ := ρ) hb
    obtain ⟨h5, h6⟩ := minF_ok l (min2 mx x y) h2
    refine ⟨fun wd => ?_, .inr ?_⟩
    · have h3' := h3 wd
      simp only [cvL, List.foldlM_cons, Sem.run_bind]
      have : ((if mx then Builtin.max2 else Builtin.min2) (cv ρ x) (cv ρ y)).run c.P wd = .ok (cv ρ (min2 mx x y)) wd := by cases mx <;> exact h3'
      rw [this, Result.andThen_ok]
      exact h5 wd
    · rcases h6 with rfl | h6
      · exact ⟨k, n, h4⟩
      · exact h6
theorem k_min {mx : Bool} {xs : List Operand} {ts : List TypeId} (hf : FOk ρ s.nx f) : Nok c ρ s (ev (fv ρ f)) (.call { callee := .builtin (bif mx then .max else .min), args := xs.toArray, argTypes := ts.toArray }) (minK mx ((opds xs).g f)) := by
  cases xs with
  | nil => exact trivial
  | cons a xs =>
    rw [opds_cons]
    show Nok c ρ s _ _ (vK (List.rec (motive := fun _ => V → V) (fun x => x) (fun y _ ih x => ih (min2 mx x y)) ((opds xs).g f) ((opd a).g f)))
    have hbd : ∀ v, v = V.bad ∨ v ≠ .bad := fun v => by cases v <;> first | exact .inl rfl | exact .inr (by simp)
    rcases hbd (List.rec (motive := fun _ => V → V) (fun x => x) (fun y _ ih x => ih (min2 mx x y)) ((opds xs).g f) ((opd a).g f)) with e | hb
    · rw [e]; exact trivial
    have hx : (opd a).g f ≠ .bad := by
      intro e
      rw [e] at hb
      have : ∀ l : List V, (List.rec (motive := fun _ => V → V) (fun x => x) (fun y _ ih x => ih (min2 mx x y)) l V.bad) = .bad := by
        intro l
        induction l with
        | nil => rfl
        | cons z l ih => exact ih
      exact hb (this _)
    have hl : ∀ v ∈ (opds xs).g f, v ≠ .bad := by
      have : ∀ (l : List V) (x : V), (List.rec (motive := fun _ => V → V) (fun x => x) (fun y _ ih x => ih (min2 mx x y)) l x) ≠ .bad → ∀ v ∈ l, v ≠ .bad := by
        intro l
        induction l with
        | nil => intro x _ v hv; cases hv
        | cons y l ih =>
          intro x h v hv
          have h2 : (List.rec (motive := fun _ => V → V) (fun x => x) (fun y _ ih x => ih (min2 mx x y)) l (min2 mx x y)) ≠ .bad := h
          rcases List.mem_cons.1 hv with rfl | hv
          · rintro rfl
            have e1 : min2 mx x .bad = .bad := by cases x <;> rfl
            rw [e1] at h2
            have : ∀ l : List V, (List.rec (motive := fun _ => V → V) (fun x => x) (fun y _ ih x => ih (min2 mx x y)) l V.bad) = .bad := by
              intro l
              induction l with
              | nil => rfl
              | cons z l ih => exact ih
            exact h2 (this l)
          · exact ih _ h2 v hv
      exact this _ _ hb
    rcases opd_ok hf a with e | ⟨e, g⟩
    · exact absurd e hx
    rcases opds_ok hf xs with ⟨v, hv, e'⟩ | ⟨e', g'⟩
    · exact absurd e' (hl v hv)
    obtain ⟨h1, h2⟩ := minF_ok (c := c) (ρ := ρ) (mx := mx) _ _ hb
    have gd : Gd ρ s.nx (List.rec (motive := fun _ => V → V) (fun x => x) (fun y _ ih x => ih (min2 mx x y)) ((opds xs).g f) ((opd a).g f)) := by
      rcases h2 with h2 | ⟨k, n, h2⟩
      · rw [h2]; exact g
      · rw [h2]; trivial
    refine nok_vK gd fun w => run_blt fun ty cs => ?_
    have h3 := h1 w
    cases mx
    · simp only [Bool.false_eq_true, if_false] at h3
      simp [builtin, Builtin.min_, e, e', h3, Result.andThen]
    · simp only [if_true] at h3
      simp [builtin, Builtin.max_, e, e', h3, Result.andThen]
end
end Go.Proofs.O

/-
  Slices cut.
-/
set_option linter.unusedVariables false
set_option linter.unusedSimpArgs false
namespace Go.Proofs.O
open Go Go.Proofs.E

section
variable {c : Tab} {ρ : Env} {s : St} {f : Fm} {x y z : Operand} {t u : TypeId}
def BdIs (b : Option Value) (d l : Nat) : Prop := (b = none ∧ l = d) ∨ ∃ k, b = some (.int k (l : Int))
theorem gn_ok {o : Option Operand} {d l : Nat} (hf : FOk ρ s.nx f) (h : (gnK o).g f d = .n l) : BdIs (o.map (ev (fv ρ f))) d l := by
  cases o with
  | none =>
    have h2 : ON.n d = .n l := h
    injection h2 with h2
    exact .inl ⟨rfl, h2.symm⟩
  | some o =>
    have h2 : asN ((opd o).g f) = .n l := h
    obtain ⟨k, e⟩ := asN_ok h2
    rcases opd_ok hf o with hb | ⟨hb, g⟩
    · rw [hb] at e; cases e
    · rw [e] at hb
      simp only [cv] at hb
      exact .inr ⟨k, by simp [hb]⟩
theorem run_sb {v : Value} {k : IntKind} {l y : Nat} {code : BoundsCode} {w : World} (h : v = .int k (l : Int)) (hl : l ≤ y) : (Instr.sliceBound v y code).run c.P w = .ok l w := by
  subst h
  have h1 : (0 : Int) ≤ (l : Int) ∧ (l : Int) ≤ (y : Int) := by omega
  simp [Instr.sliceBound, asIntOf, h1, hl]
theorem run_sbs {iss : Bool} {lo hi : Option Value} {l h n cp : Nat} (w : World) (h1 : BdIs lo 0 l) (h2 : BdIs hi n h) (h3 : l ≤ h) (h4 : h ≤ cp) : (Instr.sliceBounds iss n cp lo hi none).run c.P w = .ok (l, h, cp) w := by
  unfold Instr.sliceBounds
  rcases h2 with ⟨rfl, rfl⟩ | ⟨k, rfl⟩ <;> rcases h1 with ⟨rfl, rfl⟩ | ⟨j, rfl⟩
  · simp [Result.andThen]
  · simp [Result.andThen, run_sb rfl h3]
  · simp [Result.andThen, run_sb rfl h4]
  · simp [Result.andThen, run_sb rfl h4, run_sb rfl h3]
theorem run_sbs3 {iss : Bool} {lo hi mx : Option Value} {l h m n cp : Nat} (w : World) (h1 : BdIs lo 0 l) (h2 : ∃ k, hi = some (.int k (h : Int))) (h5 : ∃ k, mx = some (.int k (m : Int))) (h3 : l ≤ h) (h4 : h ≤ m) (h6 : m ≤ cp) : (Instr.sliceBounds iss n cp lo hi mx).run c.P w = .ok (l, h, m) w := by
  unfold Instr.sliceBounds
  obtain ⟨k, rfl⟩ := h2
  obtain ⟨k', rfl⟩ := h5
  rcases h1 with ⟨rfl, rfl⟩ | ⟨j, rfl⟩
  · simp [Result.andThen, run_sb rfl h4, run_sb rfl h6]
  · simp [Result.andThen, run_sb rfl h4, run_sb rfl h3, run_sb rfl h6]
/-- cutting a slice -/
theorem rn_slc {el : TypeId} {lo hi mx : Option Operand} {a : Option Addr} {n cp l h m : Nat} {r : Value} {w : World} (hd : c.desc t = some (.slice el)) (hz : 0 < c.size el) (hx : ev (fv ρ f) x = .slice a n cp)
    (hb : (Instr.sliceBounds true n cp (lo.map (ev (fv ρ f))) (hi.map (ev (fv ρ f))) (mx.map (ev (fv ρ f)))).run c.P w = .ok (l, h, m) w) (hr : .slice (if m = l then a else a.map (·.add (l * c.size el))) (h - l) (m - l) = r) : Rn c (ev (fv ρ f)) (.slice t x lo hi mx) w (.ok (.value r) w) := fun _ _ _ _ _ => by
  rw [← hr]
  simp [execOp, Instr.sliceAt, Instr.slice, hx, run_und (desc_ok hd).1, hb, run_size (size_info hz), Result.andThen]
theorem gd_sl_some {id off n cp : Nat} (h : Gd ρ s.nx (.sl id off n (some cp))) : ρ.ok id ∧ n ≤ cp := by simpa [Gd] using h
theorem gd_sl_none {id off n : Nat} (h : Gd ρ s.nx (.sl id off n none)) : ρ.ok id ∧ off % ρ.sz id = 0 ∧ off / ρ.sz id + n ≤ ρ.ce id := by simpa [Gd] using h
theorem slcC_ok {el : TypeId} {lo hi mx : Option Operand} {id off n cp cp' l h : Nat} {op : Op} (hid : ρ.ok id) (hd : c.desc t = some (.slice el)) (hz : 0 < c.size el) (hx : ev (fv ρ f) x = .slice (some ⟨ρ.ad id, ρ.ba id + off, none⟩) n cp')
    (hb : l ≤ h → h ≤ cp → ∀ w, (Instr.sliceBounds true n cp' (lo.map (ev (fv ρ f))) (hi.map (ev (fv ρ f))) (mx.map (ev (fv ρ f)))).run c.P w = .ok (l, h, cp) w) : Nok c ρ s (ev (fv ρ f)) (.slice t x lo hi mx) (slcC (c.size el) id off l h cp) := by
  unfold slcC; rw [brec]
  split
  · rename_i hq
    obtain ⟨h1, h2⟩ := band_t.1 hq
    have h1 := ble_t.1 h1
    have h2 := ble_t.1 h2
    rw [brec]
    split
    · rename_i hlc
      have hlc : l = cp := beq_t.1 hlc
      refine nok_v (x := .sl id off (Nat.sub h l) (some 0)) (by simp only [Gd]; exact ⟨hid, by show h - l ≤ 0; omega⟩) fun w => rn_slc hd hz hx (hb h1 h2 w) ?_
      rw [if_pos hlc.symm]
      have e1 : h - l = 0 := by omega
      have e2 : cp - l = 0 := by omega
      have e3 : Nat.sub h l = 0 := by show h - l = 0; omega
      simp only [cv, e1, e2, e3]
    · rename_i hlc
      have hlc : l ≠ cp := fun e => hlc (beq_t.2 e)
      refine nok_v (x := .sl id (off + l * c.size el) (Nat.sub h l) (some (Nat.sub cp l))) (by simp only [Gd]; exact ⟨hid, by show h - l ≤ cp - l; omega⟩) fun w => rn_slc hd hz hx (hb h1 h2 w) ?_
      rw [if_neg (fun e => hlc e.symm)]
      simp only [cv, Option.map_some, add_addr, Nat.add_assoc]
      rfl
  · exact trivial
theorem k_slice {lo hi mx : Option Operand} (hs : SOk ρ s) (hf : FOk ρ s.nx f) : Nok c ρ s (ev (fv ρ f)) (.slice t x lo hi mx) ((cop c (.slice t x lo hi mx)).r f s) := by
  unfold cop coSlice
  simp only
  split
  · rename_i el hd
    refine cbif (p := fun z : Co => Nok c ρ s _ _ (z.r f s)) (fun hz => ?_) (fun _ => trivial)
    have hz := blt_t.1 hz
    unfold coSl
    cases mx with
    | none =>
      refine c1 (k := fun v => slcK (c.size el) v ((gnK lo).g f) ((gnK hi).g f) s) hf ⟨_, rfl⟩ fun v hx g => ?_
      cases v <;> try exact trivial
      · rename_i id off n cap
        show Nok c ρ s _ _ (ON.rec (motive := fun _ => Nx) (.er 52) (fun l => ON.rec (motive := fun _ => Nx) (.er 52) (fun h => slcX (c.size el) id off n cap l h s) ((gnK hi).g f n)) ((gnK lo).g f 0))
        cases hlo : (gnK lo).g f 0 with
        | no => exact trivial
        | n l =>
          cases hhi : (gnK hi).g f n with
          | no => exact trivial
          | n h =>
            have blo := gn_ok hf hlo
            have bhi := gn_ok hf hhi
            show Nok c ρ s _ _ (slcX (c.size el) id off n cap l h s)
            cases cap with
            | some cp =>
              simp only [cv] at hx
              have hid := gd_sl_some g
              exact slcC_ok hid.1 hd hz hx (fun h1 h2 w => run_sbs w blo bhi h1 h2) (op := .slice t x lo hi none)
            | none =>
              simp only [cv] at hx
              obtain ⟨hid, hm0, hfit⟩ := gd_sl_none g
              show Nok c ρ s _ _ (slcN (c.size el) id off n l h s)
              unfold slcN; rw [brec]
              split
              · rename_i hlh
                have hlh := ble_t.1 hlh
                rw [brec]
                split
                · rename_i hq
                  obtain ⟨q1, q2⟩ := band_t.1 hq
                  have q1 : l = 0 := beq_t.1 q1
                  have q2 := ble_t.1 q2
                  subst q1
                  refine nok_v (x := .sl id off h none) (by simp only [Gd]; exact ⟨hid, hm0, by omega⟩) fun w => rn_slc hd hz hx (run_sbs w blo bhi hlh (by omega)) ?_
                  simp only [cv, Nat.zero_mul, Nat.sub_zero, Option.map_some, add_addr, Nat.add_zero, ite_self]
                · cases hk : knownR (c.size el) (asBC (blk s id)) with
                  | no => exact trivial
                  | n k =>
                    show Nok c ρ s _ _ (Bool.rec (motive := fun _ => Nx) (.er 46) (.rv (cutK (c.size el) id off l h none) id) (band (Nat.ble (Nat.add (Nat.div off (c.size el)) h) k) (Nat.blt (Nat.add (Nat.div off (c.size el)) l) k)))
                    rw [brec]
                    split
                    · rename_i hq
                      obtain ⟨q1, q2⟩ := band_t.1 hq
                      have q1 : off / c.size el + h ≤ k := ble_t.1 q1
                      have q2 : off / c.size el + l < k := blt_t.1 q2
                      cases hb : asBC (blk s id) with
                      | no => rw [hb] at hk; exact ON.noConfusion hk
                      | c tt sz ex rows =>
                        rw [hb] at hk
                        have hk2 : (Bool.rec (motive := fun _ => ON) .no (.n (len rows)) (Nat.beq sz (c.size el))) = .n k := hk
                        rw [brec] at hk2
                        split at hk2
                        · rename_i hsz
                          have hsz : sz = c.size el := beq_t.1 hsz
                          injection hk2 with hk2
                          rw [len_eq] at hk2
                          obtain ⟨st, hst⟩ := asBC_ok hb
                          have hst : hget s.hp id = .bk st (.c tt sz ex rows) := hst
                          intro w0 F w hw
                          obtain ⟨r1, r2, r3, pre, post, r4, r5, r6, r7⟩ := m_br hw hst
                          rw [hsz] at r1
                          rw [r1] at hm0 hfit hx
                          have hce : rows.length ≤ ρ.ce id := by
                            have : rows.length * sz ≤ ρ.ce id * sz := by omega
                            exact Nat.le_of_mul_le_mul_right this r2
                          have e1 : (off + l * c.size el) / c.size el = off / c.size el + l := Nat.add_mul_div_right _ _ hz
                          have e2 : (off + l * c.size el) % c.size el = off % c.size el := Nat.add_mul_mod_self_right _ _ _
                          refine ⟨?_, rn_slc hd hz hx (run_sbs w blo bhi hlh (by omega)) ?_⟩
                          · show Gd ρ s.nx (.sl id (off + l * c.size el) (h - l) none)
                            simp only [Gd, r1, e1, e2]
                            exact ⟨hid, hm0, by omega⟩
                          · show _ = cv ρ (.sl id (off + l * c.size el) (h - l) none)
                            rw [if_neg (by omega)]
                            simp only [cv, r1, e1, Option.map_some, add_addr, Nat.add_assoc, Nat.sub_sub]
                        · cases hk2
                    · exact trivial
              · exact trivial
      · show Nok c ρ s _ _ (ON.rec (motive := fun _ => Nx) (.er 51) (fun l => ON.rec (motive := fun _ => Nx) (.er 51) (fun h => Bool.rec (motive := fun _ => Nx) (.er 51) (.v .nsl) (Nat.beq (Nat.add l h) 0)) ((gnK hi).g f 0)) ((gnK lo).g f 0))
        cases hlo : (gnK lo).g f 0 with
        | no => exact trivial
        | n l =>
          cases hhi : (gnK hi).g f 0 with
          | no => exact trivial
          | n h =>
            have blo := gn_ok hf hlo
            have bhi := gn_ok hf hhi
            show Nok c ρ s _ _ (Bool.rec (motive := fun _ => Nx) (.er 51) (.v .nsl) (Nat.beq (Nat.add l h) 0))
            rw [brec]
            split
            · rename_i hq
              have hq : l + h = 0 := beq_t.1 hq
              have : l = 0 := by omega
              subst this
              have : h = 0 := by omega
              subst this
              simp only [cv] at hx
              exact nok_v (x := .nsl) trivial fun w => rn_slc hd hz hx (run_sbs w blo bhi (Nat.le_refl _) (Nat.le_refl _)) (by simp [cv])
            · exact trivial
    | some mo =>
      cases hi with
      | none => exact trivial
      | some ho =>
      refine c1 (k := fun v => slc3K (c.size el) v ((gnK lo).g f) ((gnK (some ho)).g f) ((gnK (some mo)).g f)) hf ⟨_, rfl⟩ fun v hx g => ?_
      have h3 : ∀ {d h}, (gnK (some ho)).g f d = .n h → ∃ k, (some ho).map (ev (fv ρ f)) = some (.int k (h : Int)) := fun {d h} e => by
        rcases gn_ok hf e with ⟨e1, _⟩ | e1
        · simp at e1
        · exact e1
      have h4 : ∀ {d m}, (gnK (some mo)).g f d = .n m → ∃ k, (some mo).map (ev (fv ρ f)) = some (.int k (m : Int)) := fun {d m} e => by
        rcases gn_ok hf e with ⟨e1, _⟩ | e1
        · simp at e1
        · exact e1
      cases v <;> try exact trivial
      · rename_i id off n cap
        show Nok c ρ s _ _ (ON.rec (motive := fun _ => Nx) (.er 55) (fun l => ON.rec (motive := fun _ => Nx) (.er 55) (fun h => ON.rec (motive := fun _ => Nx) (.er 55) (fun m => slcM (c.size el) id off n cap l h m) ((gnK (some mo)).g f 0)) ((gnK (some ho)).g f 0)) ((gnK lo).g f 0))
        cases hlo : (gnK lo).g f 0 with
        | no => exact trivial
        | n l =>
          cases hhi : (gnK (some ho)).g f 0 with
          | no => exact trivial
          | n h =>
            cases hmx : (gnK (some mo)).g f 0 with
            | no => exact trivial
            | n m =>
              have blo := gn_ok hf hlo
              have bmx := h4 hmx
              show Nok c ρ s _ _ (slcM (c.size el) id off n cap l h m)
              have bhi := h3 hhi
              · cases cap with
                | some cp =>
                  simp only [cv] at hx
                  have hid := gd_sl_some g
                  show Nok c ρ s _ _ (Bool.rec (motive := fun _ => Nx) (.er 48) (slcC (c.size el) id off l h m) (Nat.ble m cp))
                  rw [brec]
                  split
                  · rename_i hmc
                    have hmc := ble_t.1 hmc
                    exact slcC_ok hid.1 hd hz hx (fun h1 h2 w => run_sbs3 w blo bhi bmx h1 h2 hmc) (op := .slice t x lo (some ho) (some mo))
                  · exact trivial
                | none =>
                  simp only [cv] at hx
                  obtain ⟨hid, hm0, hfit⟩ := gd_sl_none g
                  show Nok c ρ s _ _ (Bool.rec (motive := fun _ => Nx) (.er 48) (slcC (c.size el) id off l h m) (Nat.ble m n))
                  rw [brec]
                  split
                  · rename_i hmc
                    have hmc := ble_t.1 hmc
                    exact slcC_ok hid hd hz hx (fun h1 h2 w => run_sbs3 w blo bhi bmx h1 h2 (by omega)) (op := .slice t x lo (some ho) (some mo))
                  · exact trivial
      · show Nok c ρ s _ _ (ON.rec (motive := fun _ => Nx) (.er 51) (fun l => ON.rec (motive := fun _ => Nx) (.er 51) (fun h => ON.rec (motive := fun _ => Nx) (.er 51) (fun m => Bool.rec (motive := fun _ => Nx) (.er 51) (.v .nsl) (Nat.beq (Nat.add l (Nat.add h m)) 0)) ((gnK (some mo)).g f 0)) ((gnK (some ho)).g f 0)) ((gnK lo).g f 0))
        cases hlo : (gnK lo).g f 0 with
        | no => exact trivial
        | n l =>
          cases hhi : (gnK (some ho)).g f 0 with
          | no => exact trivial
          | n h =>
            cases hmx : (gnK (some mo)).g f 0 with
            | no => exact trivial
            | n m =>
              have blo := gn_ok hf hlo
              have bmx := h4 hmx
              show Nok c ρ s _ _ (Bool.rec (motive := fun _ => Nx) (.er 51) (.v .nsl) (Nat.beq (Nat.add l (Nat.add h m)) 0))
              rw [brec]
              split
              · rename_i hq
                have hq : l + (h + m) = 0 := beq_t.1 hq
                have : l = 0 := by omega
                subst this
                have : h = 0 := by omega
                subst this
                have : m = 0 := by omega
                subst this
                simp only [cv] at hx
                have bhi := h3 hhi
                · exact nok_v (x := .nsl) trivial fun w => rn_slc hd hz hx (run_sbs3 w blo bhi bmx (Nat.le_refl _) (Nat.le_refl _) (Nat.le_refl _)) (by simp [cv])
              · exact trivial
  · rename_i hd
    split
    · refine c1 (k := fun v => slsK v ((gnK lo).g f) ((gnK hi).g f)) hf ⟨_, rfl⟩ fun v hx g => ?_
      cases v <;> try exact trivial
      rename_i b
      show Nok c ρ s _ _ (ON.rec (motive := fun _ => Nx) (.er 53) (fun l => ON.rec (motive := fun _ => Nx) (.er 53) (fun h => strK b l h) ((gnK hi).g f b.size)) ((gnK lo).g f 0))
      cases hlo : (gnK lo).g f 0 with
      | no => exact trivial
      | n l =>
        cases hhi : (gnK hi).g f b.size with
        | no => exact trivial
        | n h =>
          have blo := gn_ok hf hlo
          have bhi := gn_ok hf hhi
          show Nok c ρ s _ _ (strK b l h)
          unfold strK
          refine cbif (p := fun z => Nok c ρ s _ _ z) (fun hq => ?_) (fun _ => trivial)
          simp only [Bool.and_eq_true] at hq
          have q1 := ble_t.1 hq.1
          have q2 := ble_t.1 hq.2
          simp only [cv] at hx
          refine nok_v (x := .s _) trivial fun w _ _ _ _ _ => ?_
          have hb := run_sbs (c := c) (iss := false) w blo bhi q1 q2
          simp [execOp, Instr.sliceAt, Instr.slice, hx, run_und (desc_ok hd).1, hb, Result.andThen, cv]
    · exact trivial
  · exact trivial
end
end Go.Proofs.O

/-
  Append, copy, clear: rows read and written.
-/
set_option linter.unusedVariables false
set_option linter.unusedSimpArgs false
namespace Go.Proofs.O
open Go Go.Proofs.E

theorem lenIs_iff {n sz : Nat} {l : List (List V)} : lenIs n sz l = true ↔ l.length = n ∧ ∀ r ∈ l, r.length = sz := by
  unfold lenIs
  rw [band_t, beq_t, len_eq]
  refine and_congr Iff.rfl ?_
  induction l with
  | nil => simp
  | cons r l ih =>
    show band (Nat.beq (len r) sz) _ = true ↔ _
    rw [band_t, beq_t, len_eq, ih]; simp
theorem okR_ok {n sz : Nat} {l r : List (List V)} (h : okR n sz l = .r r) : r = l ∧ l.length = n ∧ ∀ r ∈ l, r.length = sz := by
  unfold okR at h; rw [brec] at h
  split at h
  · rename_i hl; injection h with h; exact ⟨h.symm, lenIs_iff.1 hl⟩
  · cases h
theorem take_flat {sz : Nat} : ∀ (rows : List (List V)) (n : Nat), (∀ r ∈ rows, r.length = sz) → (rows.take n).flatten = rows.flatten.take (n * sz)
  | [], n, _ => by simp
  | r :: rows, 0, _ => by simp
  | r :: rows, n + 1, h => by
    have hr := h r (List.mem_cons_self ..)
    have ih := take_flat rows n fun r hm => h r (List.mem_cons_of_mem _ hm)
    simp only [List.take_succ_cons, List.flatten_cons, ih]
    have e2 : r.take ((n + 1) * sz) = r := List.take_of_length_le (by rw [hr, Nat.succ_mul]; omega)
    rw [List.take_append, e2, hr, show (n + 1) * sz - sz = n * sz by rw [Nat.succ_mul]; omega]
theorem drop_flat {sz : Nat} : ∀ (rows : List (List V)) (n : Nat), (∀ r ∈ rows, r.length = sz) → (rows.drop n).flatten = rows.flatten.drop (n * sz)
  | [], n, _ => by simp
  | r :: rows, 0, _ => by simp
  | r :: rows, n + 1, h => by
    have hr := h r (List.mem_cons_self ..)
    have ih := drop_flat rows n fun r hm => h r (List.mem_cons_of_mem _ hm)
    simp only [List.drop_succ_cons, List.flatten_cons, ih]
    have e2 : r.drop ((n + 1) * sz) = [] := List.drop_eq_nil_of_le (by rw [hr, Nat.succ_mul]; omega)
    rw [List.drop_append, e2, hr, show (n + 1) * sz - sz = n * sz by rw [Nat.succ_mul]; omega, List.nil_append]
/-- chopped cells, if there are enough of them -/
theorem chop_flat (sz : Nat) : ∀ (n : Nat) (l : List V), (∀ r ∈ chop sz n l, r.length = sz) → (chop sz n l).flatten = l.take (n * sz)
  | 0, l, _ => by show ([] : List (List V)).flatten = _; simp
  | n + 1, l, h => by
    have e : chop sz (n + 1) l = l.take sz :: chop sz n (l.drop sz) := by
      show tak l sz :: chop sz n (drp l sz) = _
      rw [tak_eq, drp_eq]
    rw [e] at h ⊢
    have ih := chop_flat sz n (l.drop sz) fun r hr => h r (List.mem_cons_of_mem _ hr)
    simp only [List.flatten_cons, ih]
    rw [Nat.succ_mul, Nat.add_comm, List.take_add]
/-- rows read at an offset -/
theorem getR_ok {n sz off z : Nat} {rows r : List (List V)} (hz : 0 < z) (hl : ∀ r ∈ rows, r.length = z) (h : okR n sz (getR n sz off z rows) = .r r) : r.length = n ∧ (∀ q ∈ r, q.length = sz) ∧ r.flatten = (rows.flatten.drop off).take (n * sz) := by
  obtain ⟨rfl, h1, h2⟩ := okR_ok h
  refine ⟨h1, h2, ?_⟩
  unfold getR at h1 h2 ⊢
  rw [brec] at h1 h2 ⊢
  split
  · rename_i hq
    obtain ⟨q1, q2⟩ := band_t.1 hq
    have q1 := beq_t.1 q1
    have q2 : off % z = 0 := beq_t.1 q2
    subst q1
    have e : off / z * z = off := by have := div_mod_eq off z; omega
    rw [tak_eq, drp_eq]
    show ((rows.drop (off / z)).take n).flatten = _
    rw [take_flat _ _ fun r hr => hl r (List.mem_of_mem_drop hr), drop_flat _ _ hl, e]
  · rename_i hq
    rw [if_neg hq] at h1 h2
    have h1 : (chop sz n (drp (nth [] rows (off / z)) (off % z))).length = n := h1
    have h2 : ∀ q ∈ chop sz n (drp (nth [] rows (off / z)) (off % z)), q.length = sz := h2
    show (chop sz n (drp (nth [] rows (off / z)) (off % z))).flatten = _
    rw [chop_flat sz n _ h2, drp_eq, nth_eq, List.getD_eq_getElem?_getD]
    have hlen : (chop sz n (drp (nth [] rows (off / z)) (off % z))).flatten.length = n * sz := by rw [flat_len' _ h2, h1]
    rw [chop_flat sz n _ h2, drp_eq, nth_eq, List.getD_eq_getElem?_getD] at hlen
    show (List.drop (off % z) (rows[off / z]?.getD [])).take (n * sz) = _
    by_cases hn : n * sz = 0
    · rw [hn]; simp
    cases hrow : rows[off / z]? with
    | none =>
      have : ((List.drop (off % z) (rows[off / z]?.getD [])).take (n * sz)).length = n * sz := hlen
      rw [hrow] at this
      simp at this; omega
    | some row =>
      have hlen : ((List.drop (off % z) (rows[off / z]?.getD [])).take (n * sz)).length = n * sz := hlen
      rw [hrow] at hlen
      simp only [Option.getD_some, List.length_take, List.length_drop] at hlen ⊢
      have hm := hl row (List.mem_of_getElem? hrow)
      apply List.ext_getElem?
      intro j
      rw [List.getElem?_take, List.getElem?_take]
      by_cases hj : j < n * sz
      · rw [if_pos hj, if_pos hj, List.getElem?_drop, List.getElem?_drop]
        have := flat_at rows (off / z) (off % z + j) row hl hrow (by omega)
        rw [← this, ← Nat.add_assoc, div_mod_eq]
      · rw [if_neg hj, if_neg hj]
theorem over_flat {sz q : Nat} {rows new : List (List V)} (hl : ∀ r ∈ rows, r.length = sz) (hn : ∀ r ∈ new, r.length = sz) (hq : q + new.length ≤ rows.length) : (over rows q new).flatten = rows.flatten.take (q * sz) ++ (new.flatten ++ rows.flatten.drop (q * sz + new.flatten.length)) ∧ (over rows q new).length = rows.length ∧ ∀ r ∈ over rows q new, r ∈ rows ∨ r ∈ new := by
  unfold over
  rw [apd_eq, apd_eq, tak_eq, drp_eq, len_eq]
  refine ⟨?_, by simp; omega, fun r hr => ?_⟩
  · simp only [List.flatten_append]
    show _ ++ (_ ++ (rows.drop (q + new.length)).flatten) = _
    rw [take_flat _ _ hl, drop_flat _ _ hl, flat_len' new hn, Nat.add_mul]
  · rcases List.mem_append.1 hr with hr | hr
    · exact .inl (List.mem_of_mem_take hr)
    · rcases List.mem_append.1 hr with hr | hr
      · exact .inr hr
      · exact .inl (List.mem_of_mem_drop hr)

section
variable {c : Tab} {ρ : Env} {s : St} {f : Fm} {x y z : Operand} {t u : TypeId}
/-- cells of a block, read in the model -/
theorem rows_cells {id st tt z n sz off : Nat} {ex : Bool} {rows r : List (List V)} {w0 w : World} {F : List E.Item} (hw : Mem w0 (hitem ρ s.hp :: F) w) (hst : hget s.hp id = .bk st (.c tt z ex rows)) (h : rowsB n sz off (.c tt z ex rows) = .r r) :
    r.length = n ∧ (∀ q ∈ r, q.length = sz) ∧ (loadCells ⟨ρ.ad id, ρ.ba id + off, none⟩ (n * sz)).run c.P w = .ok (cvL ρ r.flatten).toArray w ∧ ∀ q ∈ r.flatten, ∃ b ∈ rows, q ∈ b := by
  have hbr := m_br hw hst
  obtain ⟨h1, h2, h3⟩ := getR_ok hbr.2.1 hbr.2.2.1 (show okR n sz (getR n sz off z rows) = .r r from h)
  have hlen : r.flatten.length = n * sz := by rw [flat_len' _ h2, h1]
  have hl := run_loadCells_list (P := c.P) w ⟨ρ.ad id, ρ.ba id + off, none⟩ (cvL ρ r.flatten) (fun j u hu => by
    rw [cvL_eq, List.getElem?_map] at hu
    cases hj : r.flatten[j]? with
    | none => rw [hj] at hu; cases hu
    | some v =>
      rw [hj] at hu
      simp only [Option.map_some, Option.some.injEq] at hu
      rw [add_addr, ← hu, Nat.add_assoc]
      refine br_cell hbr ?_
      rw [h3, List.getElem?_take] at hj
      split at hj
      · rw [List.getElem?_drop] at hj; exact hj
      · cases hj)
  have hll : (cvL ρ r.flatten).length = n * sz := by rw [cvL_eq, List.length_map]; exact hlen
  rw [hll] at hl
  refine ⟨h1, h2, hl, fun q hq => ?_⟩
  rw [h3] at hq
  have hq := List.mem_of_mem_drop (List.mem_of_mem_take hq)
  obtain ⟨b, hb, hq⟩ := List.mem_flatten.1 hq
  exact ⟨b, hb, hq⟩
/-- what is appended or copied -/
theorem src_ok {v : V} {n m sz : Nat} {r : List (List V)} {w0 w : World} {F : List E.Item} (hs : SOk ρ s) (hw : Mem w0 (hitem ρ s.hp :: F) w) (hn : srcN v = .n m) (h : srcR sz v n s = .r r) (hg : Gd ρ s.nx v) (hnm : n ≤ m) (hr0 : v = .nsl → n = 0) :
    (∀ q ∈ r, q.length = sz) ∧ (v ≠ .nsl → r.length = n) ∧ (v = .nsl → r = []) ∧ (∀ q ∈ r, GdL ρ s.nx q) ∧ (∀ w, (Builtin.lenOf (cv ρ v)).run c.P w = .ok m w) ∧ (Builtin.firstCells sz n (cv ρ v)).run c.P w = .ok (cvL ρ r.flatten).toArray w := by
  cases v <;> try exact ON.noConfusion hn
  · rename_i b
    have hn2 : ON.n b.size = .n m := hn
    injection hn2 with hn2
    obtain ⟨rfl, h1, h2⟩ := okR_ok (show okR n sz (tak (byteR b) n) = .r r from h)
    rw [tak_eq] at *
    refine ⟨h2, fun _ => h1, (fun e => by cases e), fun q hq => ?_, (fun w => by simp [Builtin.lenOf, cv, hn2]), ?_⟩
    · have := List.mem_of_mem_take hq
      unfold byteR at this
      obtain ⟨a, _, rfl⟩ := List.mem_map.1 this
      simp [GdL, Gd]
    · simp only [cv, Builtin.firstCells, Sem.run_pure]
      congr 1
      apply Array.ext'
      have e1 : ((byteR b).take n).flatten = (b.data.toList.take n).map fun x => V.i .u8 x.toNat := by
        unfold byteR
        rw [← List.map_take]
        generalize b.data.toList.take n = l
        induction l with
        | nil => rfl
        | cons a l ih => simp [ih]
      rw [e1, cvL_eq]
      simp only [Array.toList_map, List.map_map]
      rw [ByteArray.data_extract]
      simp [cv, List.extract_eq_take_drop, Function.comp_def]
  · rename_i id off l cap
    have hn2 : ON.n l = .n m := hn
    injection hn2 with hn2
    subst hn2
    have h2 : rowsB n sz off (asBC (blk s id)) = .r r := h
    cases hb : asBC (blk s id) with
    | no => rw [hb] at h2; exact OR.noConfusion h2
    | c tt z ex rows =>
      rw [hb] at h2
      obtain ⟨st, hst⟩ := asBC_ok hb
      have hst : hget s.hp id = .bk st (.c tt z ex rows) := hst
      obtain ⟨h3, h4, h5, h6⟩ := rows_cells (c := c) hw hst h2
      have hbg : ∀ r ∈ rows, GdL ρ s.nx r := (hs.bk _ _ _ hst).2.2
      refine ⟨h4, fun _ => h3, (fun e => by cases e), fun q hq => GdL_iff.2 fun a ha => ?_, (fun w => by cases cap <;> simp [Builtin.lenOf, cv]), ?_⟩
      · obtain ⟨b, hb, hqb⟩ := h6 a (List.mem_flatten.2 ⟨q, hq, ha⟩)
        exact GdL_iff.1 (hbg b hb) a hqb
      · cases cap <;> simpa [cv, Builtin.firstCells] using h5
  · have hn2 : ON.n 0 = .n m := hn
    injection hn2 with hn2
    have h2 : OR.r [] = .r r := h
    injection h2 with h2
    subst h2
    exact ⟨(by simp), fun e => absurd rfl e, fun _ => rfl, (by simp), (fun w => by simp [Builtin.lenOf, cv, hn2]), by simp [cv, Builtin.firstCells, cvL]⟩
theorem sok_new {ρ' : Env} {b : B} (hs : SOk ρ s) (he : Exo s.nx ρ ρ') (hn : s.nx + 1 < 1000000) (hg : BG ρ' s.nx b) : SOk ρ' (new s b) ∧ Mono s (new s b) := by
  have hg' : ∀ j, hget (new s b).hp j = if j = s.nx then .bk s.tk b else hget s.hp j := fun j => hgp _ _ _ hs.nx
  have hx : Exn s.nx ρ ρ' := he.exn hs.no
  refine ⟨⟨hn, fun j sj bj hj => ?_, fun j hj => ?_⟩, ⟨Nat.le_succ _, Nat.le_succ _, fun j sj bj hj hlt => ?_⟩⟩
  · rw [hg'] at hj
    split at hj
    · cases hj; rename_i e; subst e; exact ⟨he.1, Nat.lt_succ_self _, BG.ext (Exn.refl (n := 0)) (Nat.le_succ _) hg⟩
    · have := hs.bk _ _ _ hj; exact ⟨(hx.1 _ this.1).2.2.2.2, Nat.lt_succ_of_lt this.2.1, BG.ext hx (Nat.le_succ _) this.2.2⟩
  · by_cases e : j = s.nx
    · rw [e]; exact Nat.lt_succ_self _
    · exact Nat.lt_succ_of_lt (hs.up j ((he.2 j e).2.2.2.2.1 hj))
  · rw [hg'] at hj
    split at hj
    · cases hj; exact absurd hlt (Nat.lt_irrefl _)
    · exact hj
theorem m_newS {ρ' : Env} {b : B} {w0 w : World} {F : List E.Item} (o : Obj) (hs : SOk ρ s) (he : Exo s.nx ρ ρ') (had : ρ'.ad s.nx = w.heap.size) (hb : BR ρ' s.nx (w.alloc o) b) (hw : Mem w0 (hitem ρ s.hp :: F) w) : Mem w0 (hitem ρ' (new s b).hp :: F) (w.alloc o) :=
  m_new (s := s) o hw hs.nx (fun j sj bj hj => by have := hs.bk _ _ _ hj; exact ⟨fun e => hs.no (e ▸ this.1), this.1, this.2.2⟩) (fun j _ hj => by obtain ⟨a, b, c, d, _⟩ := he.2 j hj; exact ⟨a, b, c, d⟩)
    (fun j sj bj hj => (m_br hw hj).ext (hs.bk _ _ _ hj).1 (he.exn (n := s.nx) hs.no) (hs.bk _ _ _ hj).2.2) had hb
theorem sok_kil {id : Nat} (hs : SOk ρ s) (hi : id < 1000000) : SOk ρ (kil s id) ∧ Mono s (kil s id) := by
  have hg' : ∀ j, hget (kil s id).hp j = if j = id then .no else hget s.hp j := fun j => hgp _ _ _ hi
  refine ⟨⟨hs.nx, fun j sj bj hj => ?_, hs.up⟩, ⟨Nat.le_refl _, Nat.le_refl _, fun j sj bj hj _ => ?_⟩⟩
  · rw [hg'] at hj
    split at hj
    · cases hj
    · exact hs.bk _ _ _ hj
  · rw [hg'] at hj
    split at hj
    · cases hj
    · exact hj
theorem m_kil {id : Nat} {w0 w : World} {F : List E.Item} (hi : id < 1000000) (hw : Mem w0 (hitem ρ s.hp :: F) w) : Mem w0 (hitem ρ (kil s id).hp :: F) w := m_sub hw fun j sj bj hj => by
  have hg' : hget (kil s id).hp j = if j = id then .no else hget s.hp j := hgp _ _ _ hi
  rw [hg'] at hj
  split at hj
  · cases hj
  · exact ⟨_, hj⟩
/-- a block moves to another number -/
theorem m_swap {ρ' : Env} {id id' st tk : Nat} {k k' : B} {w0 w w' : World} {F : List E.Item} (h : Mem w0 (hitem ρ s.hp :: F) w) (hs : SOk ρ s) (hn : id' = s.nx) (hk : hget s.hp id = .bk st k) (he : Exo id' ρ ρ') (had : ρ'.ad id' = ρ.ad id) (hb : BR ρ' id' w' k')
    (hos : w'.os = w.os ∧ w'.tape = w.tape ∧ w'.output = w.output ∧ w'.heap.size = w.heap.size ∧ w.drawn ≤ w'.drawn) (hout : ∀ b, b ≠ ρ.ad id → w'.heap[b]? = w.heap[b]?) : Mem w0 (hitem ρ' (hput 20 id' (.bk tk k') (hput 20 id .no s.hp)) :: F) w' := by
  have hA := h.2.1 _ (List.mem_cons_self ..)
  have hid := (hs.bk _ _ _ hk).1
  have hg : ∀ j, hget (hput 20 id' (.bk tk k') (hput 20 id .no s.hp)) j = if j = id' then .bk tk k' else if j = id then .no else hget s.hp j := fun j => by
    rw [hgp _ _ _ (by rw [hn]; exact hs.nx), hgp _ _ _ (Nat.lt_trans (hs.up _ hid) hs.nx)]
  have hne : ∀ j sj bj, hget s.hp j = .bk sj bj → j ≠ id' := fun j sj bj hj e => hs.no (by rw [← hn, ← e]; exact (hs.bk _ _ _ hj).1)
  refine Mem.set (k := 0) h rfl (it' := hitem ρ' (hput 20 id' (.bk tk k') (hput 20 id .no s.hp))) ?_ ?_ hos (fun b hb => hout b fun e => hb ⟨id, st, k, hk, e.symm⟩)
  · rintro b ⟨j, sj, bj, h1, h2⟩
    rw [hg] at h1
    split at h1
    · rename_i e; rw [e, had] at h2; exact ⟨id, st, k, hk, h2⟩
    · split at h1
      · cases h1
      · rename_i e1 e2
        exact ⟨j, sj, bj, h1, by rw [← (he.2 j e1).1]; exact h2⟩
  · refine ⟨fun j sj bj hj => ?_, fun i si bi j sj bj h1 h2 h3 => ?_⟩
    · rw [hg] at hj
      split at hj
      · rename_i e; subst e; cases hj; exact hb
      · split at hj
        · cases hj
        · rename_i e1 e2
          have hbr := (hA.1 j sj bj hj).ext (hs.bk _ _ _ hj).1 (he.exn (n := s.nx) (by rw [hn]; exact hs.no) (by omega)) (hs.bk _ _ _ hj).2.2
          refine hbr.congr (hout _ fun e3 => e2 ?_)
          rw [(he.2 j e1).1] at e3
          exact hA.2 j _ _ id _ _ hj hk e3
    · rw [hg] at h1 h2
      split at h1
      · rename_i e
        split at h2
        · rename_i e2; rw [e, e2]
        · split at h2
          · cases h2
          · rename_i e1 e2
            rw [e, had, (he.2 j e1).1] at h3
            exact absurd (hA.2 id _ _ j _ _ hk h2 h3).symm e2
      · split at h1
        · cases h1
        · rename_i e1 e2
          split at h2
          · rename_i e
            rw [e, had, (he.2 i e1).1] at h3
            exact absurd (hA.2 i _ _ id _ _ h1 hk h3) e2
          · split at h2
            · cases h2
            · rename_i e3 e4
              rw [(he.2 i e1).1, (he.2 j e3).1] at h3
              exact hA.2 i _ _ j _ _ h1 h2 h3
end
end Go.Proofs.O

/-
  Append.
-/
set_option linter.unusedVariables false
set_option linter.unusedSimpArgs false
namespace Go.Proofs.O
open Go Go.Proofs.E

section
variable {c : Tab} {ρ : Env} {s : St} {f : Fm} {x y z : Operand} {t u : TypeId}
/-- what is appended: k elements, these cells -/
structure Src (c : Tab) (el u : TypeId) (y : Value) (k : Nat) (w : World) (cells : Array Value) : Prop where
  ex : (∃ d, c.P.underlying u = some d ∧ (∀ q, d ≠ .int q) ∧ (∀ w, (Builtin.lenOf y).run c.P w = .ok k w) ∧ (Builtin.firstCells (c.size el) k y).run c.P w = .ok cells w) ∨
    (∃ q q2 z, c.P.underlying u = some (.int q) ∧ y = .int q2 (k : Int) ∧ (∀ w, (zeroValue el).run c.P w = .ok z w) ∧ Builtin.zeroCells z.cells k = cells ∧ z.cells.size = c.size el)
theorem zeroCells0 {z : Array Value} {k : Nat} (h : k * z.size = 0) : Builtin.zeroCells z k = #[] := by
  unfold Builtin.zeroCells
  rw [h]
  apply Array.ext'; simp
theorem run_app_room {el : TypeId} {base : Option Addr} {n cp k : Nat} {Y : Value} {cells : Array Value} {w w' : World} (ty : TypeId) (hd : c.desc t = some (.slice el)) (hz : 0 < c.size el) (hb : bytesOk c el = true) (hs : Src c el u Y k w cells) (hk : k ≤ 1000000) (hroom : n + k ≤ cp)
    (hst : ∀ a, base = some a → (storeCells (a.add (n * c.size el)) cells.toList).run c.P w = .ok () w') (hno : base = none → w' = w) : (Builtin.append_ #[t, u] ty #[.slice base n cp, Y]).run c.P w = .ok (.slice base (n + k) cp) w' := by
  obtain ⟨i, hi⟩ := size_info hz
  have hby : i.bytes ≤ 100000 := by unfold bytesOk at hb; rw [hi] at hb; exact ble_t.1 hb
  rcases hs.ex with ⟨d, h1, h2, h3, h4⟩ | ⟨q, q2, z, h1, rfl, h3, h4, h5⟩
  · have hzs : (match d with | .int _ => true | _ => false) = false := by cases d <;> first | rfl | exact absurd rfl (h2 _)
    unfold Builtin.append_
    simp only [List.getElem?_toArray, List.getElem?_cons_zero, List.getElem?_cons_succ, Sem.run_bind, run_und (desc_ok hd).1, Result.andThen_ok, run_size (size_info hz), run_und h1, Sem.run_pure, hzs, Bool.false_eq_true, if_false, h3, hroom, if_true, Bool.not_false, h4]
    cases base with
    | none => simp [hno rfl, Result.andThen]
    | some a => simp [hst a rfl, Result.andThen]
  · have w1 : IntKind.i64.wrap (k : Int) = k := i64w (by omega) (by omega)
    have hm : ¬ (k : Int) * (i.bytes : Int) > 2 ^ 48 := by
      have := Nat.mul_le_mul hk hby
      have : ((k * i.bytes : Nat) : Int) ≤ 1000000 * 100000 := by omega
      rw [Int.natCast_mul] at this; omega
    have hneg : ¬ (k : Int) < 0 := by omega
    unfold Builtin.append_
    simp only [List.getElem?_toArray, List.getElem?_cons_zero, List.getElem?_cons_succ, Sem.run_bind, run_und (desc_ok hd).1, Result.andThen_ok, run_size (size_info hz), run_und h1, Sem.run_pure, if_true, asInt, asIntOf, w1, hneg, if_false, run_info hi, hm, Int.toNat_natCast, hroom, Bool.not_true, Bool.false_eq_true]
    by_cases hn0 : k * c.size el = 0
    · have hc : cells = #[] := by rw [← h4]; exact zeroCells0 (by rw [h5]; exact hn0)
      subst hc
      simp only [hn0, if_true, Sem.run_pure, Result.andThen_ok]
      cases base with
      | none => simp [hno rfl, Result.andThen]
      | some a => have := hst a rfl; simp only at this; simp [this, Result.andThen]
    · simp only [hn0, if_false, Sem.run_bind, h3, Result.andThen_ok, Sem.run_pure, h4]
      cases base with
      | none => simp [hno rfl, Result.andThen]
      | some a => simp [hst a rfl, Result.andThen]
theorem run_app_grow {el : TypeId} {base : Option Addr} {n cp k : Nat} {Y z : Value} {cells old : Array Value} {w : World} (ty : TypeId) (hd : c.desc t = some (.slice el)) (hz : 0 < c.size el) (hb : bytesOk c el = true) (hzv : ∀ w, (zeroValue el).run c.P w = .ok z w)
    (hs : Src c el u Y k { w with drawn := w.drawn + 1 } cells) (hk : n + k ≤ 1000000) (hroom : cp < n + k) (hold : (Builtin.firstCells (c.size el) n (.slice base n cp)).run c.P { w with drawn := w.drawn + 1 } = .ok old { w with drawn := w.drawn + 1 }) :
    ∃ nc, n + k ≤ nc ∧ (Builtin.append_ #[t, u] ty #[.slice base n cp, Y]).run c.P w = .ok (.slice (some ⟨w.heap.size, 0, none⟩) (n + k) nc) (({ w with drawn := w.drawn + 1 } : World).alloc (.cells (old ++ cells ++ Builtin.zeroCells z.cells (nc - (n + k))) el)) := by
  obtain ⟨i, hi⟩ := size_info hz
  have hby : i.bytes ≤ 100000 := by unfold bytesOk at hb; rw [hi] at hb; exact ble_t.1 hb
  have hnr : ¬ n + k ≤ cp := by omega
  have hbig : ¬ (((n + k : Nat) : Int) > IntKind.i64.max) := by
    have h64 : IntKind.i64.max = 9223372036854775807 := by decide
    rw [h64]; omega
  have hcap : ¬ Builtin.nextslicecap (n + k) cp * i.bytes > 2 ^ 48 := by
    have h1 := nextslicecap_le (need := n + k) (old := cp) hroom
    have h2 := Nat.mul_le_mul h1 hby
    omega
  have hroom2 : ∀ m w, (askRoom m).run c.P w = .ok () w := fun n w => by unfold askRoom mark; split <;> rfl
  obtain ⟨nc, hnc, hch1⟩ : ∃ nc, n + k ≤ nc ∧ (choose (.appendCap (n + k) cp el)).run c.P w = .ok nc { w with drawn := w.drawn + 1 } :=
    ⟨n + k + w.tape w.drawn (.appendCap (n + k) cp el) % (2 ^ 63 - (n + k)), by omega, by simp [choose, Sem.run, Question.forced, Question.cut]⟩
  refine ⟨nc, hnc, ?_⟩
  rcases hs.ex with ⟨d, h1, h2, h3, h4⟩ | ⟨q, q2, z', h1, rfl, h3, h4, h5⟩
  · have hzs : (match d with | .int _ => true | _ => false) = false := by cases d <;> first | rfl | exact absurd rfl (h2 _)
    unfold Builtin.append_
    simp only [List.getElem?_toArray, List.getElem?_cons_zero, List.getElem?_cons_succ, Sem.run_bind, run_und (desc_ok hd).1, Result.andThen_ok, run_size (size_info hz), run_und h1, Sem.run_pure, hzs, Bool.false_eq_true, if_false, h3, hnr, hbig, false_and, run_info hi, hcap, hch1, hroom2, hold, Bool.not_false, if_true, h4, hzv, newRow, newObj, Sem.run]
    rfl
  · have w1 : IntKind.i64.wrap (k : Int) = k := i64w (by omega) (by omega)
    have hm : ¬ (k : Int) * (i.bytes : Int) > 2 ^ 48 := by
      have := Nat.mul_le_mul (show k ≤ 1000000 by omega) hby
      have : ((k * i.bytes : Nat) : Int) ≤ 1000000 * 100000 := by omega
      rw [Int.natCast_mul] at this; omega
    have hneg : ¬ (k : Int) < 0 := by omega
    have hzz : z' = z := by
      have := h3 w
      rw [hzv w] at this
      injection this with e _
      exact e.symm
    subst hzz
    unfold Builtin.append_
    simp only [List.getElem?_toArray, List.getElem?_cons_zero, List.getElem?_cons_succ, Sem.run_bind, run_und (desc_ok hd).1, Result.andThen_ok, run_size (size_info hz), run_und h1, Sem.run_pure, if_true, asInt, asIntOf, w1, hneg, if_false, run_info hi, hm, Int.toNat_natCast, Bool.not_true, Bool.false_eq_true, hnr, hbig, false_and, hcap, hch1, hroom2, hold]
    by_cases hn0 : k * c.size el = 0
    · have hc : cells = #[] := by rw [← h4]; exact zeroCells0 (by rw [h5]; exact hn0)
      subst hc
      simp only [hn0, if_true, Sem.run_pure, Result.andThen_ok, hzv, newRow, newObj, Sem.run]
      rfl
    · simp only [hn0, if_false, Sem.run_bind, h3, Result.andThen_ok, Sem.run_pure, h4, hzv, newRow, newObj, Sem.run]
      rfl

theorem rn_app {base : Option Addr} {n cp : Nat} {Y r : Value} {w w' : World} (hx : ev (fv ρ f) x = .slice base n cp) (hy : ev (fv ρ f) y = Y) (h : ∀ ty, (Builtin.append_ #[t, u] ty #[.slice base n cp, Y]).run c.P w = .ok r w') :
    Rn c (ev (fv ρ f)) (.call { callee := .builtin .append, args := [x, y].toArray, argTypes := [t, u].toArray }) w (.ok (.value r) w') := run_blt fun ty cs => by
  have := h ty
  simp [builtin, hx, hy, this, Result.andThen]
/-- a new block for what is appended -/
theorem grow_ok {el : TypeId} {base : Option Addr} {n cp k : Nat} {Y : Value} {add old : List (List V)} {s1 : St} {w0 w : World} {F : List E.Item} (hd : c.desc t = some (.slice el)) (hz : 0 < c.size el) (hb : bytesOk c el = true) (hzb : isBad (c.zero el) = false) (hzl : (cel (c.zero el)).length = c.size el)
    (hx : ev (fv ρ f) x = .slice base n cp) (hy : ev (fv ρ f) y = Y) (hs : SOk ρ s) (hs1 : SOk ρ s1) (hm1 : Mono s s1) (hnx : s1.nx = s.nx) (hnx2 : s.nx + 1 < 1000000) (hw : Mem w0 (hitem ρ s.hp :: F) w) (hw1 : Mem w0 (hitem ρ s1.hp :: F) w)
    (hsrc : ∀ w, Mem w0 (hitem ρ s.hp :: F) w → Src c el u Y k w (cvL ρ add.flatten).toArray) (hak : add.length = k) (hal : ∀ r ∈ add, r.length = c.size el) (hag : ∀ r ∈ add, GdL ρ s.nx r) (hk : n + k ≤ 1000000) (hroom : cp < n + k)
    (hold : ∀ w, Mem w0 (hitem ρ s.hp :: F) w → (Builtin.firstCells (c.size el) n (.slice base n cp)).run c.P w = .ok (cvL ρ old.flatten).toArray w) (hok : old.length = n) (hol : ∀ r ∈ old, r.length = c.size el) (hog : ∀ r ∈ old, GdL ρ s.nx r) :
    ∃ ρ' w', Exn s.nx ρ ρ' ∧ SOk ρ' (new s1 (.c el (c.size el) false (old ++ add))) ∧ Mono s (new s1 (.c el (c.size el) false (old ++ add))) ∧ Gd ρ' (new s1 (.c el (c.size el) false (old ++ add))).nx (.sl s.nx 0 (n + k) none) ∧ Mem w0 (hitem ρ' (new s1 (.c el (c.size el) false (old ++ add))).hp :: F) w' ∧
      Rn c (ev (fv ρ f)) (.call { callee := .builtin .append, args := [x, y].toArray, argTypes := [t, u].toArray }) w (.ok (.value (cv ρ' (.sl s.nx 0 (n + k) none))) w') := by
  obtain ⟨hzr, hzg, hi⟩ := run_zero (ρ := ρ) (n := s.nx) hzb
  have hwd : Mem w0 (hitem ρ s.hp :: F) { w with drawn := w.drawn + 1 } := hw.drew
  have hwd1 : Mem w0 (hitem ρ s1.hp :: F) { w with drawn := w.drawn + 1 } := hw1.drew
  have hrun : ∀ ty, ∃ nc, n + k ≤ nc ∧ (Builtin.append_ #[t, u] ty #[.slice base n cp, Y]).run c.P w = .ok (.slice (some ⟨w.heap.size, 0, none⟩) (n + k) nc) (({ w with drawn := w.drawn + 1 } : World).alloc (.cells ((cvL ρ old.flatten).toArray ++ (cvL ρ add.flatten).toArray ++ Builtin.zeroCells (cv ρ (c.zero el)).cells (nc - (n + k))) el)) := fun ty =>
    run_app_grow ty hd hz hb hzr (hsrc _ hwd) hk hroom (hold _ hwd)
  have hcap : ∀ ty ty' nc nc' w1 w1' a a', (Builtin.append_ #[t, u] ty #[.slice base n cp, Y]).run c.P w = .ok (.slice a (n + k) nc) w1 → (Builtin.append_ #[t, u] ty' #[.slice base n cp, Y]).run c.P w = .ok (.slice a' (n + k) nc') w1' → nc = nc' := fun ty ty' nc nc' w1 w1' a a' h1 h2 => by
    have e : (Builtin.append_ #[t, u] ty #[.slice base n cp, Y]) = (Builtin.append_ #[t, u] ty' #[.slice base n cp, Y]) := rfl
    rw [e, h2] at h1
    injection h1 with h1 _
    injection h1 with _ _ h1
    exact h1.symm
  obtain ⟨nc, hnc, hr0⟩ := hrun 0
  have hr : ∀ ty, (Builtin.append_ #[t, u] ty #[.slice base n cp, Y]).run c.P w = .ok (.slice (some ⟨w.heap.size, 0, none⟩) (n + k) nc) (({ w with drawn := w.drawn + 1 } : World).alloc (.cells ((cvL ρ old.flatten).toArray ++ (cvL ρ add.flatten).toArray ++ Builtin.zeroCells (cv ρ (c.zero el)).cells (nc - (n + k))) el)) := fun ty => hr0
  have hx' := put_exo ρ s.nx w.heap.size 0 nc (c.size el)
  have hgr : ∀ r ∈ old ++ add, GdL ρ s.nx r := fun r hr => by
    rcases List.mem_append.1 hr with h | h
    · exact hog r h
    · exact hag r h
  have hlr : ∀ r ∈ old ++ add, r.length = c.size el := fun r hr => by
    rcases List.mem_append.1 hr with h | h
    · exact hol r h
    · exact hal r h
  have had : (ρ.put s.nx w.heap.size 0 nc (c.size el)).ad s.nx = w.heap.size := by simp [Env.put]
  have hzlen : (Builtin.zeroCells (cv ρ (c.zero el)).cells (nc - (n + k))).size = (nc - (n + k)) * c.size el := by
    unfold Builtin.zeroCells
    have : (cv ρ (c.zero el)).cells.size = c.size el := by rw [cv_cells]; simpa using hzl
    simp [this]
  have hbr : BR (ρ.put s.nx w.heap.size 0 nc (c.size el)) s.nx (({ w with drawn := w.drawn + 1 } : World).alloc (.cells ((cvL ρ old.flatten).toArray ++ (cvL ρ add.flatten).toArray ++ Builtin.zeroCells (cv ρ (c.zero el)).cells (nc - (n + k))) el)) (.c el (c.size el) false (old ++ add)) := by
    refine ⟨by simp [Env.put], hz, hlr, [], (Builtin.zeroCells (cv ρ (c.zero el)).cells (nc - (n + k))).toList, ?_, by simp [Env.put], ?_, fun h => by cases h⟩
    · rw [had]
      have := heap_alloc_new ({ w with drawn := w.drawn + 1 } : World) (.cells ((cvL ρ old.flatten).toArray ++ (cvL ρ add.flatten).toArray ++ Builtin.zeroCells (cv ρ (c.zero el)).cells (nc - (n + k))) el)
      rw [this]
      congr 2
      apply Array.ext'
      rw [map_cv_ext (hx'.exn (n := s.nx) hs.no) (gdl_flatten hgr)]
      simp [cvL_eq]
    · have hz2 : (Builtin.zeroCells (cv ρ (c.zero el)).cells (nc - (n + k))).toList.length = (nc - (n + k)) * c.size el := by rw [← hzlen]; rfl
      have e1 : (ρ.put s.nx w.heap.size 0 nc (c.size el)).ce s.nx = nc := by simp [Env.put]
      have e2 : (old ++ add).length = n + k := by rw [List.length_append, hok, hak]
      rw [e1, e2, hz2, ← Nat.add_mul]
      congr 1; omega
  have hsz : s1.nx + 1 < 1000000 := by rw [hnx]; exact hnx2
  have hbg : BG (ρ.put s.nx w.heap.size 0 nc (c.size el)) s1.nx (.c el (c.size el) false (old ++ add)) := fun r hr => GdL.ext (hx'.exn (n := s.nx) hs.no) (by rw [hnx]; exact Nat.le_refl _) (hgr r hr)
  obtain ⟨q1, q2⟩ := sok_new (ρ' := ρ.put s.nx w.heap.size 0 nc (c.size el)) hs1 (by rw [hnx]; exact hx') hsz hbg
  refine ⟨ρ.put s.nx w.heap.size 0 nc (c.size el), _, hx'.exn (n := s.nx) hs.no, q1, hm1.trans q2, ?_, m_newS _ hs1 (by rw [hnx]; exact hx') (by rw [hnx]; exact had) (by rw [hnx]; exact hbr) hwd1, ?_⟩
  · show Gd _ (s1.nx + 1) _
    rw [hnx]
    simp [Gd, Env.put]; exact hnc
  · have e1 : cv (ρ.put s.nx w.heap.size 0 nc (c.size el)) (.sl s.nx 0 (n + k) none) = .slice (some ⟨w.heap.size, 0, none⟩) (n + k) nc := by simp [cv, Env.put]
    rw [e1]
    exact rn_app hx hy hr
end
end Go.Proofs.O

/-
  Append, shown; copy; clear.
-/
set_option linter.unusedVariables false
set_option linter.unusedSimpArgs false
namespace Go.Proofs.O
open Go Go.Proofs.E

section
variable {c : Tab} {ρ : Env} {s : St} {f : Fm} {x y z : Operand} {t u : TypeId}
theorem oneR_flat {l : List (List V)} (h : oneR l = true) : oneL l.flatten = true := oneL_iff.2 fun v hv => by
  obtain ⟨r, hr, hv⟩ := List.mem_flatten.1 hv
  exact oneL_iff.1 (oneR_iff.1 h r hr) v hv
/-- the block has room, and its rows are known there -/
theorem stay_ok {id st tb sz off n k cp : Nat} {ex : Bool} {cap : Option Nat} {rows add : List (List V)} {Y : Value} {w0 w : World} {F : List E.Item} {el : TypeId} (hd : c.desc t = some (.slice el)) (hz : 0 < c.size el) (hb : bytesOk c el = true)
    (hx : ev (fv ρ f) x = .slice (some ⟨ρ.ad id, ρ.ba id + off, none⟩) n cp) (hy : ev (fv ρ f) y = Y) (hs : SOk ρ s) (hst : hget s.hp id = .bk st (.c tb sz ex rows)) (hsz : sz = c.size el) (hw : Mem w0 (hitem ρ s.hp :: F) w)
    (hsrc : Src c el u Y k w (cvL ρ add.flatten).toArray) (hak : add.length = k) (hal : ∀ r ∈ add, r.length = c.size el) (hag : ∀ r ∈ add, GdL ρ s.nx r) (h1 : oneR add = true) (hk : k ≤ 1000000) (hroom : n + k ≤ cp) (hoff : off % sz = 0) (hfit : off / sz + (n + k) ≤ rows.length) (hcv : cv ρ (.sl id off (n + k) cap) = .slice (some ⟨ρ.ad id, ρ.ba id + off, none⟩) (n + k) cp) (hgd : Gd ρ s.nx (.sl id off (n + k) cap)) :
    ∃ ρ' w', Exn s.nx ρ ρ' ∧ SOk ρ' (upd s id (.c tb sz ex (over rows (off / sz + n) add))) ∧ Mono s (upd s id (.c tb sz ex (over rows (off / sz + n) add))) ∧ Gd ρ' (upd s id (.c tb sz ex (over rows (off / sz + n) add))).nx (.sl id off (n + k) cap) ∧ Mem w0 (hitem ρ' (upd s id (.c tb sz ex (over rows (off / sz + n) add))).hp :: F) w' ∧
      Rn c (ev (fv ρ f)) (.call { callee := .builtin .append, args := [x, y].toArray, argTypes := [t, u].toArray }) w (.ok (.value (cv ρ' (.sl id off (n + k) cap))) w') := by
  have hbr := m_br hw hst
  have hal' : ∀ r ∈ add, r.length = sz := fun r hr => by rw [hsz]; exact hal r hr
  have hlen : add.flatten.length = k * sz := by rw [flat_len' _ hal', hak]
  have e0 : off / sz * sz = off := by have := div_mod_eq off sz; omega
  have e1 : (off / sz + n) * sz = off + n * sz := by rw [Nat.add_mul, e0]
  obtain ⟨o1, o2, o3⟩ := over_flat hbr.2.2.1 hal' (q := off / sz + n) (by rw [hak]; omega)
  have hbg : ∀ r ∈ rows, GdL ρ s.nx r := (hs.bk _ _ _ hst).2.2
  obtain ⟨w', hrun, hbr', hos, hout⟩ := br_write (c := c) (off := off + n * sz) (vs := add.flatten) hbr (by
      rw [hlen, ← e1, ← Nat.add_mul]; exact Nat.mul_le_mul_right _ (by omega)) (oneR_flat h1) (rows' := over rows (off / sz + n) add) (fun r hr => by
      rcases o3 r hr with h | h
      · exact hbr.2.2.1 r h
      · exact hal' r h) o2 (by rw [o1, e1])
  obtain ⟨hs', hmono⟩ := sok_upd hs hst (k' := .c tb sz ex (over rows (off / sz + n) add)) (fun r hr => by
      rcases o3 r hr with h | h
      · exact hbg r h
      · exact hag r h)
  refine ⟨ρ, w', Exn.refl, hs', hmono, hgd, m_set hw (Nat.lt_trans (hs.up _ (hs.bk _ _ _ hst).1) hs.nx) hst hbr' hos hout, ?_⟩
  rw [hcv]
  exact rn_app hx hy fun ty => run_app_room ty hd hz hb hsrc hk hroom (fun a ha => by
    cases ha
    rw [add_addr, ← hsz, Nat.add_assoc]
    exact hrun) (fun h => by cases h)
/-- .. room, but it is not known what lies there -/
theorem inplace_ok {id st tb sz off n k : Nat} {rows add old : List (List V)} {ex : Bool} {Y : Value} {w0 w : World} {F : List E.Item} {el : TypeId} (hd : c.desc t = some (.slice el)) (hz : 0 < c.size el) (hb : bytesOk c el = true)
    (hx : ev (fv ρ f) x = .slice (some ⟨ρ.ad id, ρ.ba id + off, none⟩) n (ρ.ce id - off / ρ.sz id)) (hy : ev (fv ρ f) y = Y) (hs : SOk ρ s) (hnx2 : s.nx + 1 < 1000000) (hst : hget s.hp id = .bk st (.c tb sz ex rows)) (hsz : sz = c.size el) (hw : Mem w0 (hitem ρ s.hp :: F) w)
    (hsrc : Src c el u Y k w (cvL ρ add.flatten).toArray) (hak : add.length = k) (hal : ∀ r ∈ add, r.length = c.size el) (hag : ∀ r ∈ add, GdL ρ s.nx r) (h1 : oneR add = true) (hk : k ≤ 1000000) (hoff : off % sz = 0) (hin : off / sz + n ≤ ρ.ce id) (hroom : n + k ≤ ρ.ce id - off / ρ.sz id)
    (hold : rowsB n sz off (.c tb sz ex rows) = .r old) (htb : tb = el) :
    ∃ ρ' w', Exn s.nx ρ ρ' ∧ SOk ρ' (new (kil s id) (.c el sz false (old ++ add))) ∧ Mono s (new (kil s id) (.c el sz false (old ++ add))) ∧ Gd ρ' (new (kil s id) (.c el sz false (old ++ add))).nx (.sl s.nx 0 (n + k) none) ∧ Mem w0 (hitem ρ' (new (kil s id) (.c el sz false (old ++ add))).hp :: F) w' ∧
      Rn c (ev (fv ρ f)) (.call { callee := .builtin .append, args := [x, y].toArray, argTypes := [t, u].toArray }) w (.ok (.value (cv ρ' (.sl s.nx 0 (n + k) none))) w') := by
  have hid := hs.bk _ _ _ hst
  have hi : id < 1000000 := Nat.lt_trans (hs.up _ hid.1) hs.nx
  obtain ⟨b1, b2, b3, pre, post, b4, b5, b6, b7⟩ := m_br hw hst
  obtain ⟨g1, g2, g3⟩ := getR_ok b2 b3 (show okR n sz (getR n sz off sz rows) = .r old from hold)
  have hal' : ∀ r ∈ add, r.length = sz := fun r hr => by rw [hsz]; exact hal r hr
  have hlen : add.flatten.length = k * sz := by rw [flat_len' _ hal', hak]
  have holen : old.flatten.length = n * sz := by rw [flat_len' _ g2, g1]
  have e0 : off / sz * sz = off := by have := div_mod_eq off sz; omega
  rw [b1] at hroom hx
  have htot : off + n * sz + k * sz ≤ rows.length * sz + post.length := by
    rw [b6]
    have : (off / sz + n + k) * sz ≤ ρ.ce id * sz := Nat.mul_le_mul_right _ (by omega)
    rw [Nat.add_mul, Nat.add_mul, e0] at this; exact this
  have hrl := flat_len' rows b3
  -- all cells behind the block's base
  have hall : ((rows.flatten.map (cv ρ) ++ post).drop off).take (n * sz) = old.flatten.map (cv ρ) := by
    rw [g3]
    by_cases hn : n * sz = 0
    · rw [hn]; simp
    · have h2 : ((rows.flatten.drop off).take (n * sz)).length = n * sz := by rw [← g3]; exact holen
      simp only [List.length_take, List.length_drop] at h2
      rw [List.drop_append_of_le_length (by rw [List.length_map]; omega), List.take_append_of_le_length (by rw [List.length_drop, List.length_map]; omega)]
      simp [List.map_take, List.map_drop]
  have hst2 := run_storeCells_at (P := c.P) (ρ.ad id) (ρ.ba id + off + n * sz) tb (cvL ρ add.flatten) 0 _ w b4 (by
    rw [List.size_toArray, List.length_append, List.length_append, List.length_map, cvL_eq, List.length_map]; omega) (oneL_cv (oneR_flat h1))
  have hx' := put_exo ρ s.nx (ρ.ad id) (ρ.ba id + off) (ρ.ce id - off / sz) sz
  have hbg : ∀ r ∈ rows, GdL ρ s.nx r := hid.2.2
  have hog : ∀ r ∈ old, GdL ρ s.nx r := fun r hr => GdL_iff.2 fun a ha => by
    have : a ∈ old.flatten := List.mem_flatten.2 ⟨r, hr, ha⟩
    rw [g3] at this
    obtain ⟨b, hb, ha⟩ := List.mem_flatten.1 (List.mem_of_mem_drop (List.mem_of_mem_take this))
    exact GdL_iff.1 (hbg b hb) a ha
  have hgr : ∀ r ∈ old ++ add, GdL ρ s.nx r := fun r hr => by
    rcases List.mem_append.1 hr with h | h
    · exact hog r h
    · exact hag r h
  have had : (ρ.put s.nx (ρ.ad id) (ρ.ba id + off) (ρ.ce id - off / sz) sz).ad s.nx = ρ.ad id := by simp [Env.put]
  have hbr : BR (ρ.put s.nx (ρ.ad id) (ρ.ba id + off) (ρ.ce id - off / sz) sz) s.nx (w.setRow (ρ.ad id) ((pre ++ (rows.flatten.map (cv ρ) ++ post)).toArray.toList.take (ρ.ba id + off + n * sz + 0) ++ cvL ρ add.flatten ++ (pre ++ (rows.flatten.map (cv ρ) ++ post)).toArray.toList.drop (ρ.ba id + off + n * sz + 0 + (cvL ρ add.flatten).length)).toArray) (.c el sz false (old ++ add)) := by
    refine ⟨by simp [Env.put], b2, fun r hr => ?_, pre ++ (rows.flatten.map (cv ρ) ++ post).take off, (rows.flatten.map (cv ρ) ++ post).drop (off + n * sz + k * sz), ?_, ?_, ?_, fun h => by cases h⟩
    · rcases List.mem_append.1 hr with h | h
      · exact g2 r h
      · exact hal' r h
    · rw [had, setRow_heap _ _ _ _ tb _ b4, htb]
      congr 2
      apply Array.ext'
      rw [map_cv_ext (hx'.exn (n := s.nx) hs.no) (gdl_flatten hgr)]
      have hal2 : (cvL ρ add.flatten).length = k * sz := by rw [cvL_eq, List.length_map]; exact hlen
      rw [hal2]
      show (pre ++ (rows.flatten.map (cv ρ) ++ post)).take (ρ.ba id + off + n * sz + 0) ++ cvL ρ add.flatten ++ (pre ++ (rows.flatten.map (cv ρ) ++ post)).drop (ρ.ba id + off + n * sz + 0 + k * sz) = pre ++ (rows.flatten.map (cv ρ) ++ post).take off ++ ((old ++ add).flatten.map (cv ρ) ++ (rows.flatten.map (cv ρ) ++ post).drop (off + n * sz + k * sz))
      generalize hA : rows.flatten.map (cv ρ) ++ post = A at hall ⊢
      have hAl : A.length = rows.length * sz + post.length := by rw [← hA, List.length_append, List.length_map, hrl]
      rw [List.flatten_append, List.map_append, ← hall, ← cvL_eq]
      have f1 : (pre ++ A).take (ρ.ba id + off + n * sz + 0) = pre ++ A.take (off + n * sz) := by
        rw [List.take_append, List.take_of_length_le (by omega)]; congr 2; omega
      have f2 : (pre ++ A).drop (ρ.ba id + off + n * sz + 0 + k * sz) = A.drop (off + n * sz + k * sz) := by
        have : pre.drop (ρ.ba id + off + n * sz + 0 + k * sz) = [] := List.drop_eq_nil_of_le (by omega)
        rw [List.drop_append, this, List.nil_append]; congr 1; omega
      have f3 : A.take (off + n * sz) = A.take off ++ (A.drop off).take (n * sz) := List.take_add
      rw [f1, f2, f3]
      simp
    · have e2 : (ρ.put s.nx (ρ.ad id) (ρ.ba id + off) (ρ.ce id - off / sz) sz).ba s.nx = ρ.ba id + off := by simp [Env.put]
      rw [e2, List.length_append, b5, List.length_take, List.length_append, List.length_map, hrl]; omega
    · have e2 : (ρ.put s.nx (ρ.ad id) (ρ.ba id + off) (ρ.ce id - off / sz) sz).ce s.nx = ρ.ce id - off / sz := by simp [Env.put]
      have lA : (rows.flatten.map (cv ρ) ++ post).length = rows.length * sz + post.length := by rw [List.length_append, List.length_map, hrl]
      rw [e2, List.length_drop, lA, List.length_append, g1, hak, Nat.sub_mul, e0, Nat.add_mul]
      omega
  have hkil := sok_kil hs hi
  have hbg2 : BG (ρ.put s.nx (ρ.ad id) (ρ.ba id + off) (ρ.ce id - off / sz) sz) (kil s id).nx (.c el sz false (old ++ add)) := fun r hr => GdL.ext (hx'.exn (n := s.nx) hs.no) (Nat.le_refl _) (hgr r hr)
  obtain ⟨q1, q2⟩ := sok_new (ρ' := ρ.put s.nx (ρ.ad id) (ρ.ba id + off) (ρ.ce id - off / sz) sz) hkil.1 hx' hnx2 hbg2
  refine ⟨ρ.put s.nx (ρ.ad id) (ρ.ba id + off) (ρ.ce id - off / sz) sz, _, hx'.exn (n := s.nx) hs.no, q1, hkil.2.trans q2, ?_, m_swap hw hs rfl hst hx' had hbr ⟨rfl, rfl, rfl, by simp [World.setRow], Nat.le_refl _⟩ (fun b hb => ?_), ?_⟩
  · show Gd _ (s.nx + 1) _
    simp [Gd, Env.put]; omega
  · simp only [World.setRow]
    rw [Array.getElem?_modify, if_neg (fun e => hb e.symm)]
  · have e1 : cv (ρ.put s.nx (ρ.ad id) (ρ.ba id + off) (ρ.ce id - off / sz) sz) (.sl s.nx 0 (n + k) none) = .slice (some ⟨ρ.ad id, ρ.ba id + off, none⟩) (n + k) (ρ.ce id - off / sz) := by simp [cv, Env.put]
    rw [e1]
    exact rn_app hx hy fun ty => run_app_room ty hd hz hb hsrc hk hroom (fun a ha => by
      cases ha
      rw [add_addr, ← hsz]
      exact hst2) (fun h => by cases h)
end
end Go.Proofs.O

/-
  Append, copy, clear, cap: all cases.
-/
set_option linter.unusedVariables false
set_option linter.unusedSimpArgs false
namespace Go.Proofs.O
open Go Go.Proofs.E

section
variable {c : Tab} {ρ : Env} {s : St} {f : Fm} {x y z : Operand} {t u : TypeId}
theorem appX_ok {el : TypeId} {k : Nat} {v : V} {Y : Value} {add : List (List V)} (hd : c.desc t = some (.slice el)) (hz : 0 < c.size el) (hb : bytesOk c el = true) (hzb : isBad (c.zero el) = false) (hzl : (cel (c.zero el)).length = c.size el)
    (hx : ev (fv ρ f) x = cv ρ v) (g : Gd ρ s.nx v) (hy : ev (fv ρ f) y = Y) (hs : SOk ρ s) (hsrc : ∀ w0 F w, Mem w0 (hitem ρ s.hp :: F) w → Src c el u Y k w (cvL ρ add.flatten).toArray)
    (hak : k ≠ 0 → add.length = k) (hal : ∀ r ∈ add, r.length = c.size el) (hag : ∀ r ∈ add, GdL ρ s.nx r) (h1 : oneR add = true) (hk : lenX v + k ≤ 1000000) (h0 : k = 0 → add.flatten = []) :
    Nok c ρ s (ev (fv ρ f)) (.call { callee := .builtin .append, args := [x, y].toArray, argTypes := [t, u].toArray }) (appX s el (c.size el) k v add) := by
  have same : k = 0 → ∀ (base : Option Addr) (n cp : Nat), cv ρ v = .slice base n cp → n ≤ cp → Nok c ρ s (ev (fv ρ f)) (.call { callee := .builtin .append, args := [x, y].toArray, argTypes := [t, u].toArray }) (.v v) := fun hk0 base n cp e hn => by
    subst hk0
    refine fun w0 F w hw => ⟨g, ?_⟩
    rw [e] at hx ⊢
    have hsrc' := hsrc w0 F w hw
    rw [h0 rfl] at hsrc'
    exact rn_app hx hy fun ty => run_app_room (w' := w) ty hd hz hb hsrc' (by omega) (by omega) (fun a _ => by simp [cvL, storeCells]) (fun _ => rfl)
  cases v <;> try exact trivial
  · rename_i id off n cap
    have hkn : n + k ≤ 1000000 := hk
    cases cap with
    | none =>
      obtain ⟨hid, hoff, hfit⟩ := gd_sl_none g
      show Nok c ρ s _ _ (Bool.rec (motive := fun _ => Nx) (appN s el (c.size el) id off n k add (asBC (blk s id))) (.v (.sl id off n none)) (Nat.beq k 0))
      rw [brec]
      split
      · rename_i hk0
        exact same (beq_t.1 hk0) (some ⟨ρ.ad id, ρ.ba id + off, none⟩) n (ρ.ce id - off / ρ.sz id) (by simp only [cv]) (by omega)
      · rename_i hk0
        have hk0 : k ≠ 0 := fun e => hk0 (beq_t.2 e)
        have hak := hak hk0
        simp only [cv] at hx
        cases hbk : asBC (blk s id) with
        | no => exact trivial
        | c tb z ex rows =>
          obtain ⟨st, hst⟩ := asBC_ok hbk
          have hst : hget s.hp id = .bk st (.c tb z ex rows) := hst
          show Nok c ρ s _ _ (Bool.rec (motive := fun _ => Nx) (.er 59) (Bool.rec (motive := fun _ => Nx) (Bool.rec (motive := fun _ => Nx) (Bool.rec (motive := fun _ => Nx) (.er 60) (OR.rec (motive := fun _ => Nx) (.er 60) (fun old => .sv (.sl s.nx 0 (Nat.add n k) none) (new (kil s id) (.c el (c.size el) false (apd old add)))) (rowsB n (c.size el) off (.c tb z ex rows))) (Nat.beq tb el)) (moveK s el (c.size el) off n k add (.c tb z ex rows)) ex) (stayK s id off n k (Nat.add (Nat.div off (c.size el)) n) tb (c.size el) ex rows none add) (Nat.ble (Nat.add (Nat.div off (c.size el)) (Nat.add n k)) (len rows))) (Nat.beq z (c.size el)))
          rw [brec]
          split
          · rename_i hzz
            have hzz : z = c.size el := beq_t.1 hzz
            subst hzz
            rw [brec]
            split
            · rename_i hfit2
              have hfit2 : off / c.size el + (n + k) ≤ len rows := ble_t.1 hfit2
              rw [len_eq] at hfit2
              show s.nx < 1000000 → _
              intro _ w0 F w hw
              obtain ⟨b1, b2, b3, pre, post, b4, b5, b6, b7⟩ := m_br hw hst
              rw [b1] at hoff hfit hx
              have hce : rows.length ≤ ρ.ce id := by
                have : rows.length * c.size el ≤ ρ.ce id * c.size el := by omega
                exact Nat.le_of_mul_le_mul_right this b2
              obtain ⟨ρ', w', r1, r2, r3, r4, r5, r6⟩ := stay_ok (cap := none) hd hz hb hx hy hs hst rfl hw (hsrc w0 F w hw) hak hal hag h1 (by omega) (by omega) hoff hfit2 (by simp only [cv, b1]) (by simp only [Gd, b1]; exact ⟨hid, hoff, by omega⟩)
              exact ⟨ρ', w', r1, r2, r3, r4, r5, .inl r6⟩
            · rename_i hfit2
              have hfit2 : ¬ (off / c.size el + (n + k) ≤ rows.length) := fun e => hfit2 (ble_t.2 (by rw [len_eq]; exact e))
              have grow : ∀ (old : List (List V)) (s1 : St), rowsB n (c.size el) off (.c tb (c.size el) ex rows) = .r old → SOk ρ s1 → Mono s s1 → s1.nx = s.nx → ∀ w0 F w, Mem w0 (hitem ρ s.hp :: F) w → Mem w0 (hitem ρ s1.hp :: F) w → s.nx + 1 < 1000000 → ρ.ce id - off / ρ.sz id < n + k → ∃ ρ' w', Exn s.nx ρ ρ' ∧ SOk ρ' (new s1 (.c el (c.size el) false (old ++ add))) ∧ Mono s (new s1 (.c el (c.size el) false (old ++ add))) ∧ Gd ρ' (new s1 (.c el (c.size el) false (old ++ add))).nx (.sl s.nx 0 (n + k) none) ∧ Mem w0 (hitem ρ' (new s1 (.c el (c.size el) false (old ++ add))).hp :: F) w' ∧
                  Rn c (ev (fv ρ f)) (.call { callee := .builtin .append, args := [x, y].toArray, argTypes := [t, u].toArray }) w (.ok (.value (cv ρ' (.sl s.nx 0 (n + k) none))) w') := fun old s1 hold hs1 hm1 hn1 w0 F w hw hw1 hnx hcp => by
                obtain ⟨q1, q2, _, q4⟩ := rows_cells (c := c) hw hst hold
                have hbg : ∀ r ∈ rows, GdL ρ s.nx r := (hs.bk _ _ _ hst).2.2
                refine grow_ok hd hz hb hzb hzl hx hy hs hs1 hm1 hn1 hnx hw hw1 (fun w hw => hsrc w0 F w hw) hak hal hag hkn hcp (fun w hw => ?_) q1 q2 (fun r hr => GdL_iff.2 fun a ha => ?_)
                · have := (rows_cells (c := c) hw hst hold).2.2.1
                  simpa [Builtin.firstCells] using this
                · obtain ⟨b, hb', ha'⟩ := q4 a (List.mem_flatten.2 ⟨r, hr, ha⟩)
                  exact GdL_iff.1 (hbg b hb') a ha'
              cases ex with
              | true =>
                show Nok c ρ s _ _ (OR.rec (motive := fun _ => Nx) (.er 57) (fun old => mkR s el (c.size el) (Nat.add n k) (apd old add)) (rowsB n (c.size el) off (.c tb (c.size el) true rows)))
                cases hold : rowsB n (c.size el) off (.c tb (c.size el) true rows) with
                | no => exact trivial
                | r old =>
                  show s.nx + 1 < 1000000 → _
                  intro hnx w0 F w hw
                  obtain ⟨b1, b2, b3, pre, post, b4, b5, b6, b7⟩ := m_br hw hst
                  have hp0 := b7 rfl
                  subst hp0
                  have hce : ρ.ce id = rows.length := by
                    simp only [List.length_nil, Nat.add_zero] at b6
                    exact (Nat.eq_of_mul_eq_mul_right b2 b6).symm
                  rw [apd_eq]
                  obtain ⟨ρ', w', r1, r2, r3, r4, r5, r6⟩ := grow old s hold hs Mono.refl rfl w0 F w hw hw hnx (by rw [b1, hce]; omega)
                  exact ⟨ρ', w', r1, r2, r3, r4, r5, .inl r6⟩
              | false =>
                show Nok c ρ s _ _ (Bool.rec (motive := fun _ => Nx) (.er 60) (OR.rec (motive := fun _ => Nx) (.er 60) (fun old => .sv (.sl s.nx 0 (Nat.add n k) none) (new (kil s id) (.c el (c.size el) false (apd old add)))) (rowsB n (c.size el) off (.c tb (c.size el) false rows))) (Nat.beq tb el))
                rw [brec]
                split
                · rename_i htb
                  have htb : tb = el := beq_t.1 htb
                  cases hold : rowsB n (c.size el) off (.c tb (c.size el) false rows) with
                  | no => exact trivial
                  | r old =>
                    show s.nx + 1 < 1000000 → _
                    intro hnx w0 F w hw
                    obtain ⟨b1, b2, b3, pre, post, b4, b5, b6, b7⟩ := m_br hw hst
                    rw [apd_eq]
                    have hi : id < 1000000 := Nat.lt_trans (hs.up _ hid) hs.nx
                    by_cases hroom : n + k ≤ ρ.ce id - off / ρ.sz id
                    · obtain ⟨ρ', w', r1, r2, r3, r4, r5, r6⟩ := inplace_ok hd hz hb hx hy hs hnx hst rfl hw (hsrc w0 F w hw) hak hal hag h1 (by omega) (by rw [← b1]; exact hoff) (by rw [← b1]; exact hfit) hroom hold htb
                      exact ⟨ρ', w', r1, r2, r3, r4, r5, .inl r6⟩
                    · obtain ⟨ρ', w', r1, r2, r3, r4, r5, r6⟩ := grow old (kil s id) hold (sok_kil hs hi).1 (sok_kil hs hi).2 rfl w0 F w hw (m_kil hi hw) hnx (by omega)
                      exact ⟨ρ', w', r1, r2, r3, r4, r5, .inl r6⟩
                · exact trivial
          · exact trivial
    | some cp =>
      obtain ⟨hid, hncp⟩ := gd_sl_some g
      show Nok c ρ s _ _ (Bool.rec (motive := fun _ => Nx) (appC s el (c.size el) id off n k cp add (asBC (blk s id))) (.v (.sl id off n (some cp))) (Nat.beq k 0))
      rw [brec]
      split
      · rename_i hk0
        exact same (beq_t.1 hk0) (some ⟨ρ.ad id, ρ.ba id + off, none⟩) n cp (by simp only [cv]) hncp
      · rename_i hk0
        have hk0 : k ≠ 0 := fun e => hk0 (beq_t.2 e)
        have hak := hak hk0
        simp only [cv] at hx
        cases hbk : asBC (blk s id) with
        | no => exact trivial
        | c tb z ex rows =>
          obtain ⟨st, hst⟩ := asBC_ok hbk
          have hst : hget s.hp id = .bk st (.c tb z ex rows) := hst
          show Nok c ρ s _ _ (Bool.rec (motive := fun _ => Nx) (moveK s el (c.size el) off n k add (.c tb z ex rows)) (Bool.rec (motive := fun _ => Nx) (.er 62) (stayK s id off n k (Nat.add (Nat.div off (c.size el)) n) tb (c.size el) ex rows (some cp) add) (band (Nat.beq (Nat.mod off (c.size el)) 0) (band (Nat.beq z (c.size el)) (Nat.ble (Nat.add (Nat.div off (c.size el)) (Nat.add n k)) (len rows))))) (Nat.ble (Nat.add n k) cp))
          rw [brec]
          split
          · rename_i hroom
            have hroom : n + k ≤ cp := ble_t.1 hroom
            rw [brec]
            split
            · rename_i hq
              obtain ⟨q1, hq⟩ := band_t.1 hq
              obtain ⟨q2, q3⟩ := band_t.1 hq
              have q1 : off % c.size el = 0 := beq_t.1 q1
              have q2 : z = c.size el := beq_t.1 q2
              have q3 : off / c.size el + (n + k) ≤ len rows := ble_t.1 q3
              rw [len_eq] at q3
              subst q2
              show s.nx < 1000000 → _
              intro _ w0 F w hw
              obtain ⟨ρ', w', r1, r2, r3, r4, r5, r6⟩ := stay_ok (cap := some cp) hd hz hb hx hy hs hst rfl hw (hsrc w0 F w hw) hak hal hag h1 (by omega) hroom q1 q3 (by simp only [cv]) (by simp only [Gd]; exact ⟨hid, hroom⟩)
              exact ⟨ρ', w', r1, r2, r3, r4, r5, .inl r6⟩
            · exact trivial
          · rename_i hroom
            have hroom : ¬ n + k ≤ cp := fun e => hroom (ble_t.2 e)
            show Nok c ρ s _ _ (OR.rec (motive := fun _ => Nx) (.er 57) (fun old => mkR s el (c.size el) (Nat.add n k) (apd old add)) (rowsB n (c.size el) off (.c tb z ex rows)))
            cases hold : rowsB n (c.size el) off (.c tb z ex rows) with
            | no => exact trivial
            | r old =>
              show s.nx + 1 < 1000000 → _
              intro hnx w0 F w hw
              rw [apd_eq]
              obtain ⟨q1, q2, _, q4⟩ := rows_cells (c := c) hw hst hold
              have hbg : ∀ r ∈ rows, GdL ρ s.nx r := (hs.bk _ _ _ hst).2.2
              obtain ⟨ρ', w', r1, r2, r3, r4, r5, r6⟩ := grow_ok hd hz hb hzb hzl hx hy hs hs Mono.refl rfl hnx hw hw (fun w hw => hsrc w0 F w hw) hak hal hag hkn (by omega) (fun w hw => by
                have := (rows_cells (c := c) hw hst hold).2.2.1
                simpa [Builtin.firstCells] using this) q1 q2 (fun r hr => GdL_iff.2 fun a ha => by
                obtain ⟨b, hb', ha'⟩ := q4 a (List.mem_flatten.2 ⟨r, hr, ha⟩)
                exact GdL_iff.1 (hbg b hb') a ha')
              exact ⟨ρ', w', r1, r2, r3, r4, r5, .inl r6⟩
  · show Nok c ρ s _ _ (Bool.rec (motive := fun _ => Nx) (mkR s el (c.size el) k add) (.v .nsl) (Nat.beq k 0))
    have hkn : 0 + k ≤ 1000000 := hk
    rw [brec]
    split
    · rename_i hk0
      exact same (beq_t.1 hk0) none 0 0 (by simp only [cv]) (Nat.le_refl _)
    · rename_i hk0
      have hk0 : k ≠ 0 := fun e => hk0 (beq_t.2 e)
      have hak := hak hk0
      simp only [cv] at hx
      show s.nx + 1 < 1000000 → _
      intro hnx w0 F w hw
      obtain ⟨ρ', w', r1, r2, r3, r4, r5, r6⟩ := grow_ok (old := []) hd hz hb hzb hzl hx hy hs hs Mono.refl rfl hnx hw hw (fun w hw => hsrc w0 F w hw) hak hal hag hkn (by omega) (fun w hw => by simp [Builtin.firstCells, cvL]) rfl (by simp) (by simp)
      simp only [List.nil_append, Nat.zero_add] at r2 r3 r4 r5 r6
      exact ⟨ρ', w', r1, r2, r3, r4, r5, .inl r6⟩
end
end Go.Proofs.O

/-
  Append's two forms; copy; clear; cap.
-/
set_option linter.unusedVariables false
set_option linter.unusedSimpArgs false
namespace Go.Proofs.O
open Go Go.Proofs.E

section
variable {c : Tab} {ρ : Env} {s : St} {f : Fm} {x y z : Operand} {t u : TypeId}
theorem appG_ok {el : TypeId} {k : Nat} {v : V} {Y : Value} {add : List (List V)} (hd : c.desc t = some (.slice el)) (hz : 0 < c.size el) (hb : bytesOk c el = true) (hzb : isBad (c.zero el) = false) (hzl : (cel (c.zero el)).length = c.size el)
    (hx : ev (fv ρ f) x = cv ρ v) (g : Gd ρ s.nx v) (hy : ev (fv ρ f) y = Y) (hs : SOk ρ s) (hsrc : ∀ w0 F w, Mem w0 (hitem ρ s.hp :: F) w → Src c el u Y k w (cvL ρ add.flatten).toArray ∧ (k ≠ 0 → add.length = k) ∧ (∀ r ∈ add, r.length = c.size el) ∧ (∀ r ∈ add, GdL ρ s.nx r) ∧ (k = 0 → add.flatten = [])) :
    Nok c ρ s (ev (fv ρ f)) (.call { callee := .builtin .append, args := [x, y].toArray, argTypes := [t, u].toArray }) (appG el (c.size el) k v add s) := by
  unfold appG; rw [brec]
  split
  · rename_i hq
    obtain ⟨q1, q2⟩ := band_t.1 hq
    have q2 : lenX v + k ≤ 1000000 := ble_t.1 q2
    refine nok_world fun w0 F w hw => ?_
    obtain ⟨_, a1, a2, a3, a4⟩ := hsrc w0 F w hw
    exact appX_ok hd hz hb hzb hzl hx g hy hs (fun w0 F w hw => (hsrc w0 F w hw).1) a1 a2 a3 q1 q2 a4
  · exact trivial
theorem srcN_len {v : V} {m : Nat} (h : srcN v = .n m) : v = .nsl → m = 0 := by
  rintro rfl
  have h2 : ON.n 0 = .n m := h
  injection h2 with h2
  exact h2.symm
theorem k_appK {el : TypeId} {d : TypeDesc} (hd : c.desc t = some (.slice el)) (hu : c.desc u = some d) (hi : ∀ q, d ≠ .int q) (hz : 0 < c.size el) (hb : bytesOk c el = true) (hzb : isBad (c.zero el) = false) (hzl : (cel (c.zero el)).length = c.size el) (hs : SOk ρ s) (hf : FOk ρ s.nx f) :
    Nok c ρ s (ev (fv ρ f)) (.call { callee := .builtin .append, args := [x, y].toArray, argTypes := [t, u].toArray }) (appK el (c.size el) ((opd x).g f) ((opd y).g f) s) := by
  unfold appK
  cases hn : srcN ((opd y).g f) with
  | no => exact trivial
  | n k =>
    show Nok c ρ s _ _ (OR.rec (motive := fun _ => Nx) (.er 66) (fun add => appG el (c.size el) k ((opd x).g f) add s) (srcR (c.size el) ((opd y).g f) k s))
    cases hr : srcR (c.size el) ((opd y).g f) k s with
    | no => exact trivial
    | r add =>
      show Nok c ρ s _ _ (appG el (c.size el) k ((opd x).g f) add s)
      rcases opd_ok hf y with e | ⟨hy, gy⟩
      · rw [e] at hn; exact ON.noConfusion hn
      rcases opd_ok hf x with e | ⟨hx, gx⟩
      · rw [e]
        unfold appG; rw [brec]
        split <;> exact trivial
      refine appG_ok hd hz hb hzb hzl hx gx hy hs fun w0 F w hw => ?_
      obtain ⟨a1, a2, a3, a4, a5, a6⟩ := src_ok (c := c) hs hw hn hr gy (Nat.le_refl _) (srcN_len hn)
      refine ⟨⟨.inl ⟨d, (desc_ok hu).1, hi, a5, a6⟩⟩, fun hk => a2 fun e => hk (srcN_len hn e), a1, a4, fun hk => ?_⟩
      by_cases he : (opd y).g f = .nsl
      · rw [a3 he]; rfl
      · have := a2 he
        rw [hk] at this
        rw [List.eq_nil_of_length_eq_zero this]; rfl
theorem k_appZ {el : TypeId} {q : IntKind} (hd : c.desc t = some (.slice el)) (hu : c.desc u = some (.int q)) (hz : 0 < c.size el) (hb : bytesOk c el = true) (hzb : isBad (c.zero el) = false) (hzl : (cel (c.zero el)).length = c.size el) (hs : SOk ρ s) (hf : FOk ρ s.nx f) :
    Nok c ρ s (ev (fv ρ f)) (.call { callee := .builtin .append, args := [x, y].toArray, argTypes := [t, u].toArray }) (appZ el (c.size el) (cel (c.zero el)) ((opd x).g f) ((opd y).g f) s) := by
  unfold appZ
  cases hn : asN ((opd y).g f) with
  | no => exact trivial
  | n k =>
    show Nok c ρ s _ _ (Bool.rec (motive := fun _ => Nx) (.er 67) (appG el (c.size el) k ((opd x).g f) (rpl (cel (c.zero el)) k) s) (Nat.ble k 1000000))
    rw [brec]
    split
    · rename_i hk
      rcases opd_ok hf y with e | ⟨hy, gy⟩
      · rw [e] at hn; exact ON.noConfusion hn
      rcases opd_ok hf x with e | ⟨hx, gx⟩
      · rw [e]
        unfold appG; rw [brec]
        split <;> exact trivial
      obtain ⟨q2, e⟩ := asN_ok hn
      rw [e] at hy
      simp only [cv] at hy
      obtain ⟨hzr, hzg, hi⟩ := run_zero (ρ := ρ) (n := s.nx) hzb
      rw [rpl_eq]
      refine appG_ok hd hz hb hzb hzl hx gx hy hs fun w0 F w hw => ⟨⟨.inr ⟨q, q2, _, (desc_ok hu).1, rfl, hzr, ?_, by rw [cv_cells]; simpa using hzl⟩⟩, fun _ => by simp, fun r hr => by rw [(List.mem_replicate.1 hr).2]; exact hzl, fun r hr => by rw [(List.mem_replicate.1 hr).2]; exact gd_cel hzg, fun hk => by subst hk; rfl⟩
      have h6 : (cv ρ (c.zero el)).cells = (cvL ρ (cel (c.zero el))).toArray := by rw [cv_cells, cvL_eq]
      have hlz : (cvL ρ (cel (c.zero el))).length = c.size el := by rw [cvL_eq]; simpa using hzl
      have h9 := zero_rows (cvL ρ (cel (c.zero el))) (by omega) k
      unfold Builtin.zeroCells
      rw [h6]
      have e1 : (cvL ρ (cel (c.zero el))).toArray.size = (cvL ρ (cel (c.zero el))).length := by simp
      rw [e1] at h9 ⊢
      rw [h9, cvL_eq, cvL_eq, List.map_flatten, List.map_replicate]
    · exact trivial

/-! cap -/
theorem k_cap {el : TypeId} {r : List TypeId} (hd : c.desc t = some (.slice el)) (hz : 0 < c.size el) (hs : SOk ρ s) (hf : FOk ρ s.nx f) : Nok c ρ s (ev (fv ρ f)) (.call { callee := .builtin .cap, args := [x].toArray, argTypes := (t :: r).toArray }) (capK (c.size el) ((opd x).g f) s) := c1 (k := fun v => capK (c.size el) v s) hf ⟨_, rfl⟩ fun v h g => by
  cases v <;> try exact trivial
  · rename_i id off n cap
    cases cap with
    | some cp =>
      refine nok_v (x := .i .i64 (.ofNat cp)) trivial fun w => run_blt fun ty cs => ?_
      simp only [cv] at h
      simp [builtin, Builtin.cap_, h, run_und (desc_ok hd).1, Result.andThen, cv, goInt]
    | none =>
      show Nok c ρ s _ _ (capX (c.size el) id off (asBC (blk s id)))
      cases hb : asBC (blk s id) with
      | no => exact trivial
      | c tb z ex rows =>
        obtain ⟨st, hst⟩ := asBC_ok hb
        have hst : hget s.hp id = .bk st (.c tb z ex rows) := hst
        show Nok c ρ s _ _ (Bool.rec (motive := fun _ => Nx) (.er 76) (.rv (.i .i64 (.ofNat (Nat.sub (len rows) (Nat.div off (c.size el))))) id) (band ex (Nat.beq z (c.size el))))
        rw [brec]
        split
        · rename_i hq
          obtain ⟨q1, q2⟩ := band_t.1 hq
          have q2 : z = c.size el := beq_t.1 q2
          subst q2
          subst q1
          intro w0 F w hw
          obtain ⟨b1, b2, b3, pre, post, b4, b5, b6, b7⟩ := m_br hw hst
          have hp0 := b7 rfl
          subst hp0
          have hce : ρ.ce id = rows.length := by
            simp only [List.length_nil, Nat.add_zero] at b6
            exact (Nat.eq_of_mul_eq_mul_right b2 b6).symm
          refine ⟨trivial, run_blt fun ty cs => ?_⟩
          simp only [cv] at h
          rw [b1, hce] at h
          rw [len_eq]
          simp [builtin, Builtin.cap_, h, run_und (desc_ok hd).1, Result.andThen, cv, goInt]
          rfl
        · exact trivial
  · refine nok_v (x := .i .i64 (.ofNat 0)) trivial fun w => run_blt fun ty cs => ?_
    simp only [cv] at h
    simp [builtin, Builtin.cap_, h, run_und (desc_ok hd).1, Result.andThen, cv, goInt]
/-! copy and clear: rows over rows -/
theorem nmin_eq (a b : Nat) : nmin a b = Nat.min a b := by
  unfold nmin; rw [brec]
  show (if Nat.ble a b = true then a else b) = min a b
  by_cases h : a ≤ b
  · rw [if_pos (ble_t.2 h)]; omega
  · rw [if_neg (fun e => h (ble_t.1 e))]; omega
theorem overB_ok {id off n sz : Nat} {src : List (List V)} {r : Nx} (hs : SOk ρ s) (hsrc : ∀ q ∈ src, q.length = sz) (hn : src.length = n) (hg : ∀ q ∈ src, GdL ρ s.nx q) (h : cpyB s id off n sz src (asBC (blk s id)) = r) : (∃ e, r = .er e) ∨
    ∃ st tb ex rows, r = .sv (.i .i64 (.ofNat n)) (upd s id (.c tb sz ex (over rows (off / sz) src))) ∧ hget s.hp id = .bk st (.c tb sz ex rows) ∧ ∀ w0 F w, Mem w0 (hitem ρ s.hp :: F) w → ∃ w', (storeCells ⟨ρ.ad id, ρ.ba id + off, none⟩ (cvL ρ src.flatten)).run c.P w = .ok () w' ∧ Mem w0 (hitem ρ (upd s id (.c tb sz ex (over rows (off / sz) src))).hp :: F) w' ∧
      SOk ρ (upd s id (.c tb sz ex (over rows (off / sz) src))) ∧ Mono s (upd s id (.c tb sz ex (over rows (off / sz) src))) := by
  cases hb : asBC (blk s id) with
  | no => rw [hb] at h; exact .inl ⟨_, h.symm⟩
  | c tb z ex rows =>
    rw [hb] at h
    obtain ⟨st, hst⟩ := asBC_ok hb
    have hst : hget s.hp id = .bk st (.c tb z ex rows) := hst
    have h2 : (Bool.rec (motive := fun _ => Nx) (.er 69) (.sv (.i .i64 (.ofNat n)) (upd s id (.c tb z ex (over rows (Nat.div off sz) src)))) (band (oneR src) (band (Nat.beq (Nat.mod off sz) 0) (band (Nat.beq z sz) (Nat.ble (Nat.add (Nat.div off sz) n) (len rows)))))) = r := h
    rw [brec] at h2
    split at h2
    · rename_i hq
      obtain ⟨q1, hq⟩ := band_t.1 hq
      obtain ⟨q2, hq⟩ := band_t.1 hq
      obtain ⟨q3, q4⟩ := band_t.1 hq
      have q2 : off % sz = 0 := beq_t.1 q2
      have q3 := beq_t.1 q3
      have q4 : off / sz + n ≤ len rows := ble_t.1 q4
      rw [len_eq] at q4
      subst q3
      refine .inr ⟨st, tb, ex, rows, h2.symm, hst, fun w0 F w hw => ?_⟩
      have hbr := m_br hw hst
      have e0 : off / z * z = off := by have := div_mod_eq off z; omega
      obtain ⟨o1, o2, o3⟩ := over_flat hbr.2.2.1 hsrc (q := off / z) (by rw [hn]; omega)
      have hbg : ∀ r ∈ rows, GdL ρ s.nx r := (hs.bk _ _ _ hst).2.2
      have hlen : src.flatten.length = n * z := by rw [flat_len' _ hsrc, hn]
      obtain ⟨w', hrun, hbr', hos, hout⟩ := br_write (c := c) (off := off) (vs := src.flatten) hbr (by
          rw [hlen, ← e0, ← Nat.add_mul]; exact Nat.mul_le_mul_right _ (by omega)) (oneR_flat q1) (rows' := over rows (off / z) src) (fun r hr => by
          rcases o3 r hr with h | h
          · exact hbr.2.2.1 r h
          · exact hsrc r h) o2 (by rw [o1, e0])
      obtain ⟨hs', hmono⟩ := sok_upd hs hst (k' := .c tb z ex (over rows (off / z) src)) (fun r hr => by
          rcases o3 r hr with h | h
          · exact hbg r h
          · exact hg r h)
      exact ⟨w', hrun, m_set hw (Nat.lt_trans (hs.up _ (hs.bk _ _ _ hst).1) hs.nx) hst hbr' hos hout, hs', hmono⟩
    · exact .inl ⟨_, h2.symm⟩
theorem k_copy {el : TypeId} (hd : c.desc t = some (.slice el)) (hz : 0 < c.size el) (hs : SOk ρ s) (hf : FOk ρ s.nx f) : Nok c ρ s (ev (fv ρ f)) (.call { callee := .builtin .copy, args := [x, y].toArray, argTypes := [t, u].toArray }) (cpyK (c.size el) ((opd x).g f) ((opd y).g f) s) := by
  unfold cpyK
  cases h1 : srcN ((opd x).g f) with
  | no => exact trivial
  | n a =>
    show Nok c ρ s _ _ (ON.rec (motive := fun _ => Nx) (.er 72) (fun b => cpyN s (c.size el) (nmin b a) ((opd x).g f) ((opd y).g f)) (srcN ((opd y).g f)))
    cases h2 : srcN ((opd y).g f) with
    | no => exact trivial
    | n b =>
      show Nok c ρ s _ _ (OR.rec (motive := fun _ => Nx) (.er 70) (fun src => OS.rec (motive := fun _ => Nx) (.er 71) (.v (.i .i64 (.ofNat 0))) (fun id off _ _ => cpyB s id off (nmin b a) (c.size el) src (asBC (blk s id))) (fun _ => .er 71) (asS ((opd x).g f))) (srcR (c.size el) ((opd y).g f) (nmin b a) s))
      cases hr : srcR (c.size el) ((opd y).g f) (nmin b a) s with
      | no => exact trivial
      | r src =>
        rcases opd_ok hf y with e | ⟨hy, gy⟩
        · rw [e] at h2; exact ON.noConfusion h2
        rcases opd_ok hf x with e | ⟨hx, gx⟩
        · rw [e] at h1; exact ON.noConfusion h1
        refine nok_world fun w0 F w hw => ?_
        have hmin : nmin b a ≤ b := by rw [nmin_eq]; exact Nat.min_le_left _ _
        obtain ⟨a1, a2, a3, a4, a5, _⟩ := src_ok (c := c) hs hw h2 hr gy hmin (fun e => by have := srcN_len h2 e; omega)
        have hlen : src.length = nmin b a := by
          by_cases he : (opd y).g f = .nsl
          · have := srcN_len h2 he
            rw [a3 he, nmin_eq, this]; simp
          · exact a2 he
        show Nok c ρ s _ _ (OS.rec (motive := fun _ => Nx) (.er 71) (.v (.i .i64 (.ofNat 0))) (fun id off _ _ => cpyB s id off (nmin b a) (c.size el) src (asBC (blk s id))) (fun _ => .er 71) (asS ((opd x).g f)))
        generalize (opd x).g f = v at h1 hx gx ⊢
        cases v <;> try exact trivial
        · rename_i id off l cap
          have h1' : ON.n l = .n a := h1
          injection h1' with h1'
          subst h1'
          rcases overB_ok (c := c) (ρ := ρ) hs a1 hlen a4 (r := cpyB s id off (nmin b l) (c.size el) src (asBC (blk s id))) rfl with ⟨e, he⟩ | ⟨st, tb, ex, rows, he, hst, hk⟩
          · show Nok c ρ s _ _ (cpyB s id off (nmin b l) (c.size el) src (asBC (blk s id)))
            rw [he]; exact trivial
          · show Nok c ρ s _ _ (cpyB s id off (nmin b l) (c.size el) src (asBC (blk s id)))
            rw [he]
            intro hnx w0 F w hw
            obtain ⟨w', hst2, hm, hs', hmono⟩ := hk w0 F w hw
            obtain ⟨_, _, _, _, b5, b6⟩ := src_ok (c := c) hs hw h2 hr gy hmin (fun e => by have := srcN_len h2 e; omega)
            refine ⟨ρ, w', Exn.refl, hs', hmono, trivial, hm, .inl (run_blt fun ty cs => ?_)⟩
            have hxx : ∃ q, ev (fv ρ f) x = .slice (some ⟨ρ.ad id, ρ.ba id + off, none⟩) l q := by cases cap <;> exact ⟨_, by rw [hx, cv]⟩
            obtain ⟨q, hxx⟩ := hxx
            have hmin2 : Nat.min b l = nmin b l := (nmin_eq b l).symm
            simp only [builtin, Builtin.copy_, List.map_cons, List.map_nil, List.getElem?_toArray, List.getElem?_cons_zero, List.getElem?_cons_succ, Sem.run_bind, run_und (desc_ok hd).1, Result.andThen_ok, hxx, hy, b5, run_size (size_info hz), hmin2, b6, hst2, Sem.run_pure]
            rfl
        · have h1' : ON.n 0 = .n a := h1
          injection h1' with h1'
          subst h1'
          intro w0 F w hw
          obtain ⟨_, _, _, _, b5, b6⟩ := src_ok (c := c) hs hw h2 hr gy hmin (fun e => by have := srcN_len h2 e; omega)
          refine ⟨trivial, run_blt fun ty cs => ?_⟩
          simp only [cv] at hx
          have hmin2 : Nat.min b 0 = nmin b 0 := (nmin_eq b 0).symm
          have h0 : nmin b 0 = 0 := by rw [nmin_eq]; exact Nat.min_zero b
          rw [h0] at b6 hmin2
          simp only [builtin, Builtin.copy_, List.map_cons, List.map_nil, List.getElem?_toArray, List.getElem?_cons_zero, List.getElem?_cons_succ, Sem.run_bind, run_und (desc_ok hd).1, Result.andThen_ok, hx, hy, b5, run_size (size_info hz), hmin2, b6, Sem.run_pure]
          rfl
theorem k_clear {el : TypeId} {r : List TypeId} (hd : c.desc t = some (.slice el)) (hz : 0 < c.size el) (hzb : isBad (c.zero el) = false) (hzl : (cel (c.zero el)).length = c.size el) (hs : SOk ρ s) (hf : FOk ρ s.nx f) :
    Nok c ρ s (ev (fv ρ f)) (.call { callee := .builtin .clear, args := [x].toArray, argTypes := (t :: r).toArray }) (clrK (c.size el) (cel (c.zero el)) ((opd x).g f) s) := c1 (k := fun v => clrK (c.size el) (cel (c.zero el)) v s) hf ⟨_, rfl⟩ fun v h g => by
  obtain ⟨hzr, hzg, hi⟩ := run_zero (ρ := ρ) (n := s.nx) hzb
  cases v <;> try exact trivial
  · rename_i id off n cap
    show Nok c ρ s _ _ (Nx.rec (motive := fun _ => Nx) (fun _ => .er 190) (fun _ _ => .er 190) (fun _ _ => .er 190) (fun _ s => .sv und s) (fun _ _ => .er 190) .er (cpyB s id off n (c.size el) (rpl (cel (c.zero el)) n) (asBC (blk s id))))
    rw [rpl_eq]
    have a1 : ∀ q ∈ List.replicate n (cel (c.zero el)), q.length = c.size el := fun q hq => by rw [(List.mem_replicate.1 hq).2]; exact hzl
    rcases overB_ok (c := c) (ρ := ρ) hs a1 (by simp) (fun q hq => by rw [(List.mem_replicate.1 hq).2]; exact gd_cel hzg) (r := cpyB s id off n (c.size el) (List.replicate n (cel (c.zero el))) (asBC (blk s id))) rfl with ⟨e, he⟩ | ⟨st, tb, ex, rows, he, hst, hk⟩
    · rw [he]; exact trivial
    · rw [he]
      show s.nx < 1000000 → _
      intro hnx w0 F w hw
      obtain ⟨w', hst2, hm, hs', hmono⟩ := hk w0 F w hw
      refine ⟨ρ, w', Exn.refl, hs', hmono, gd_und, hm, .inl (run_blt fun ty cs => ?_)⟩
      have hxx : ∃ q, ev (fv ρ f) x = .slice (some ⟨ρ.ad id, ρ.ba id + off, none⟩) n q := by cases cap <;> exact ⟨_, by rw [h, cv]⟩
      obtain ⟨q, hxx⟩ := hxx
      have h6 : (cv ρ (c.zero el)).cells = (cvL ρ (cel (c.zero el))).toArray := by rw [cv_cells, cvL_eq]
      have hlz : (cvL ρ (cel (c.zero el))).length = c.size el := by rw [cvL_eq]; simpa using hzl
      have h9 : (Builtin.zeroCells (cv ρ (c.zero el)).cells n).toList = cvL ρ (List.replicate n (cel (c.zero el))).flatten := by
        have h9 := zero_rows (cvL ρ (cel (c.zero el))) (by omega) n
        unfold Builtin.zeroCells
        rw [h6]
        have e1 : (cvL ρ (cel (c.zero el))).toArray.size = (cvL ρ (cel (c.zero el))).length := by simp
        rw [e1] at h9 ⊢
        rw [h9, cvL_eq, cvL_eq, List.map_flatten, List.map_replicate]
      rw [cv_und]
      have hcl : (Builtin.clear_ (t :: r).toArray ty #[.slice (some ⟨ρ.ad id, ρ.ba id + off, none⟩) n q]).run c.P w = .ok (.tuple #[]) w' := by
        cases n with
        | zero =>
          simp only [List.replicate_zero, List.flatten_nil, cvL, storeCells, Sem.run_pure] at hst2
          injection hst2 with _ hst2
          subst hst2
          simp [Builtin.clear_, run_und (desc_ok hd).1, Result.andThen]
        | succ n =>
          simp [Builtin.clear_, run_und (desc_ok hd).1, hzr, h9, hst2, Result.andThen]
      simp [builtin, hxx, undef, hcl, Result.andThen]
  · show s.nx < 1000000 → _
    intro hnx w0 F w hw
    refine ⟨ρ, w, Exn.refl, hs, Mono.refl, gd_und, hw, .inl (run_blt fun ty cs => ?_)⟩
    simp only [cv] at h
    rw [cv_und]
    simp [builtin, Builtin.clear_, h, run_und (desc_ok hd).1, Result.andThen, undef]
end
end Go.Proofs.O

/-
  Maps.
-/
set_option linter.unusedVariables false
set_option linter.unusedSimpArgs false
namespace Go.Proofs.O
open Go Go.Proofs.E

section
variable {c : Tab} {ρ : Env} {s : St} {f : Fm} {x y z : Operand} {t u : TypeId}
/-- keys that are matched -/
theorem eqKy_ok {p : Kp} {k e : V} {b : Bool} (h : eqKy p k e = .b b) : agA e = p.ag ∧ eqL p.ks (cel k) (cel e) = .b b := by
  unfold eqKy at h; rw [brec] at h
  split at h
  · rename_i hq
    rw [eqB_t] at hq
    exact ⟨(by simpa using hq : p.ag = agA e).symm, h⟩
  · cases h
theorem agA_ok {v : V} {b : Bool} (h : agA v = b) : (b = true → ∃ cs, v = .a cs) ∧ (b = false → ∀ cs, v ≠ .a cs) := by
  cases v <;> simp [agA, asA] at h <;> subst h <;> simp
theorem eqV_eq : ∀ {ks : List Nat} {xs ys : List Value}, (∀ k ∈ ks, k < 2) → EqV ks xs ys true → xs = ys
  | [], [], [], _, _ => rfl
  | [], [], _ :: _, _, h => h.elim
  | [], _ :: _, ys, _, h => by cases ys <;> exact h.elim
  | k :: ks, [], ys, _, h => h.elim
  | k :: ks, x :: xs, [], _, h => h.elim
  | k :: ks, x :: xs, y :: ys, hk, h => by
    obtain ⟨a, b, h1, h2, h3⟩ := h
    have ha : a = true := by cases a <;> cases b <;> first | rfl | cases h3
    have hb : b = true := by cases a <;> cases b <;> first | rfl | cases h3
    subst ha; subst hb
    rw [eqV_eq (fun k hm => hk k (List.mem_cons_of_mem _ hm)) h2]
    congr 1
    have hk2 := hk k (List.mem_cons_self ..)
    match k, h1, hk2 with
    | 0, h1, _ =>
      obtain ⟨k, m, n, rfl, rfl, e⟩ := h1
      have : m = n := by simpa using e.symm
      rw [this]
    | 1, h1, _ =>
      obtain ⟨m, n, rfl, rfl, e⟩ := h1
      have : m = n := by simpa using e.symm
      rw [this]
theorem eqV_is : ∀ {ks : List Nat} {xs ys : List Value} {b : Bool}, EqV ks xs ys b → xs.length = ks.length ∧ ∀ (j k : Nat) (x : Value), ks[j]? = some k → xs[j]? = some x → CellIs k x
  | [], [], [], _, _ => ⟨rfl, by simp⟩
  | [], [], _ :: _, _, h => h.elim
  | [], _ :: _, ys, _, h => by cases ys <;> exact h.elim
  | k :: ks, [], ys, _, h => h.elim
  | k :: ks, x :: xs, [], _, h => h.elim
  | k :: ks, x :: xs, y :: ys, b, h => by
    obtain ⟨a, b, h1, h2, h3⟩ := h
    obtain ⟨g1, g2⟩ := eqV_is h2
    refine ⟨by simp [g1], fun j k' x' hj hx => ?_⟩
    cases j with
    | zero =>
      simp only [List.getElem?_cons_zero, Option.some.injEq] at hj hx
      subst hj; subst hx
      match k, h1 with
      | 0, h1 => obtain ⟨k, m, n, rfl, rfl, e⟩ := h1; exact ⟨_, _, rfl⟩
      | 1, h1 => obtain ⟨m, n, rfl, rfl, e⟩ := h1; exact ⟨_, rfl⟩
      | k + 2, h1 => obtain ⟨m, n, rfl, rfl, e⟩ := h1; exact ⟨_, rfl⟩
    | succ j => exact g2 j k' x' (by simpa using hj) (by simpa using hx)
/-- what is known of a type of keys -/
structure KeyOk (c : Tab) (kt : TypeId) (p : Kp) : Prop where
  chk : ∀ (ρ : Env) (k e : V) b em w, agA k = p.ag → eqL p.ks (cel k) (cel e) = .b b → (Instr.checkKey em 10000 kt (cv ρ k)).run c.P w = .ok () w
  fnd : ∀ (ρ : Env) (k : V), agA k = p.ag → ((∀ e : V, ∀ b, eqKy p k e = .b b → ∃ d, c.P.underlying kt = some d ∧ Instr.sameNow d (cv ρ k) (cv ρ e) = some b) ∨ (∀ e : V, ∀ b, eqKy p k e = .b b → (∃ d, c.P.underlying kt = some d ∧ Instr.sameNow d (cv ρ k) (cv ρ e) = none) ∧ ∀ w, (Op.equal kt (cv ρ k) (cv ρ e)).run c.P w = .ok b w))
  und : ∃ d, c.P.underlying kt = some d
  small : ∀ k ∈ p.ks, k < 2
theorem cv_agg {v : V} (h : agA v = true) : cv ρ v = .agg (cvL ρ (cel v)).toArray := by
  obtain ⟨cs, rfl⟩ := (agA_ok h).1 rfl
  simp [cv, cel_eq]
theorem cv_one {v : V} (h : agA v = false) : cel v = [v] := by
  cases v <;> first | rfl | (exact absurd rfl ((agA_ok h).2 rfl _))
theorem keyT_ok {kt : TypeId} {p : Kp} (hT : TabOk c) (h : keyT c kt = some p) : KeyOk c kt p := by
  unfold keyT at h
  split at h
  · rename_i q hd
    cases h
    have hu := (desc_ok hd).1
    have hint : ∀ (k e : V) b, agA k = false → agA e = false → eqL [0] (cel k) (cel e) = .b b → ∃ q m n, k = .i q m ∧ e = .i q n ∧ b = decide (m = n) := fun k e b hk he h => by
      rw [cv_one hk, cv_one he] at h
      have h2 : eqK (eqL []) (eqC 0 k e) [] [] = .b b := h
      cases hc : eqC 0 k e with
      | no => rw [hc] at h2; cases h2
      | b r =>
        rw [hc] at h2
        have h3 : O3.b (band r true) = .b b := h2
        injection h3 with h3
        obtain ⟨q, m, n, e1, e2, e3⟩ := eqI_ok (ρ := ⟨id, id, id, id, fun _ => True⟩) (hc : eqI k e = .b r)
        exact ⟨q, m, n, e1, e2, by rw [← h3, ← e3]; cases r <;> rfl⟩
    refine ⟨fun ρ k e b em w hk h => ?_, fun ρ k hk => .inl fun e b h => ?_, ⟨_, hu⟩, by simp⟩
    · rw [show (10000 : Nat) = 9999 + 1 from rfl, Instr.checkKey]
      simp [run_und hu, Result.andThen]
    · obtain ⟨h1, h2⟩ := eqKy_ok h
      obtain ⟨q', m, n, rfl, rfl, e3⟩ := hint k e b hk h1 h2
      refine ⟨_, hu, ?_⟩
      simp only [cv, Instr.sameNow, if_true, e3]
      congr 1
  · rename_i fs hd
    split at h
    · rename_i ks hp
      cases hall : ks.all (fun k => Nat.blt k 2) with
      | false => rw [hall] at h; cases h
      | true =>
      rw [hall] at h
      cases h
      have hsm : ∀ k ∈ ks, k < 2 := fun k hk => blt_t.1 (List.all_eq_true.1 hall k hk)
      obtain ⟨g1, g2, g3⟩ := hT kt ks hp
      have hu := (desc_ok hd).1
      refine ⟨fun ρ k e b em w hk h => ?_, fun ρ k hk => .inr fun e b h => ?_, ⟨_, hu⟩, hsm⟩
      · rw [cv_agg hk]
        obtain ⟨q1, q2⟩ := eqV_is (eqL_ok ρ h)
        exact g3 _ q1 q2 em w
      · obtain ⟨h1, h2⟩ := eqKy_ok h
        rw [cv_agg hk, cv_agg h1]
        exact ⟨⟨_, hu, rfl⟩, g2 _ _ _ (eqL_ok ρ h2)⟩
    · cases h
  · rename_i n el hd
    split at h
    · rename_i ks hp
      cases hall : ks.all (fun k => Nat.blt k 2) with
      | false => rw [hall] at h; cases h
      | true =>
      rw [hall] at h
      cases h
      have hsm : ∀ k ∈ ks, k < 2 := fun k hk => blt_t.1 (List.all_eq_true.1 hall k hk)
      obtain ⟨g1, g2, g3⟩ := hT kt ks hp
      have hu := (desc_ok hd).1
      refine ⟨fun ρ k e b em w hk h => ?_, fun ρ k hk => .inr fun e b h => ?_, ⟨_, hu⟩, hsm⟩
      · rw [cv_agg hk]
        obtain ⟨q1, q2⟩ := eqV_is (eqL_ok ρ h)
        exact g3 _ q1 q2 em w
      · obtain ⟨h1, h2⟩ := eqKy_ok h
        rw [cv_agg hk, cv_agg h1]
        exact ⟨⟨_, hu, rfl⟩, g2 _ _ _ (eqL_ok ρ h2)⟩
    · cases h
  · cases h
end
end Go.Proofs.O

/-
  Maps: look-up and entries.
-/
set_option linter.unusedVariables false
set_option linter.unusedSimpArgs false
namespace Go.Proofs.O
open Go Go.Proofs.E

section
variable {c : Tab} {ρ : Env} {s : St} {f : Fm} {x y z : Operand} {t u : TypeId}
theorem findE_cons (p : Kp) (k : V) (e : V × V × Nat) (es : Es) : findE p k (e :: es) = O3.rec (motive := fun _ => OV) .no (fun b => Bool.rec (motive := fun _ => OV) (findE p k es) (.v e.2.1 e.2.2) b) (eqKy p k e.1) := rfl
theorem findE_none {p : Kp} {k : V} : ∀ {es : Es}, findE p k es = .none → ∀ e ∈ es, eqKy p k e.1 = .b false
  | [], _, e, he => by cases he
  | a :: es, h, e, he => by
    rw [findE_cons] at h
    cases hq : eqKy p k a.1 with
    | no => rw [hq] at h; cases h
    | b b =>
      rw [hq] at h
      cases b with
      | true => cases h
      | false =>
        rcases List.mem_cons.1 he with rfl | he
        · exact hq
        · exact findE_none (h : findE p k es = .none) e he
theorem findE_some {p : Kp} {k x : V} {n : Nat} : ∀ {es : Es}, findE p k es = .v x n → ∃ (i : Nat) (e : V × V × Nat), es[i]? = some e ∧ e.2.1 = x ∧ e.2.2 = n ∧ eqKy p k e.1 = .b true ∧ ∀ (j : Nat), j < i → ∀ (a : V × V × Nat), es[j]? = some a → eqKy p k a.1 = .b false
  | [], h => by cases h
  | a :: es, h => by
    rw [findE_cons] at h
    cases hq : eqKy p k a.1 with
    | no => rw [hq] at h; cases h
    | b b =>
      rw [hq] at h
      cases b with
      | true =>
        have h2 : OV.v a.2.1 a.2.2 = .v x n := h
        injection h2 with h2 h3
        exact ⟨0, a, rfl, h2, h3, hq, fun j hj => by omega⟩
      | false =>
        obtain ⟨i, e, h1, h2, h3, h4, h5⟩ := findE_some (h : findE p k es = .v x n)
        refine ⟨i + 1, e, by simpa using h1, h2, h3, h4, fun j hj b hb => ?_⟩
        cases j with
        | zero => simp only [List.getElem?_cons_zero, Option.some.injEq] at hb; subst hb; exact hq
        | succ j => exact h5 j (by omega) b (by simpa using hb)
/-- what the model's search yields -/
def FndIs (ρ : Env) (es : Es) : OV → Option (Nat × Value) → Prop
  | .no, _ => False
  | .none, r => r = none
  | .v x n, r => ∃ (i : Nat) (e : V × V × Nat), es[i]? = some e ∧ e.2.1 = x ∧ e.2.2 = n ∧ r = some (i, cv ρ x)
theorem findNow_ok {p : Kp} {k : V} {d : TypeDesc} (h : ∀ e : V, ∀ b, eqKy p k e = .b b → Instr.sameNow d (cv ρ k) (cv ρ e) = some b) : ∀ (es : Es) (i0 : Nat), (findE p k es = .none → Instr.findNow d (cv ρ k) (es.map (entV ρ)) i0 = some none) ∧
    (∀ x n, findE p k es = .v x n → ∃ (i : Nat) (e : V × V × Nat), es[i]? = some e ∧ e.2.1 = x ∧ e.2.2 = n ∧ eqKy p k e.1 = .b true ∧ (∀ (j : Nat), j < i → ∀ (a : V × V × Nat), es[j]? = some a → eqKy p k a.1 = .b false) ∧ Instr.findNow d (cv ρ k) (es.map (entV ρ)) i0 = some (some (i0 + i, cv ρ x)))
  | [], i0 => ⟨fun _ => rfl, fun x n h => by cases h⟩
  | a :: es, i0 => by
    rw [findE_cons]
    cases hq : eqKy p k a.1 with
    | no => exact ⟨(fun h => by cases h), (fun x n h => by cases h)⟩
    | b b =>
      have hs := h a.1 b hq
      obtain ⟨g1, g2⟩ := findNow_ok h es (i0 + 1)
      cases b with
      | true =>
        refine ⟨(fun h => by cases h), fun x n h2 => ?_⟩
        have h2 : OV.v a.2.1 a.2.2 = .v x n := h2
        injection h2 with h2 h3
        exact ⟨0, a, rfl, h2, h3, hq, (fun j hj => by omega), by simp [Instr.findNow, entV, hs, h2]⟩
      | false =>
        refine ⟨fun h2 => ?_, fun x n h2 => ?_⟩
        · have := g1 h2
          simp only [List.map_cons, Instr.findNow, entV, hs]
          exact this
        · obtain ⟨i, e, h1, h3, h4, h5, h6, h7⟩ := g2 x n h2
          refine ⟨i + 1, e, by simpa using h1, h3, h4, h5, fun j hj b hb => ?_, ?_⟩
          · cases j with
            | zero => simp only [List.getElem?_cons_zero, Option.some.injEq] at hb; subst hb; exact hq
            | succ j => exact h6 j (by omega) b (by simpa using hb)
          · simp only [List.map_cons, Instr.findNow, entV, hs]
            have : i0 + (i + 1) = i0 + 1 + i := by omega
            rw [this]
            exact h7
theorem findAsk_ok {kt : TypeId} {p : Kp} {k : V} (h : ∀ e : V, ∀ b, eqKy p k e = .b b → ∀ w, (Op.equal kt (cv ρ k) (cv ρ e)).run c.P w = .ok b w) : ∀ (es : Es) (i0 : Nat) (w : World), (findE p k es = .none → (Instr.findAsking kt (cv ρ k) (es.map (entV ρ)) i0).run c.P w = .ok none w) ∧
    (∀ x n, findE p k es = .v x n → ∃ (i : Nat) (e : V × V × Nat), es[i]? = some e ∧ e.2.1 = x ∧ e.2.2 = n ∧ eqKy p k e.1 = .b true ∧ (∀ (j : Nat), j < i → ∀ (a : V × V × Nat), es[j]? = some a → eqKy p k a.1 = .b false) ∧ (Instr.findAsking kt (cv ρ k) (es.map (entV ρ)) i0).run c.P w = .ok (some (i0 + i, cv ρ x)) w)
  | [], i0, w => ⟨fun _ => rfl, fun x n h => by cases h⟩
  | a :: es, i0, w => by
    rw [findE_cons]
    cases hq : eqKy p k a.1 with
    | no => exact ⟨(fun h => by cases h), (fun x n h => by cases h)⟩
    | b b =>
      have hs := h a.1 b hq w
      obtain ⟨g1, g2⟩ := findAsk_ok h es (i0 + 1) w
      cases b with
      | true =>
        refine ⟨(fun h => by cases h), fun x n h2 => ?_⟩
        have h2 : OV.v a.2.1 a.2.2 = .v x n := h2
        injection h2 with h2 h3
        exact ⟨0, a, rfl, h2, h3, hq, (fun j hj => by omega), by simp [Instr.findAsking, entV, hs, h2, Result.andThen]⟩
      | false =>
        refine ⟨fun h2 => ?_, fun x n h2 => ?_⟩
        · have := g1 h2
          simpa [List.map_cons, Instr.findAsking, entV, hs, Result.andThen] using this
        · obtain ⟨i, e, h1, h3, h4, h5, h6, h7⟩ := g2 x n h2
          refine ⟨i + 1, e, by simpa using h1, h3, h4, h5, fun j hj b hb => ?_, ?_⟩
          · cases j with
            | zero => simp only [List.getElem?_cons_zero, Option.some.injEq] at hb; subst hb; exact hq
            | succ j => exact h6 j (by omega) b (by simpa using hb)
          · have : i0 + (i + 1) = i0 + 1 + i := by omega
            rw [this]
            simpa [List.map_cons, Instr.findAsking, entV, hs, Result.andThen] using h7
/-- the search -/
theorem find_ok {kt : TypeId} {p : Kp} {k : V} (hK : KeyOk c kt p) (hk : agA k = p.ag) (es : Es) (w : World) : (findE p k es = .none → (Instr.findKey kt (cv ρ k) (es.map (entV ρ))).run c.P w = .ok none w) ∧
    (∀ x n, findE p k es = .v x n → ∃ (i : Nat) (e : V × V × Nat), es[i]? = some e ∧ e.2.1 = x ∧ e.2.2 = n ∧ eqKy p k e.1 = .b true ∧ (∀ (j : Nat), j < i → ∀ (a : V × V × Nat), es[j]? = some a → eqKy p k a.1 = .b false) ∧ (Instr.findKey kt (cv ρ k) (es.map (entV ρ))).run c.P w = .ok (some (i, cv ρ x)) w) := by
  obtain ⟨d, hu⟩ := hK.und
  rcases hK.fnd ρ k hk with h | h
  · obtain ⟨g1, g2⟩ := findNow_ok (ρ := ρ) (p := p) (k := k) (d := d) (fun e b he => by
      obtain ⟨d', hu', hs⟩ := h e b he
      rw [hu] at hu'; cases hu'; exact hs) es 0
    refine ⟨fun h2 => ?_, fun x n h2 => ?_⟩
    · simp [Instr.findKey, run_und hu, g1 h2, Result.andThen]
    · obtain ⟨i, e, h1, h3, h4, h5, h6, h7⟩ := g2 x n h2
      refine ⟨i, e, h1, h3, h4, h5, h6, ?_⟩
      simp [Instr.findKey, run_und hu, h7, Result.andThen]
  · obtain ⟨g1, g2⟩ := findAsk_ok (c := c) (ρ := ρ) (kt := kt) (p := p) (k := k) (fun e b he => (h e b he).2) es 0 w
    cases es with
    | nil => exact ⟨(fun _ => by simp [Instr.findKey, run_und hu, Instr.findNow, Result.andThen]), (fun x n h => by cases h)⟩
    | cons a es =>
      have hno : (∃ b, eqKy p k a.1 = .b b) → Instr.findNow d (cv ρ k) ((a :: es).map (entV ρ)) 0 = none := fun ⟨b, hb⟩ => by
        obtain ⟨⟨d', hu', hs⟩, _⟩ := h a.1 b hb
        rw [hu] at hu'; cases hu'
        simp [Instr.findNow, entV, hs]
      have hb : ∀ r, findE p k (a :: es) = r → r ≠ .no → ∃ b, eqKy p k a.1 = .b b := fun r hr hn => by
        rw [findE_cons] at hr
        cases hq : eqKy p k a.1 with
        | no => rw [hq] at hr; exact absurd hr.symm hn
        | b b => exact ⟨b, rfl⟩
      refine ⟨fun h2 => ?_, fun x n h2 => ?_⟩
      · have := hno (hb _ h2 (by simp))
        simp only [Instr.findKey, Sem.run_bind, run_und hu, Result.andThen_ok, this]
        exact g1 h2
      · have := hno (hb _ h2 (by simp))
        obtain ⟨i, e, h1, h3, h4, h5, h6, h7⟩ := g2 x n h2
        refine ⟨i, e, h1, h3, h4, h5, h6, ?_⟩
        simp only [Instr.findKey, Sem.run_bind, run_und hu, Result.andThen_ok, this]
        simpa using h7
theorem eqL_bad {ks : List Nat} {b : Bool} (h : eqL ks (cel .bad) (cel .bad) = .b b) : False := by
  cases ks with
  | nil => cases h
  | cons k ks =>
    have hn : eqC k .bad .bad = .no := by
      cases k with
      | zero => rfl
      | succ k => cases k <;> rfl
    have h2 : eqK (eqL ks) (eqC k .bad .bad) [] [] = .b b := h
    rw [hn] at h2
    cases h2
theorem isKey_ok {p : Kp} {k : V} (h : isKey p k = true) : agA k = p.ag ∧ eqL p.ks (cel k) (cel k) = .b true := by
  unfold isKey at h
  cases hq : eqKy p k k with
  | no => rw [hq] at h; cases h
  | b b =>
    rw [hq] at h
    have h2 : b = true := h
    subst h2
    exact eqKy_ok hq
theorem kyK_ok {op : Op} {e : Operand → Value} {p : Kp} {k : V} {r : Nx} (h : isKey p k = true → Nok c ρ s e op r) : Nok c ρ s e op (kyK p k r) := by
  unfold kyK; rw [brec]
  split
  · rename_i hq; exact h hq
  · exact trivial
theorem gd_ent {es : Es} {cl i st id : Nat} {e : V × V × Nat} (hs : SOk ρ s) (hst : hget s.hp id = .bk st (.m es cl)) (h : es[i]? = some e) : Gd ρ s.nx e.1 ∧ Gd ρ s.nx e.2.1 := (hs.bk _ _ _ hst).2.2 e (List.mem_of_getElem? h)
theorem coMap_ok {op : Op} {e : Operand → Value} {k : Kp → TypeId → Co} (hT : TabOk c) (h : ∀ kt el p, c.desc t = some (.map kt el) → KeyOk c kt p → Nok c ρ s e op ((k p el).r f s)) : Nok c ρ s e op ((coMap c t k).r f s) := by
  unfold coMap
  split
  · rename_i kt el hd
    split
    · rename_i p hp
      exact h kt el p hd (keyT_ok hT hp)
    · exact trivial
  · exact trivial
theorem k_look {ok : Bool} (hT : TabOk c) (hs : SOk ρ s) (hf : FOk ρ s.nx f) : Nok c ρ s (ev (fv ρ f)) (.lookup t x y ok) ((cop c (.lookup t x y ok)).r f s) := by
  unfold cop
  refine coMap_ok hT fun kt el p hd hK => ?_
  refine cbif (p := fun z : Co => Nok c ρ s _ _ (z.r f s)) (fun _ => trivial) (fun hzb => ?_)
  obtain ⟨hzr, hzg, hi⟩ := run_zero (ρ := ρ) (n := s.nx) hzb
  show Nok c ρ s _ _ (lokK p ok (c.zero el) ((opd x).g f) ((opd y).g f) s)
  unfold lokK
  refine kyK_ok fun hky => ?_
  obtain ⟨hag, hke⟩ := isKey_ok hky
  rcases opd_ok hf y with e | ⟨hy, gy⟩
  · rw [e] at hke; exact (eqL_bad hke).elim
  rcases opd_ok hf x with e | ⟨hx, gx⟩
  · rw [e]; exact trivial
  have hchk := fun em w => hK.chk ρ _ _ _ em w hag hke
  generalize (opd x).g f = v at hx gx
  generalize (opd y).g f = k at *
  cases v <;> try exact trivial
  · rename_i id
    show Nok c ρ s _ _ (lokM p ok (c.zero el) k id (asBM (blk s id)))
    cases hb : asBM (blk s id) with
    | no => exact trivial
    | m es cl =>
      obtain ⟨st, hst⟩ := asBM_ok hb
      have hst : hget s.hp id = .bk st (.m es cl) := hst
      show Nok c ρ s _ _ (lokR ok (c.zero el) id (findE p k es))
      simp only [cv] at hx
      have key : ∀ w0 F w, Mem w0 (hitem ρ s.hp :: F) w → w.heap[ρ.ad id]? = some (.map (es.map (entV ρ)).toArray cl) := fun w0 F w hw => m_br hw hst
      cases hq : findE p k es with
      | no => exact trivial
      | none =>
        show Nok c ρ s _ _ (.rv (Bool.rec (motive := fun _ => V) (c.zero el) (.t [c.zero el, .b false]) ok) id)
        intro w0 F w hw
        have hfr := (find_ok (ρ := ρ) hK hag es w).1 hq
        cases ok with
        | false =>
          refine ⟨hzg, fun _ _ _ _ _ => ?_⟩
          simp [execOp, hx, hy, Instr.lookup, run_und (desc_ok hd).1, getObj, Sem.run, key w0 F w hw, hchk, hfr, hzr, Result.andThen]
        | true =>
          refine ⟨by simp [Gd, GdL, hzg], fun _ _ _ _ _ => ?_⟩
          simp [execOp, hx, hy, Instr.lookup, run_und (desc_ok hd).1, getObj, Sem.run, key w0 F w hw, hchk, hfr, hzr, Result.andThen, cv, cvL]
      | v x' n =>
        show Nok c ρ s _ _ (.rv (Bool.rec (motive := fun _ => V) x' (.t [x', .b true]) ok) id)
        intro w0 F w hw
        obtain ⟨i, e, h1, h3, h4, h5, h6, hfr⟩ := (find_ok (ρ := ρ) hK hag es w).2 x' n hq
        have gx' : Gd ρ s.nx x' := by rw [← h3]; exact (gd_ent hs hst h1).2
        cases ok with
        | false =>
          refine ⟨gx', fun _ _ _ _ _ => ?_⟩
          simp [execOp, hx, hy, Instr.lookup, run_und (desc_ok hd).1, getObj, Sem.run, key w0 F w hw, hchk, hfr, hzr, Result.andThen]
        | true =>
          refine ⟨by simp [Gd, GdL, gx'], fun _ _ _ _ _ => ?_⟩
          simp [execOp, hx, hy, Instr.lookup, run_und (desc_ok hd).1, getObj, Sem.run, key w0 F w hw, hchk, hfr, hzr, Result.andThen, cv, cvL]
  · simp only [cv] at hx
    have hfr := fun w => (find_ok (ρ := ρ) hK hag [] w).1 rfl
    simp only [List.map_nil] at hfr
    show Nok c ρ s _ _ (.v (Bool.rec (motive := fun _ => V) (c.zero el) (.t [c.zero el, .b false]) ok))
    cases ok with
    | false => exact nok_v hzg fun w _ _ _ _ _ => by simp [execOp, hx, hy, Instr.lookup, run_und (desc_ok hd).1, hchk, hfr, hzr, Result.andThen]
    | true => exact nok_v (x := .t [c.zero el, .b false]) (by simp [Gd, GdL, hzg]) fun w _ _ _ _ _ => by simp [execOp, hx, hy, Instr.lookup, run_und (desc_ok hd).1, hchk, hfr, hzr, Result.andThen, cv, cvL]
end
end Go.Proofs.O

/-
  Maps: entries set, removed; ranges over maps.
-/
set_option linter.unusedVariables false
set_option linter.unusedSimpArgs false
namespace Go.Proofs.O
open Go Go.Proofs.E

section
variable {c : Tab} {ρ : Env} {s : St} {f : Fm} {x y z : Operand} {t u : TypeId}
def putW (w : World) (r : Nat) (o : Obj) : World := { w with heap := w.heap.setIfInBounds r o }
theorem run_setObj' {r : Nat} {o o' : Obj} {w : World} (h : w.heap[r]? = some o') (hn : ∀ a b d, o' ≠ .cells a b d) : (setObj r o).run c.P w = .ok () (putW w r o) := by
  simp only [setObj, Sem.run, h]
  cases o' <;> first | exact absurd rfl (hn _ _ _) | rfl
theorem putW_at {r : Nat} {o o' : Obj} {w : World} (h : w.heap[r]? = some o') : (putW w r o).heap[r]? = some o := by
  have : r < w.heap.size := (Array.getElem?_eq_some_iff.1 h).1
  simp [putW, this]
theorem m_put {id st tk : Nat} {k k' : B} {o o' : Obj} {w0 w : World} {F : List E.Item} (hs : SOk ρ s) (hst : hget s.hp id = .bk st k) (hw : Mem w0 (hitem ρ s.hp :: F) w) (h : w.heap[ρ.ad id]? = some o') (hb : ∀ w', w'.heap[ρ.ad id]? = some o → BR ρ id w' k') : Mem w0 (hitem ρ (hput 20 id (.bk tk k') s.hp) :: F) (putW w (ρ.ad id) o) :=
  m_set hw (Nat.lt_trans (hs.up _ (hs.bk _ _ _ hst).1) hs.nx) hst (hb _ (putW_at h)) ⟨rfl, rfl, rfl, by simp [putW], Nat.le_refl _⟩ (fun b hb => by
    simp only [putW]
    rw [Array.getElem?_setIfInBounds_ne (fun e => hb e.symm)])
theorem putW_self {r : Nat} {o : Obj} {w : World} (h : w.heap[r]? = some o) : putW w r o = w := by
  have hr : r < w.heap.size := (Array.getElem?_eq_some_iff.1 h).1
  have : w.heap.setIfInBounds r o = w.heap := by
    apply Array.ext_getElem?
    intro j
    rw [Array.getElem?_setIfInBounds]
    split
    · rename_i e; subst e; simp [hr, h]
      exact (Array.getElem?_eq_some_iff.1 h).2.symm
    · rfl
  unfold putW; rw [this]
/-! keys that stay -/
theorem sb_cell {k n : Nat} {x : Value} (hk : k < 2) (h : CellIs k x) : Instr.sameBits n x x = true := by
  match k, h, hk with
  | 0, h, _ => obtain ⟨q, m, rfl⟩ := h; simp [Instr.sameBits]
  | 1, h, _ => obtain ⟨b, rfl⟩ := h; simp [Instr.sameBits]
theorem sb_self {p : Kp} {k : V} (hsm : ∀ q ∈ p.ks, q < 2) (hag : agA k = p.ag) {b : Bool} (hk : eqL p.ks (cel k) (cel k) = .b b) : Instr.sameBits 10000 (cv ρ k) (cv ρ k) = true := by
  obtain ⟨q1, q2⟩ := eqV_is (eqL_ok ρ hk)
  have hall : ∀ x ∈ cvL ρ (cel k), ∃ q, q < 2 ∧ CellIs q x := fun x hx => by
    obtain ⟨j, hj⟩ := List.mem_iff_getElem?.1 hx
    have hl : j < p.ks.length := by rw [← q1]; exact (List.getElem?_eq_some_iff.1 hj).1
    exact ⟨_, hsm _ (List.getElem_mem hl), q2 j _ x (List.getElem?_eq_getElem hl) hj⟩
  cases hk' : agA k with
  | false =>
    rw [cv_one hk'] at hall
    obtain ⟨q, h1, h2⟩ := hall (cv ρ k) (by simp [cvL])
    exact sb_cell h1 h2
  | true =>
    rw [cv_agg hk']
    rw [show (10000 : Nat) = 9999 + 1 from rfl]
    simp only [Instr.sameBits, beq_self_eq_true, Bool.true_and]
    generalize cvL ρ (cel k) = l at hall
    have : ∀ l : List Value, (∀ x ∈ l, ∃ q, q < 2 ∧ CellIs q x) → (l.zip l).all (fun x => Instr.sameBits 9999 x.1 x.2) = true := by
      intro l
      induction l with
      | nil => simp
      | cons a l ih =>
        intro h
        obtain ⟨q, h1, h2⟩ := h a (List.mem_cons_self ..)
        simp only [List.zip_cons_cons, List.all_cons, sb_cell h1 h2, Bool.true_and]
        exact ih fun x hx => h x (List.mem_cons_of_mem _ hx)
    simpa using this l hall
theorem key_eq {p : Kp} {k e : V} (hsm : ∀ q ∈ p.ks, q < 2) (hag : agA k = p.ag) (h : eqKy p k e = .b true) : cv ρ k = cv ρ e := by
  obtain ⟨h1, h2⟩ := eqKy_ok h
  have h3 := eqV_eq hsm (eqL_ok ρ h2)
  cases hk' : agA k with
  | false =>
    rw [hk'] at hag
    rw [← hag] at h1
    rw [cv_one hk', cv_one h1] at h3
    simpa [cvL] using h3
  | true =>
    rw [hk'] at hag
    rw [← hag] at h1
    rw [cv_agg hk', cv_agg h1, h3]
theorem run_stays {p : Kp} {k e : V} {w : World} (hsm : ∀ q ∈ p.ks, q < 2) (hag : agA k = p.ag) {b : Bool} (hk : eqL p.ks (cel k) (cel k) = .b b) (h : eqKy p k e = .b true) : (Instr.keyThatStays (cv ρ e) (cv ρ k)).run c.P w = .ok (cv ρ k) w := by
  rw [← key_eq hsm hag h]
  simp [Instr.keyThatStays, sb_self hsm hag hk]
theorem setE_eq {p : Kp} {k v : V} : ∀ {es : Es} {i : Nat} {e : V × V × Nat}, es[i]? = some e → eqKy p k e.1 = .b true → (∀ (j : Nat), j < i → ∀ (a : V × V × Nat), es[j]? = some a → eqKy p k a.1 = .b false) → setE p k v es = es.set i (e.1, v, e.2.2)
  | [], i, e, h, _, _ => by simp at h
  | a :: es, 0, e, h, h1, _ => by
    simp only [List.getElem?_cons_zero, Option.some.injEq] at h
    subst h
    show O3.rec (motive := fun _ => Es) _ (fun b => Bool.rec (motive := fun _ => Es) _ ((a.1, v, a.2.2) :: es) b) (eqKy p k a.1) = _
    rw [h1]; rfl
  | a :: es, i + 1, e, h, h1, h2 => by
    have h0 := h2 0 (by omega) a rfl
    have ih := setE_eq (es := es) (i := i) (e := e) (v := v) (by simpa using h) h1 fun j hj b hb => h2 (j + 1) (by omega) b (by simpa using hb)
    show O3.rec (motive := fun _ => Es) (a :: setE p k v es) (fun b => Bool.rec (motive := fun _ => Es) (a :: setE p k v es) ((a.1, v, a.2.2) :: es) b) (eqKy p k a.1) = _
    rw [h0, ih]; rfl
theorem delE_eq {p : Kp} {k : V} : ∀ {es : Es} {i : Nat} {e : V × V × Nat}, es[i]? = some e → eqKy p k e.1 = .b true → (∀ (j : Nat), j < i → ∀ (a : V × V × Nat), es[j]? = some a → eqKy p k a.1 = .b false) → delE p k es = es.eraseIdx i
  | [], i, e, h, _, _ => by simp at h
  | a :: es, 0, e, h, h1, _ => by
    simp only [List.getElem?_cons_zero, Option.some.injEq] at h
    subst h
    show O3.rec (motive := fun _ => Es) _ (fun b => Bool.rec (motive := fun _ => Es) _ es b) (eqKy p k a.1) = _
    rw [h1]; rfl
  | a :: es, i + 1, e, h, h1, h2 => by
    have h0 := h2 0 (by omega) a rfl
    have ih := delE_eq (es := es) (i := i) (e := e) (by simpa using h) h1 fun j hj b hb => h2 (j + 1) (by omega) b (by simpa using hb)
    show O3.rec (motive := fun _ => Es) (a :: delE p k es) (fun b => Bool.rec (motive := fun _ => Es) (a :: delE p k es) es b) (eqKy p k a.1) = _
    rw [h0, ih]; rfl
theorem ent_modify (es : Es) (i : Nat) (e e' : V × V × Nat) (g : MapEntry → MapEntry) (h : es[i]? = some e) (hg : g (entV ρ e) = entV ρ e') : (es.map (entV ρ)).toArray.modify i g = ((es.set i e').map (entV ρ)).toArray := by
  obtain ⟨hi, he⟩ := List.getElem?_eq_some_iff.1 h
  apply Array.ext'
  simp only [List.modify_toArray]
  apply List.ext_getElem?
  intro j
  rw [List.getElem?_modify, List.getElem?_map, List.getElem?_map, List.getElem?_set]
  by_cases hj : i = j
  · subst hj; simp [he, hg, hi]
  · simp [hj]
section
variable {id st cl : Nat} {es : Es}
theorem m_map {k' : Es} {cl' : Nat} {w0 w : World} {F : List E.Item} (hs : SOk ρ s) (hst : hget s.hp id = .bk st (.m es cl)) (hw : Mem w0 (hitem ρ s.hp :: F) w) (hg : ∀ e ∈ k', Gd ρ s.nx e.1 ∧ Gd ρ s.nx e.2.1) :
    ∃ w', (setObj (ρ.ad id) (.map (k'.map (entV ρ)).toArray cl')).run c.P w = .ok () w' ∧ Mem w0 (hitem ρ (upd s id (.m k' cl')).hp :: F) w' ∧ SOk ρ (upd s id (.m k' cl')) ∧ Mono s (upd s id (.m k' cl')) := by
  have hbr : w.heap[ρ.ad id]? = some (.map (es.map (entV ρ)).toArray cl) := m_br hw hst
  obtain ⟨h1, h2⟩ := sok_upd hs hst (k' := .m k' cl') hg
  exact ⟨_, run_setObj' hbr (by simp), m_put hs hst hw hbr (fun w' h => h), h1, h2⟩
end
theorem k_mup (hT : TabOk c) (hs : SOk ρ s) (hf : FOk ρ s.nx f) : Nok c ρ s (ev (fv ρ f)) (.mapUpdate t x y z) ((cop c (.mapUpdate t x y z)).r f s) := by
  unfold cop
  refine coMap_ok hT fun kt el p hd hK => ?_
  show Nok c ρ s _ _ (mupK p ((opd x).g f) ((opd y).g f) ((opd z).g f) s)
  unfold mupK
  refine kyK_ok fun hky => ?_
  obtain ⟨hag, hke⟩ := isKey_ok hky
  rw [brec]
  split
  · exact trivial
  rename_i hnb
  rcases opd_ok hf y with e | ⟨hy, gy⟩
  · rw [e] at hke; exact (eqL_bad hke).elim
  rcases opd_ok hf z with e | ⟨hz, gz⟩
  · rw [e] at hnb; exact absurd rfl hnb
  rcases opd_ok hf x with e | ⟨hx, gx⟩
  · rw [e]; exact trivial
  have hchk := fun em w => hK.chk ρ _ _ _ em w hag hke
  generalize (opd x).g f = v at hx gx
  generalize (opd y).g f = k at *
  generalize (opd z).g f = q at *
  cases v <;> try exact trivial
  rename_i id
  show Nok c ρ s _ _ (mupM p s id k q (asBM (blk s id)))
  cases hb : asBM (blk s id) with
  | no => exact trivial
  | m es cl =>
    obtain ⟨st, hst⟩ := asBM_ok hb
    have hst : hget s.hp id = .bk st (.m es cl) := hst
    have hgs : ∀ e ∈ es, Gd ρ s.nx e.1 ∧ Gd ρ s.nx e.2.1 := (hs.bk _ _ _ hst).2.2
    show Nok c ρ s _ _ (mupR p s id k q es cl (findE p k es))
    simp only [cv] at hx
    cases hq : findE p k es with
    | no => exact trivial
    | none =>
      show s.nx < 1000000 → _
      intro _ w0 F w hw
      have hbr : w.heap[ρ.ad id]? = some (.map (es.map (entV ρ)).toArray cl) := m_br hw hst
      have hfr := (find_ok (ρ := ρ) hK hag es w).1 hq
      rw [apd_eq]
      obtain ⟨w', h1, h2, h3, h4⟩ := m_map (c := c) (k' := es ++ [(k, q, cl)]) (cl' := cl + 1) hs hst hw (fun e he => by
        rcases List.mem_append.1 he with he | he
        · exact hgs e he
        · simp only [List.mem_singleton] at he; subst he; exact ⟨gy, gz⟩)
      refine ⟨ρ, w', Exn.refl, h3, h4, gd_und, h2, .inr ⟨rfl, fun _ _ _ _ _ => ?_⟩⟩
      have e1 : ((es ++ [(k, q, cl)]).map (entV ρ)).toArray = ((es.map (entV ρ)).toArray).push { key := cv ρ k, val := cv ρ q, born := cl } := by simp [entV]
      rw [e1] at h1
      simp only [execOp, hx, hy, hz, Instr.mapUpdate, Sem.run_bind, run_und (desc_ok hd).1, Result.andThen_ok, getObj, Sem.run, hbr, hchk, hfr, h1]
      rfl
    | v x' n =>
      show s.nx < 1000000 → _
      intro _ w0 F w hw
      have hbr : w.heap[ρ.ad id]? = some (.map (es.map (entV ρ)).toArray cl) := m_br hw hst
      obtain ⟨i, e, h1, h3, h4, h5, h6, hfr⟩ := (find_ok (ρ := ρ) hK hag es w).2 x' n hq
      rw [setE_eq h1 h5 h6]
      obtain ⟨w', g1, g2, g3, g4⟩ := m_map (c := c) (k' := es.set i (e.1, q, e.2.2)) (cl' := cl) hs hst hw (fun a ha => by
        rcases List.mem_or_eq_of_mem_set ha with ha | ha
        · exact hgs a ha
        · subst ha; exact ⟨(hgs e (List.mem_of_getElem? h1)).1, gz⟩)
      refine ⟨ρ, w', Exn.refl, g3, g4, gd_und, g2, .inr ⟨rfl, fun _ _ _ _ _ => ?_⟩⟩
      rw [← ent_modify es i e (e.1, q, e.2.2) (fun a => { a with key := cv ρ k, val := cv ρ q }) h1 (by simp [entV, key_eq (ρ := ρ) hK.small hag h5])] at g1
      have hst' := run_stays (c := c) (ρ := ρ) (w := w) hK.small hag hke h5
      have hek : (((es.map (entV ρ)).toArray[i]?).map (·.key)).getD (cv ρ k) = cv ρ e.1 := by simp [h1, entV]
      simp only [execOp, hx, hy, hz, Instr.mapUpdate, Sem.run_bind, run_und (desc_ok hd).1, Result.andThen_ok, getObj, Sem.run, hbr, hchk, hfr, hek, hst', g1]
      rfl
theorem k_ent (hT : TabOk c) (hs : SOk ρ s) (hf : FOk ρ s.nx f) : Nok c ρ s (ev (fv ρ f)) (.mapEntry t x y) ((cop c (.mapEntry t x y)).r f s) := by
  unfold cop
  refine coMap_ok hT fun kt el p hd hK => ?_
  refine cbif (p := fun z : Co => Nok c ρ s _ _ (z.r f s)) (fun _ => trivial) (fun hzb => ?_)
  obtain ⟨hzr, hzg, hi⟩ := run_zero (ρ := ρ) (n := s.nx) hzb
  show Nok c ρ s _ _ (entK p (c.zero el) ((opd x).g f) ((opd y).g f) s)
  unfold entK
  refine kyK_ok fun hky => ?_
  obtain ⟨hag, hke⟩ := isKey_ok hky
  rcases opd_ok hf y with e | ⟨hy, gy⟩
  · rw [e] at hke; exact (eqL_bad hke).elim
  rcases opd_ok hf x with e | ⟨hx, gx⟩
  · rw [e]; exact trivial
  have hchk := fun em w => hK.chk ρ _ _ _ em w hag hke
  generalize (opd x).g f = v at hx gx
  generalize (opd y).g f = k at *
  cases v <;> try exact trivial
  rename_i id
  show Nok c ρ s _ _ (entM p s id (c.zero el) k (asBM (blk s id)))
  cases hb : asBM (blk s id) with
  | no => exact trivial
  | m es cl =>
    obtain ⟨st, hst⟩ := asBM_ok hb
    have hst : hget s.hp id = .bk st (.m es cl) := hst
    have hgs : ∀ e ∈ es, Gd ρ s.nx e.1 ∧ Gd ρ s.nx e.2.1 := (hs.bk _ _ _ hst).2.2
    show Nok c ρ s _ _ (entR s id (c.zero el) k es cl (findE p k es))
    simp only [cv] at hx
    cases hq : findE p k es with
    | no => exact trivial
    | none =>
      show s.nx < 1000000 → _
      intro _ w0 F w hw
      have hbr : w.heap[ρ.ad id]? = some (.map (es.map (entV ρ)).toArray cl) := m_br hw hst
      have hfr := (find_ok (ρ := ρ) hK hag es w).1 hq
      rw [apd_eq]
      obtain ⟨w', h1, h2, h3, h4⟩ := m_map (c := c) (k' := es ++ [(k, c.zero el, cl)]) (cl' := cl + 1) hs hst hw (fun e he => by
        rcases List.mem_append.1 he with he | he
        · exact hgs e he
        · simp only [List.mem_singleton] at he; subst he; exact ⟨gy, hzg⟩)
      refine ⟨ρ, w', Exn.refl, h3, h4, by simp [Gd, GdL]; exact hzg, h2, .inl fun _ _ _ _ _ => ?_⟩
      have e1 : ((es ++ [(k, c.zero el, cl)]).map (entV ρ)).toArray = ((es.map (entV ρ)).toArray).push { key := cv ρ k, val := cv ρ (c.zero el), born := cl } := by simp [entV]
      rw [e1] at h1
      simp only [execOp, hx, hy, Instr.mapEntry, Sem.run_bind, run_und (desc_ok hd).1, Result.andThen_ok, getObj, Sem.run, hbr, hchk, hfr, h1, hzr, Sem.run_pure, cv, cvL, goInt]
      rfl
    | v x' n =>
      show s.nx < 1000000 → _
      intro _ w0 F w hw
      have hbr : w.heap[ρ.ad id]? = some (.map (es.map (entV ρ)).toArray cl) := m_br hw hst
      obtain ⟨i, e, h1, h3, h4, h5, h6, hfr⟩ := (find_ok (ρ := ρ) hK hag es w).2 x' n hq
      have gx' : Gd ρ s.nx x' := by rw [← h3]; exact (hgs e (List.mem_of_getElem? h1)).2
      refine ⟨ρ, w, Exn.refl, hs, Mono.refl, by simp [Gd, GdL, gx'], hw, .inl fun _ _ _ _ _ => ?_⟩
      have hst' := run_stays (c := c) (ρ := ρ) (w := w) hK.small hag hke h5
      have hek : (((es.map (entV ρ)).toArray[i]?).map (·.key)).getD (cv ρ k) = cv ρ e.1 := by simp [h1, entV]
      have hbn : (((es.map (entV ρ)).toArray[i]?).map (fun a => (a.born : Int))).getD 0 = (n : Int) := by simp [h1, entV, h4]
      have hmod : (es.map (entV ρ)).toArray.modify i (fun a => { a with key := cv ρ k }) = (es.map (entV ρ)).toArray := by
        rw [ent_modify es i e e _ h1 (by simp [entV, key_eq (ρ := ρ) hK.small hag h5])]
        congr 2
        obtain ⟨hi, he⟩ := List.getElem?_eq_some_iff.1 h1
        rw [← he]; exact List.set_getElem_self hi
      have hset : (setObj (ρ.ad id) (.map (es.map (entV ρ)).toArray cl)).run c.P w = .ok () w := by
        rw [run_setObj' hbr (by simp), putW_self hbr]
      simp only [execOp, hx, hy, Instr.mapEntry, Sem.run_bind, run_und (desc_ok hd).1, Result.andThen_ok, getObj, Sem.run, hbr, hchk, hfr, hek, hst', hmod, hset, hbn, Sem.run_pure, cv, cvL, goInt]
      rfl
theorem bornE_ok {n : Nat} {v : V} : ∀ {es : Es}, hasB n es = true → ∃ (i : Nat) (e : V × V × Nat), es[i]? = some e ∧ e.2.2 = n ∧ bornE n v es = es.set i (e.1, v, n) ∧ (es.map (entV ρ)).findIdx? (fun a => decide (a.born = n)) = some i
  | [], h => by cases h
  | a :: es, h => by
    have h2 : (Bool.rec (motive := fun _ => Bool) (hasB n es) true (Nat.beq a.2.2 n)) = true := h
    have h3 : bornE n v (a :: es) = (if Nat.beq a.2.2 n = true then (a.1, v, n) :: es else a :: bornE n v es) := by
      show (Bool.rec (motive := fun _ => Es) (a :: bornE n v es) ((a.1, v, n) :: es) (Nat.beq a.2.2 n)) = _
      rw [brec]
    rw [brec] at h2
    by_cases hb : Nat.beq a.2.2 n = true
    · have hb' := beq_t.1 hb
      exact ⟨0, a, rfl, hb', by rw [h3, if_pos hb]; rfl, by simp [List.findIdx?_cons, entV, hb']⟩
    · rw [if_neg hb] at h2
      obtain ⟨i, e, g1, g2, g3, g4⟩ := bornE_ok (v := v) h2
      have hb' : a.2.2 ≠ n := fun e => hb (beq_t.2 e)
      exact ⟨i + 1, e, by simpa using g1, g2, by rw [h3, if_neg hb, g3]; rfl, by simp [List.findIdx?_cons, entV, hb', g4]⟩
theorem k_est (hT : TabOk c) (hs : SOk ρ s) (hf : FOk ρ s.nx f) : Nok c ρ s (ev (fv ρ f)) (.entryStore t x y z) (estK ((opd x).g f) ((opd y).g f) ((opd z).g f) s) := by
  unfold estK
  rw [brec]
  split
  · exact trivial
  rename_i hnb
  cases hn : asN ((opd y).g f) with
  | no => exact trivial
  | n n =>
    rcases opd_ok hf y with e | ⟨hy, gy⟩
    · rw [e] at hn; exact ON.noConfusion hn
    rcases opd_ok hf z with e | ⟨hz, gz⟩
    · rw [e] at hnb; exact absurd rfl hnb
    rcases opd_ok hf x with e | ⟨hx, gx⟩
    · rw [e]; exact trivial
    obtain ⟨k0, e0⟩ := asN_ok hn
    rw [e0] at hy
    simp only [cv] at hy
    generalize (opd x).g f = v at hx gx
    generalize (opd z).g f = q at *
    cases v <;> try exact trivial
    rename_i id
    show Nok c ρ s _ _ (estM s id n q (asBM (blk s id)))
    cases hb : asBM (blk s id) with
    | no => exact trivial
    | m es cl =>
      obtain ⟨st, hst⟩ := asBM_ok hb
      have hst : hget s.hp id = .bk st (.m es cl) := hst
      have hgs : ∀ e ∈ es, Gd ρ s.nx e.1 ∧ Gd ρ s.nx e.2.1 := (hs.bk _ _ _ hst).2.2
      show Nok c ρ s _ _ (Bool.rec (motive := fun _ => Nx) (.er 90) (.sv und (upd s id (.m (bornE n q es) cl))) (hasB n es))
      rw [brec]
      split
      · rename_i hh
        simp only [cv] at hx
        obtain ⟨i, e, g1, g2, g3, g4⟩ := bornE_ok (ρ := ρ) (v := q) hh
        rw [g3]
        show s.nx < 1000000 → _
        intro _ w0 F w hw
        have hbr : w.heap[ρ.ad id]? = some (.map (es.map (entV ρ)).toArray cl) := m_br hw hst
        obtain ⟨w', h1, h2, h3, h4⟩ := m_map (c := c) (k' := es.set i (e.1, q, n)) (cl' := cl) hs hst hw (fun a ha => by
          rcases List.mem_or_eq_of_mem_set ha with ha | ha
          · exact hgs a ha
          · subst ha; exact ⟨(hgs e (List.mem_of_getElem? g1)).1, gz⟩)
        refine ⟨ρ, w', Exn.refl, h3, h4, gd_und, h2, .inr ⟨rfl, fun _ _ _ _ _ => ?_⟩⟩
        rw [← ent_modify es i e (e.1, q, n) (fun a => { a with val := cv ρ q }) g1 (by simp [entV, g2])] at h1
        have hidx : (es.map (entV ρ)).toArray.findIdx? (fun e => (e.born : Int) == (n : Int)) = some i := by
          rw [List.findIdx?_toArray, ← g4]
          congr 1
          funext a
          rw [Bool.eq_iff_iff]
          simp only [beq_iff_eq, decide_eq_true_eq]
          omega
        simp only [execOp, hx, hy, hz, Instr.entryStore, Sem.run_bind, Sem.run_pure, Result.andThen_ok, getObj, Sem.run, hbr, asInt, asIntOf, hidx, h1]
      · exact trivial
theorem k_del {r : List TypeId} (hT : TabOk c) (hs : SOk ρ s) (hf : FOk ρ s.nx f) : Nok c ρ s (ev (fv ρ f)) (.call { callee := .builtin .delete, args := [x, y].toArray, argTypes := (t :: r).toArray }) ((coMap c t fun p _ => cm2 true x y (delK p)).r f s) := by
  refine coMap_ok hT fun kt el p hd hK => ?_
  show Nok c ρ s _ _ (delK p ((opd x).g f) ((opd y).g f) s)
  unfold delK
  refine kyK_ok fun hky => ?_
  obtain ⟨hag, hke⟩ := isKey_ok hky
  rcases opd_ok hf y with e | ⟨hy, gy⟩
  · rw [e] at hke; exact (eqL_bad hke).elim
  rcases opd_ok hf x with e | ⟨hx, gx⟩
  · rw [e]; exact trivial
  have hchk := fun em w => hK.chk ρ _ _ _ em w hag hke
  generalize (opd x).g f = v at hx gx
  generalize (opd y).g f = k at *
  cases v <;> try exact trivial
  · rename_i id
    show Nok c ρ s _ _ (delM p s id k (asBM (blk s id)))
    cases hb : asBM (blk s id) with
    | no => exact trivial
    | m es cl =>
      obtain ⟨st, hst⟩ := asBM_ok hb
      have hst : hget s.hp id = .bk st (.m es cl) := hst
      have hgs : ∀ e ∈ es, Gd ρ s.nx e.1 ∧ Gd ρ s.nx e.2.1 := (hs.bk _ _ _ hst).2.2
      show Nok c ρ s _ _ (OV.rec (motive := fun _ => Nx) (.er 180) (.sv und (upd s id (.m es cl))) (fun _ _ => .sv und (upd s id (.m (delE p k es) cl))) (findE p k es))
      simp only [cv] at hx
      cases hq : findE p k es with
      | no => exact trivial
      | none =>
        show s.nx < 1000000 → _
        intro _ w0 F w hw
        have hbr : w.heap[ρ.ad id]? = some (.map (es.map (entV ρ)).toArray cl) := m_br hw hst
        have hfr := (find_ok (ρ := ρ) hK hag es w).1 hq
        obtain ⟨w', h1, h2, h3, h4⟩ := m_map (c := c) (k' := es) (cl' := cl) hs hst hw hgs
        refine ⟨ρ, w', Exn.refl, h3, h4, gd_und, h2, .inl (run_blt fun ty cs => ?_)⟩
        rw [cv_und]
        simp only [builtin, Builtin.delete_, List.map_cons, List.map_nil, List.getElem?_toArray, List.getElem?_cons_zero, List.getElem?_cons_succ, hx, hy, Sem.run_bind, run_und (desc_ok hd).1, Result.andThen_ok, getObj, Sem.run, hbr, hchk, hfr, h1, Sem.run_pure, undef]
      | v x' n =>
        show s.nx < 1000000 → _
        intro _ w0 F w hw
        have hbr : w.heap[ρ.ad id]? = some (.map (es.map (entV ρ)).toArray cl) := m_br hw hst
        obtain ⟨i, e, h1, h3, h4, h5, h6, hfr⟩ := (find_ok (ρ := ρ) hK hag es w).2 x' n hq
        rw [delE_eq h1 h5 h6]
        obtain ⟨w', g1, g2, g3, g4⟩ := m_map (c := c) (k' := es.eraseIdx i) (cl' := cl) hs hst hw (fun a ha => hgs a (List.mem_of_mem_eraseIdx ha))
        refine ⟨ρ, w', Exn.refl, g3, g4, gd_und, g2, .inl (run_blt fun ty cs => ?_)⟩
        have e1 : (es.map (entV ρ)).toArray.eraseIdxIfInBounds i = ((es.eraseIdx i).map (entV ρ)).toArray := by
          rw [List.eraseIdxIfInBounds_toArray]
          congr 1
          rw [List.eraseIdx_eq_take_drop_succ, List.eraseIdx_eq_take_drop_succ]
          simp [List.map_take, List.map_drop]
        rw [← e1] at g1
        rw [cv_und]
        simp only [builtin, Builtin.delete_, List.map_cons, List.map_nil, List.getElem?_toArray, List.getElem?_cons_zero, List.getElem?_cons_succ, hx, hy, Sem.run_bind, run_und (desc_ok hd).1, Result.andThen_ok, getObj, Sem.run, hbr, hchk, hfr, g1, Sem.run_pure, undef]
  · simp only [cv] at hx
    show s.nx < 1000000 → _
    intro _ w0 F w hw
    refine ⟨ρ, w, Exn.refl, hs, Mono.refl, gd_und, hw, .inl (run_blt fun ty cs => ?_)⟩
    rw [cv_und]
    simp only [builtin, Builtin.delete_, List.map_cons, List.map_nil, List.getElem?_toArray, List.getElem?_cons_zero, List.getElem?_cons_succ, hx, hy, Sem.run_bind, run_und (desc_ok hd).1, Result.andThen_ok, hchk, Sem.run_pure, undef]
end
end Go.Proofs.O

/-
  Ranges over maps of which at most one entry is left.
-/
set_option linter.unusedVariables false
set_option linter.unusedSimpArgs false
namespace Go.Proofs.O
open Go Go.Proofs.E

section
variable {c : Tab} {ρ : Env} {s : St} {f : Fm} {x y z : Operand} {t u : TypeId}
theorem unseen_eq (seen : List Nat) : ∀ es : Es, unseen seen es = es.filter fun e => !seen.elem e.2.2
  | [] => rfl
  | e :: es => by
    show (Bool.rec (motive := fun _ => Es) (e :: unseen seen es) (unseen seen es) (seen.elem e.2.2)) = _
    rw [brec, unseen_eq seen es]
    rw [List.filter_cons]
    cases h : seen.elem e.2.2 <;> rfl
theorem anyLt_ok {n : Nat} : ∀ {es : Es}, anyLt n es = true → ∃ e ∈ es, e.2.2 < n
  | [], h => by cases h
  | e :: es, h => by
    have h2 : (Bool.rec (motive := fun _ => Bool) (anyLt n es) true (Nat.blt e.2.2 n)) = true := h
    rw [brec] at h2
    split at h2
    · rename_i hb; exact ⟨e, List.mem_cons_self .., blt_t.1 hb⟩
    · obtain ⟨a, ha, hb⟩ := anyLt_ok h2
      exact ⟨a, List.mem_cons_of_mem _ ha, hb⟩
theorem asBI_ok {h : HB} {m : Option Nat} {since last : Nat} {seen : List Nat} (e : asBI h = .it m since seen last) : ∃ st, h = .bk st (.it m since seen last) := by
  cases h with
  | no => exact BI.noConfusion e
  | bk st b =>
    cases b with
    | c a b d r => exact BI.noConfusion e
    | m a b => exact BI.noConfusion e
    | it a b d r => have e2 : BI.it a b d r = .it m since seen last := e; injection e2 with e1 e2 e3 e4; subst e1; subst e2; subst e3; subst e4; exact ⟨st, rfl⟩
theorem rng_new {m : Option Nat} {since last : Nat} {w0 w : World} {F : List E.Item} (hs : SOk ρ s) (hnx : s.nx + 1 < 1000000) (hw : Mem w0 (hitem ρ s.hp :: F) w) (hm : ∀ id, m = some id → ρ.ok id) :
    ∃ ρ', Exo s.nx ρ ρ' ∧ SOk ρ' (new s (.it m since [] last)) ∧ Mono s (new s (.it m since [] last)) ∧ Mem w0 (hitem ρ' (new s (.it m since [] last)).hp :: F) (w.alloc (.mapIter (m.map ρ.ad) since #[] last)) ∧ cv ρ' (.p s.nx 0) = .pointer (some ⟨w.heap.size, 0, none⟩) := by
  have hx := put_exo ρ s.nx w.heap.size 0 0 0
  have had : (ρ.put s.nx w.heap.size 0 0 0).ad s.nx = w.heap.size := by simp [Env.put]
  obtain ⟨h1, h2⟩ := sok_new (b := .it m since [] last) hs hx hnx (fun j e => .inr (hm j e))
  refine ⟨_, hx, h1, h2, m_newS _ hs hx had ?_ hw, by simp [cv, Env.put]⟩
  refine ⟨?_, by simp [Env.put]⟩
  rw [had]
  have e : m.map (ρ.put s.nx w.heap.size 0 0 0).ad = m.map ρ.ad := by
    cases m with
    | none => rfl
    | some id => have := hm id rfl; simp [Env.put]; intro h; exact absurd (h ▸ this) hs.no
  rw [e]
  simpa using heap_alloc_new w (.mapIter (m.map ρ.ad) since #[] last)
theorem k_rng {kt el : TypeId} (hd : c.desc t = some (.map kt el)) (hs : SOk ρ s) (hf : FOk ρ s.nx f) : Nok c ρ s (ev (fv ρ f)) (.range t x) (rngK ((opd x).g f) s) := c1 (k := fun v => rngK v s) hf ⟨_, rfl⟩ fun v h g => by
  cases v <;> try exact trivial
  · rename_i id
    show Nok c ρ s _ _ (BM.rec (motive := fun _ => Nx) (.er 192) (fun _ cl => .sv (.p s.nx 0) (new s (.it (some id) cl [] cl))) (asBM (blk s id)))
    cases hb : asBM (blk s id) with
    | no => exact trivial
    | m es cl =>
      obtain ⟨st, hst⟩ := asBM_ok hb
      have hst : hget s.hp id = .bk st (.m es cl) := hst
      show s.nx + 1 < 1000000 → _
      intro hnx w0 F w hw
      have hbr : w.heap[ρ.ad id]? = some (.map (es.map (entV ρ)).toArray cl) := m_br hw hst
      obtain ⟨ρ', h1, h2, h3, h4, h5⟩ := rng_new (m := some id) (since := cl) (last := cl) hs hnx hw (fun j e => by cases e; exact (hs.bk _ _ _ hst).1)
      refine ⟨ρ', _, h1.exn (n := s.nx) hs.no, h2, h3, by show Gd ρ' (s.nx + 1) (.p s.nx 0); simp only [Gd]; exact h1.1, h4, .inl fun _ _ _ _ _ => ?_⟩
      rw [h5]
      simp only [cv] at h
      simp [execOp, h, Instr.range, run_und (desc_ok hd).1, getObj, Sem.run, hbr, newObj, Result.andThen]
  · show s.nx + 1 < 1000000 → _
    intro hnx w0 F w hw
    obtain ⟨ρ', h1, h2, h3, h4, h5⟩ := rng_new (m := none) (since := 0) (last := 0) hs hnx hw (fun j e => by cases e)
    refine ⟨ρ', _, h1.exn (n := s.nx) hs.no, h2, h3, by show Gd ρ' (s.nx + 1) (.p s.nx 0); simp only [Gd]; exact h1.1, h4, .inl fun _ _ _ _ _ => ?_⟩
    rw [h5]
    simp only [cv] at h
    simp [execOp, h, Instr.range, run_und (desc_ok hd).1, Sem.run, newObj, Result.andThen]
theorem run_next0 {P : Program} {r : Nat} {w : World} {since last : Nat} {seen : Array Nat} (ty : TypeId) (h : w.heap[r]? = some (.mapIter none since seen last)) : (Instr.next (.pointer (some ⟨r, 0, none⟩)) false ty).run P w = .ok (.tuple #[.bool false]) w := by
  simp [Instr.next, getObj, Sem.run, h, Result.andThen]
theorem k_nxt (hs : SOk ρ s) (hf : FOk ρ s.nx f) : Nok c ρ s (ev (fv ρ f)) (.next x false) (nxtK ((opd x).g f) s) := c1 (k := fun v => nxtK v s) hf ⟨_, rfl⟩ fun v h g => by
  cases v <;> try exact trivial
  rename_i r off
  show Nok c ρ s _ _ (Bool.rec (motive := fun _ => Nx) (.er 197) (nxtI s r (asBI (blk s r))) (Nat.beq off 0))
  rw [brec]
  split
  · rename_i ho
    have ho := beq_t.1 ho
    subst ho
    cases hb : asBI (blk s r) with
    | no => exact trivial
    | it m since seen last =>
      obtain ⟨st, hst⟩ := asBI_ok hb
      have hst : hget s.hp r = .bk st (.it m since seen last) := hst
      have ga : ∀ b : Bool, Gd ρ s.nx (.t [.b b]) := fun b => by simp [Gd, GdL]
      cases m with
      | none =>
        show s.nx < 1000000 → _
        intro hnx w0 F w hw
        obtain ⟨hbr, hba⟩ : w.heap[ρ.ad r]? = some (.mapIter none since seen.toArray last) ∧ ρ.ba r = 0 := m_br hw hst
        simp only [cv, hba] at h
        refine ⟨ρ, w, Exn.refl, hs, Mono.refl, ga false, hw, .inl fun dst ty pos af gu => ?_⟩
        simp [execOp, h, run_next0 ty hbr, Result.andThen, cv, cvL]
      | some id =>
        show Nok c ρ s _ _ (BM.rec (motive := fun _ => Nx) (.er 196) (fun es cl => nxtM s r id since seen last cl es) (asBM (blk s id)))
        cases hb2 : asBM (blk s id) with
        | no => exact trivial
        | m es cl =>
          obtain ⟨st2, hst2⟩ := asBM_ok hb2
          have hst2 : hget s.hp id = .bk st2 (.m es cl) := hst2
          show Nok c ρ s _ _ (Bool.rec (motive := fun _ => Nx) (.er 195) (nxtL s r id since seen cl (unseen seen es)) (Bool.rec (motive := fun _ => Bool) (Bool.rec (motive := fun _ => Bool) (anyLt last es) true (Nat.beq (len es) 0)) true (Nat.beq (len seen) 0)))
          rw [brec]
          split
          · rename_i hok
            rw [brec, brec] at hok
            have hgone : (!seen.toArray.isEmpty && !(es.map (entV ρ)).toArray.isEmpty && (es.map (entV ρ)).toArray.all (fun e => decide (e.born ≥ last))) = false := by
              split at hok
              · rename_i q
                have q := beq_t.1 q
                rw [len_eq] at q
                have : seen = [] := List.eq_nil_of_length_eq_zero q
                subst this; simp
              · split at hok
                · rename_i q
                  have q := beq_t.1 q
                  rw [len_eq] at q
                  have : es = [] := List.eq_nil_of_length_eq_zero q
                  subst this; simp
                · obtain ⟨e, he, hlt⟩ := anyLt_ok hok
                  have : (es.map (entV ρ)).toArray.all (fun e => decide (e.born ≥ last)) = false := by
                    rw [List.all_toArray, List.all_eq_false]
                    exact ⟨entV ρ e, List.mem_map.2 ⟨e, he, rfl⟩, by simp [entV]; omega⟩
                  rw [this]; simp
            rw [unseen_eq]
            have hleft : (es.map (entV ρ)).toArray.filter (fun e => !seen.toArray.contains e.born) = ((es.filter fun e => !seen.elem e.2.2).map (entV ρ)).toArray := by
              rw [List.filter_toArray]
              congr 1
              rw [List.filter_map]
              congr 1
              apply List.filter_congr
              intro e _
              simp only [entV, Function.comp, List.contains_toArray]
            generalize hl : es.filter (fun e => !seen.elem e.2.2) = l at hleft ⊢
            have hmem : ∀ e ∈ l, e ∈ es := fun e he => by rw [← hl] at he; exact (List.mem_filter.1 he).1
            match l, hleft, hmem with
            | [], hleft, _ =>
              show s.nx < 1000000 → _
              intro hnx w0 F w hw
              obtain ⟨hbr, hba⟩ : w.heap[ρ.ad r]? = some (.mapIter (some (ρ.ad id)) since seen.toArray last) ∧ ρ.ba r = 0 := m_br hw hst
              have hbr2 : w.heap[ρ.ad id]? = some (.map (es.map (entV ρ)).toArray cl) := m_br hw hst2
              simp only [cv, hba] at h
              refine ⟨ρ, w, Exn.refl, hs, Mono.refl, ga false, hw, .inl fun dst ty pos af gu => ?_⟩
              have hr : (Instr.next (.pointer (some ⟨ρ.ad r, 0, none⟩)) false ty).run c.P w = .ok (.tuple #[.bool false]) w := by
                simp only [Instr.next, Sem.run_bind, getObj, Sem.run, hbr, hbr2, Result.andThen_ok, hgone, Bool.false_eq_true, if_false, hleft]
                simp [choose, Sem.run, Question.forced, Result.andThen]
              simp [execOp, h, hr, Result.andThen, cv, cvL]
            | [e], hleft, hmem =>
              show Nok c ρ s _ _ (Bool.rec (motive := fun _ => Nx) (.er 193) (.sv (.t [.b true, e.1, e.2.1]) (upd s r (.it (some id) since (apd seen [e.2.2]) cl))) (Nat.blt e.2.2 since))
              rw [brec]
              split
              · rename_i hlt
                have hlt := blt_t.1 hlt
                show s.nx < 1000000 → _
                intro hnx w0 F w hw
                obtain ⟨hbr, hba⟩ : w.heap[ρ.ad r]? = some (.mapIter (some (ρ.ad id)) since seen.toArray last) ∧ ρ.ba r = 0 := m_br hw hst
                have hbr2 : w.heap[ρ.ad id]? = some (.map (es.map (entV ρ)).toArray cl) := m_br hw hst2
                simp only [cv, hba] at h
                obtain ⟨q1, q2⟩ := sok_upd hs hst (k' := .it (some id) since (apd seen [e.2.2]) cl) (fun j hj => by cases hj; exact (hs.bk _ _ _ hst2).1)
                have hge := (hs.bk _ _ _ hst2).2.2 e (hmem e (List.mem_singleton.2 rfl))
                refine ⟨ρ, putW w (ρ.ad r) (.mapIter (some (ρ.ad id)) since (seen.toArray.push e.2.2) cl), Exn.refl, q1, q2, by simp [Gd, GdL]; exact hge, m_put hs hst hw hbr (fun w' hw' => ⟨by rw [hw', apd_eq]; simp, hba⟩), .inl fun dst ty pos af gu => ?_⟩
                have hst' := run_setObj' (c := c) (o := .mapIter (some (ρ.ad id)) since (seen.toArray.push e.2.2) cl) hbr (by simp)
                have hr : (Instr.next (.pointer (some ⟨ρ.ad r, 0, none⟩)) false ty).run c.P w = .ok (.tuple #[.bool true, cv ρ e.1, cv ρ e.2.1]) (putW w (ρ.ad r) (.mapIter (some (ρ.ad id)) since (seen.toArray.push e.2.2) cl)) := by
                  have f1 : ([e].map (entV ρ)).toArray.filter (fun a => decide (a.born < since)) = [entV ρ e].toArray := by simp [entV, hlt]
                  have f2 : ([e].map (entV ρ)).toArray.filter (fun a => decide (a.born ≥ since)) = #[] := by simp [entV]; omega
                  simp only [Instr.next, Sem.run_bind, getObj, Sem.run, hbr, hbr2, Result.andThen_ok, hgone, Bool.false_eq_true, if_false, hleft, f1, f2]
                  simp [choose, Sem.run, Question.forced, Result.andThen]
                  simp only [entV]
                  have := hst'
                  simp only [List.push_toArray] at this
                  simp [this, Result.andThen]
                simp [execOp, h, hr, Result.andThen, cv, cvL]
              · exact trivial
            | _ :: _ :: _, _, _ => exact trivial
          · exact trivial
  · exact trivial
end
end Go.Proofs.O
