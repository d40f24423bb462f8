import Derived.Test.YtcpihdljjckecaaGreatDoorConA
set_option linter.unusedVariables false
set_option linter.unusedSimpArgs false
/-
  Plain: texts of numbers, lines split and joined, acts parsed and printed.
-/
namespace Go.Proofs.Con
open Go Go.Lib

/-! numbers -/
theorem digit_nat {k : Nat} (h : k < 10) : (UInt8.ofNat (48 + k)).toNat = 48 + k := by
  simp; omega
theorem dec_all (u : Nat) : ∀ c ∈ decDigits u, 48 ≤ c.toNat ∧ c.toNat ≤ 57 := by
  induction u using Nat.strongRecOn with
  | _ u ih =>
    intro c hc
    by_cases h : u < 10
    · rw [decDigits, dif_pos h, List.mem_singleton] at hc
      subst hc
      rw [digit_nat h]; omega
    · rw [decDigits, dif_neg h, List.mem_append, List.mem_singleton] at hc
      rcases hc with hc | rfl
      · exact ih (u / 10) (by omega) c hc
      · rw [digit_nat (by omega)]; omega
theorem dec_ne (u : Nat) : decDigits u ≠ [] := by
  intro h
  have := decDigits_length u
  rw [h] at this
  have := nDigits_pos u
  simp at *; omega
theorem pu_dec (u : Nat) : ∀ r, u < 1000000000000000000 → parseUint10 0 (decDigits u ++ r) = parseUint10 u r := by
  induction u using Nat.strongRecOn with
  | _ u ih =>
    intro r hu
    by_cases h : u < 10
    · rw [decDigits, dif_pos h, List.singleton_append, parseUint10, digit_nat h]
      rw [if_pos (by omega), if_neg (by omega), if_neg (by omega), show 0 * 10 + (48 + u - 48) = u by omega]
    · rw [decDigits, dif_neg h, List.append_assoc, ih (u / 10) (by omega) _ (by omega), List.singleton_append, parseUint10, digit_nat (by omega)]
      rw [if_pos (by omega), if_neg (by omega), if_neg (by omega), show u / 10 * 10 + (48 + u % 10 - 48) = u by omega]
theorem atoi_itoa (v : Int) (h : okN v = true) : atoiAll (itoa v) = .ok v := by
  obtain ⟨h0, h1⟩ := of_decide_eq_true h
  unfold itoa
  by_cases hv : v < 0
  · rw [if_pos hv]
    have hp : parseMag (decDigits v.natAbs) = .ok v.natAbs := by
      unfold parseMag
      rw [if_neg (dec_ne _)]
      have := pu_dec v.natAbs [] (by omega)
      rw [List.append_nil] at this
      exact this
    have e45 : (45 : UInt8).toNat = 45 := rfl
    simp only [atoiAll, e45]
    rw [if_pos (.inr trivial), hp]
    simp only
    rw [if_neg (by simp), if_neg (by omega), if_pos trivial]
    congr 1; omega
  · rw [if_neg hv]
    have hp : parseMag (decDigits v.toNat) = .ok v.toNat := by
      unfold parseMag
      rw [if_neg (dec_ne _)]
      have := pu_dec v.toNat [] (by omega)
      rw [List.append_nil] at this
      exact this
    have hd := dec_all v.toNat
    cases hq : decDigits v.toNat with
    | nil => exact absurd hq (dec_ne _)
    | cons c r =>
      rw [hq] at hd hp
      have hc := hd c (List.mem_cons_self ..)
      simp only [atoiAll]
      rw [if_neg (by omega), hp]
      simp only
      rw [if_neg (by omega), if_neg (by omega), if_neg (by omega)]
      congr 1; omega
theorem numL_iff {s : ByteArray} {v : Int} : numL s = some v ↔ okN v = true ∧ s.data.toList = itoa v := by
  constructor
  · intro h
    unfold numL at h
    split at h
    · split at h
      · rename_i hc
        cases h
        exact ⟨decide_eq_true ⟨hc.1, hc.2.1⟩, hc.2.2.symm⟩
      · cases h
    · cases h
  · rintro ⟨h1, h2⟩
    unfold numL
    rw [h2, atoi_itoa v h1]
    obtain ⟨h3, h4⟩ := of_decide_eq_true h1
    simp only
    rw [if_pos ⟨h3, h4, trivial⟩]
theorem numL_txt {v : Int} (h : okN v = true) : numL (txt v) = some v := numL_iff.2 ⟨h, txt_data v⟩
theorem txt_of {s : ByteArray} {v : Int} (h : numL s = some v) : s = txt v := by
  have := (numL_iff.1 h).2
  unfold txt
  rw [← this]
theorem itoa_ne (v : Int) : itoa v ≠ [] := by
  unfold itoa
  split
  · simp
  · exact dec_ne _
theorem itoa_no32 (v : Int) : (32 : UInt8) ∉ itoa v := by
  have hd : ∀ u, (32 : UInt8) ∉ decDigits u := fun u h => by
    have := dec_all u _ h
    have e : (32 : UInt8).toNat = 32 := rfl
    omega
  unfold itoa
  split
  · simp only [List.mem_cons, not_or]
    exact ⟨by decide, hd _⟩
  · exact hd _

/-! lines -/
def spl : List UInt8 → List (List UInt8)
  | [] => [[]]
  | c :: l => if c = 32 then [] :: spl l else match spl l with
    | [] => [[c]]
    | w :: ws => (c :: w) :: ws
theorem spl_ne : ∀ l, spl l ≠ []
  | [] => by simp [spl]
  | c :: l => by
    unfold spl
    split
    · simp
    · split <;> simp
theorem splitK_spl : ∀ l, splitK [32] 0 (count l [32]) l = spl l
  | [] => by rw [count_miss (by simp [index])]; rfl
  | c :: l => by
    have ih := splitK_spl l
    by_cases h : c = 32
    · subst h
      have hix : index (32 :: l) [32] = 0 := by rw [index]; simp [List.isPrefixOf]
      rw [count_cons_eq, Nat.add_comm, splitK, hix]
      simp [spl, ih]
    · rw [count_cons_ne c 32 l h]
      have hp : ([32] : List UInt8).isPrefixOf (c :: l) = false := by simp [List.isPrefixOf, Ne.symm h]
      have hix : index (c :: l) [32] = if index l [32] == -1 then -1 else index l [32] + 1 := by rw [index, hp]; simp
      unfold spl
      rw [if_neg h, ← ih]
      cases hk : count l [32] with
      | zero => rfl
      | succ k =>
        by_cases hm : index l [32] = -1
        · simp [splitK, hix, hm]
        · have hge := index_ge l [32]
          obtain ⟨j, hj⟩ : ∃ j : Nat, index l [32] = j := ⟨(index l [32]).toNat, by omega⟩
          have hj1 : ((j : Int) == -1) = false := by simp
          have hj2 : ((j : Int) + 1 == -1) = false := by simp; omega
          rw [splitK, splitK, hix]
          simp only [hj, hj1, hj2]
          have e1 : ((j : Int) + 1).toNat = j + 1 := by omega
          simp [e1]
          intro h; omega
def toB (l : List UInt8) : ByteArray := ⟨l.toArray⟩
theorem toB_data (s : ByteArray) : toB s.data.toList = s := by
  unfold toB; simp
theorem words_spl (s : ByteArray) : wordsL s = (spl s.data.toList).map toB := by
  have h : (wordsL s).map (·.data.toList) = spl s.data.toList := by
    unfold wordsL
    rw [splitB_data]
    exact splitK_spl _
  rw [← h, List.map_map]
  conv => lhs; rw [← List.map_id (wordsL s)]
  exact List.map_congr_left fun x _ => (toB_data x).symm
def jn : List (List UInt8) → List UInt8
  | [] => []
  | [w] => w
  | w :: ws => w ++ 32 :: jn ws
theorem jn_cons (w x : List UInt8) (ws : List (List UInt8)) : jn (w :: x :: ws) = w ++ 32 :: jn (x :: ws) := rfl
theorem jn_spl : ∀ l, jn (spl l) = l
  | [] => rfl
  | c :: l => by
    have ih := jn_spl l
    unfold spl
    split
    · rename_i h
      subst h
      cases hs : spl l with
      | nil => exact absurd hs (spl_ne l)
      | cons w ws => rw [jn_cons, ← hs, ih]; rfl
    · cases hs : spl l with
      | nil => exact absurd hs (spl_ne l)
      | cons w ws =>
        rw [hs] at ih
        simp only
        cases ws with
        | nil => simp only [jn] at ih ⊢; rw [ih]
        | cons x ws => rw [jn_cons] at ih ⊢; rw [← ih]; rfl
theorem spl_no : ∀ l, ∀ w ∈ spl l, (32 : UInt8) ∉ w
  | [], w, hw => by
    simp only [spl, List.mem_singleton] at hw
    subst hw; simp
  | c :: l, w, hw => by
    have ih := spl_no l
    unfold spl at hw
    split at hw
    · rcases List.mem_cons.1 hw with rfl | hw
      · simp
      · exact ih w hw
    · rename_i h
      cases hs : spl l with
      | nil => exact absurd hs (spl_ne l)
      | cons x ws =>
        rw [hs] at hw ih
        simp only at hw
        rcases List.mem_cons.1 hw with rfl | hw
        · simp only [List.mem_cons, not_or]
          exact ⟨fun e => h e.symm, ih x (List.mem_cons_self ..)⟩
        · exact ih w (List.mem_cons_of_mem _ hw)
theorem spl_word : ∀ (w l : List UInt8), (32 : UInt8) ∉ w → spl (w ++ 32 :: l) = w :: spl l
  | [], l, _ => by simp [spl]
  | c :: w, l, h => by
    simp only [List.mem_cons, not_or] at h
    rw [List.cons_append, spl, if_neg (fun e => h.1 e.symm), spl_word w l h.2]
theorem spl_one : ∀ (w : List UInt8), (32 : UInt8) ∉ w → spl w = [w]
  | [], _ => rfl
  | c :: w, h => by
    simp only [List.mem_cons, not_or] at h
    unfold spl
    rw [if_neg (fun e => h.1 e.symm), spl_one w h.2]
theorem spl_jn : ∀ {ws : List (List UInt8)}, ws ≠ [] → (∀ w ∈ ws, (32 : UInt8) ∉ w) → spl (jn ws) = ws
  | [], h, _ => absurd rfl h
  | [w], _, h => spl_one w (h w (List.mem_cons_self ..))
  | w :: x :: ws, _, h => by
    rw [jn_cons, spl_word w _ (h w (List.mem_cons_self ..)), spl_jn (by simp) fun y hy => h y (List.mem_cons_of_mem _ hy)]
theorem words_len (s : ByteArray) : (wordsL s).length = countB s ⟨#[32]⟩ + 1 ∧ countB s ⟨#[32]⟩ ≤ s.size :=
  ⟨splitB_all _ (by decide) 0 _ s rfl, countB_le _ (by decide) _ s (Nat.le_refl _)⟩
theorem spl_size : ∀ l, ∀ w ∈ spl l, w.length ≤ l.length
  | [], w, hw => by
    simp only [spl, List.mem_singleton] at hw
    subst hw; simp
  | c :: l, w, hw => by
    have ih := spl_size l
    unfold spl at hw
    split at hw
    · rcases List.mem_cons.1 hw with rfl | hw
      · simp
      · have := ih w hw; simp only [List.length_cons]; omega
    · cases hs : spl l with
      | nil => exact absurd hs (spl_ne l)
      | cons x ws =>
        rw [hs] at hw ih
        simp only at hw
        rcases List.mem_cons.1 hw with rfl | hw
        · have := ih x (List.mem_cons_self ..); simp only [List.length_cons]; omega
        · have := ih w (List.mem_cons_of_mem _ hw); simp only [List.length_cons]; omega
theorem words_size (s : ByteArray) : ∀ x ∈ wordsL s, x.size ≤ s.size := by
  rw [words_spl]
  intro x hx
  obtain ⟨w, hw, rfl⟩ := List.mem_map.1 hx
  have := spl_size _ w hw
  rw [Array.length_toList] at this
  show (toB w).data.size ≤ s.data.size
  simpa [toB] using this
/-- console.Parse, plainly -/
def parseS (s : ByteArray) : List Int × Int := parseL (wordsL s)
open Go.RowKit Go.Proofs.E in
theorem parseS_w (s : ByteArray) (w : World) (hl : Lw w) (hs : s.size ≤ 1000) : Calls Tryz.prog 7 #[.string s] w fun e w' => e = .returned (.tuple #[.agg ((parseS s).1.map I64).toArray, .int .i64 (parseS s).2]) ∧ Blw w w' := by
  have h := words_len s
  exact parse_w s w hl hs h.1 (by omega) fun x hx => by have := words_size s x hx; omega
end Go.Proofs.Con

/-
  Plain: what is printed is parsed as the act, and what is parsed is printed as the line.
-/
namespace Go.Proofs.Con
open Go Go.Lib

theorem puts_comm : ∀ (os : List Nat) (ns cs : List Int) (o : Nat) (n : Int), o ∉ os → puts os ns (cs.set o n) = (puts os ns cs).set o n
  | [], ns, cs, o, n, _ => rfl
  | x :: os, [], cs, o, n, _ => rfl
  | x :: os, y :: ns, cs, o, n, h => by
    simp only [List.mem_cons, not_or] at h
    rw [puts, puts, ← puts_comm os ns _ o n h.2, List.set_comm _ _ h.1]
theorem puts_get : ∀ (os : List Nat) (ns cs : List Int) (o : Nat), o ∉ os → (puts os ns cs)[o]? = cs[o]?
  | [], ns, cs, o, _ => rfl
  | x :: os, [], cs, o, _ => rfl
  | x :: os, y :: ns, cs, o, h => by
    simp only [List.mem_cons, not_or] at h
    rw [puts, puts_get os ns _ o h.2, List.getElem?_set_ne (Ne.symm h.1)]
/-- the texts of numbers, each behind a blank -/
def flat : List Int → List UInt8
  | [] => []
  | n :: ns => 32 :: (itoa n ++ flat ns)
theorem cat_data (a b : ByteArray) : (a ++ b).data.toList = a.data.toList ++ b.data.toList := by simp
theorem sp_data (l : ByteArray) (n : Int) : (l ++ ((⟨#[32]⟩ : ByteArray) ++ txt n)).data.toList = l.data.toList ++ 32 :: itoa n := by
  rw [cat_data, cat_data, txt_data]; rfl
theorem prt_back : ∀ {os : List Nat} {cs cs' : List Int} {l l' : ByteArray}, os.Nodup → (∀ o ∈ os, o < cs.length) → prt os cs l = some (l', cs') →
    ∃ vs, vs.length = os.length ∧ l'.data.toList = l.data.toList ++ flat vs ∧ (∀ v ∈ vs, okN v = true) ∧ puts os vs cs' = cs
  | [], cs, cs', l, l', _, _, h => by
    cases h
    exact ⟨[], rfl, by simp [flat], by simp, rfl⟩
  | o :: os, cs, cs', l, l', hd, hb, h => by
    rw [prt] at h
    split at h
    · rename_i hk
      rw [List.nodup_cons] at hd
      obtain ⟨vs, h1, h2, h3, h4⟩ := prt_back hd.2 (fun x hx => by rw [List.length_set]; exact hb x (List.mem_cons_of_mem _ hx)) h
      refine ⟨cs.getD o 0 :: vs, by simp [h1], ?_, ?_, ?_⟩
      · rw [h2, sp_data, flat, List.append_assoc]; simp
      · intro v hv
        rcases List.mem_cons.1 hv with rfl | hv
        · exact hk
        · exact h3 v hv
      · have ho := hb o (List.mem_cons_self ..)
        rw [puts, puts_comm os vs cs' o _ hd.1, h4, List.set_set]
        rw [List.getD_eq_getElem?_getD, List.getElem?_eq_getElem ho]
        exact List.set_getElem_self ho
    · cases h
theorem prt_puts : ∀ {os : List Nat} {vs cs : List Int} {l : ByteArray}, os.Nodup → vs.length = os.length → (∀ v ∈ vs, okN v = true) → (∀ o ∈ os, cs[o]? = some 0) →
    ∃ l', prt os (puts os vs cs) l = some (l', cs) ∧ l'.data.toList = l.data.toList ++ flat vs
  | [], [], cs, l, _, _, _, _ => ⟨l, rfl, by simp [flat]⟩
  | [], _ :: _, _, _, _, h, _, _ => by simp at h
  | _ :: _, [], _, _, _, h, _, _ => by simp at h
  | o :: os, v :: vs, cs, l, hd, hl, hv, hz => by
    rw [List.nodup_cons] at hd
    have ho := hz o (List.mem_cons_self ..)
    have hlt : o < cs.length := (List.getElem?_eq_some_iff.1 ho).1
    have hg : (puts (o :: os) (v :: vs) cs).getD o 0 = v := by
      rw [puts, List.getD_eq_getElem?_getD, puts_get _ _ _ _ hd.1, List.getElem?_set_self hlt]; rfl
    have hs : (puts (o :: os) (v :: vs) cs).set o 0 = puts os vs cs := by
      rw [puts, puts_comm _ _ _ _ _ hd.1, List.set_set, ← puts_comm _ _ _ _ _ hd.1]
      congr 1
      have : cs[o]'hlt = 0 := (List.getElem?_eq_some_iff.1 ho).2
      rw [← this]; exact List.set_getElem_self hlt
    obtain ⟨l', h1, h2⟩ := prt_puts (l := l ++ ((⟨#[32]⟩ : ByteArray) ++ txt v)) hd.2 (by simpa using hl) (fun x hx => hv x (List.mem_cons_of_mem _ hx)) fun x hx => hz x (List.mem_cons_of_mem _ hx)
    refine ⟨l', ?_, ?_⟩
    · rw [prt, hg, if_pos (hv v (List.mem_cons_self ..)), hs, h1]
    · rw [h2, sp_data, flat, List.append_assoc]; simp
theorem jn_flat : ∀ (w : List UInt8) (vs : List Int), jn (w :: vs.map itoa) = w ++ flat vs
  | w, [] => by simp [jn, flat]
  | w, v :: vs => by
    rw [List.map_cons, jn_cons, jn_flat (itoa v) vs, flat]
/-- facts of the table -/
structure CoOk (c : Co) : Prop where
  nd : c.offs.Nodup
  lt : ∀ o ∈ c.offs, o < 20
  nz : 0 ∉ c.offs
  w0 : c.word ≠ []
  w32 : (32 : UInt8) ∉ c.word
theorem co_ok {c : Co} (hc : c ∈ cos) : CoOk c := by
  have h : cos.all (fun c => decide (c.offs.Nodup) && (c.offs.all (fun o => decide (o < 20)) && (decide (0 ∉ c.offs) && (decide (c.word ≠ []) && decide ((32 : UInt8) ∉ c.word))))) = true := by decide
  have := List.all_eq_true.1 h c hc
  simp only [Bool.and_eq_true, decide_eq_true_eq, List.all_eq_true] at this
  exact ⟨this.1, this.2.1, this.2.2.1, this.2.2.2.1, this.2.2.2.2⟩
theorem co_word {c d : Co} (hc : c ∈ cos) (hd : d ∈ cos) (h : c.word = d.word) : c = d := by
  have k : ∀ i, i < 6 → ∀ j, j < 6 → (cos.map (·.word))[i]? = (cos.map (·.word))[j]? → i = j := by decide
  obtain ⟨i, hi, rfl⟩ := List.mem_iff_getElem.1 hc
  obtain ⟨j, hj, rfl⟩ := List.mem_iff_getElem.1 hd
  have := k i hi j hj (by rw [List.getElem?_map, List.getElem?_map, List.getElem?_eq_getElem hi, List.getElem?_eq_getElem hj]; simp only [Option.map_some]; rw [h])
  subst this; rfl
theorem find_word {ws : List ByteArray} {c : Co} (hc : c ∈ cos) (h : mt ws c = true) : cos.find? (mt ws) = some c := by
  cases hf : cos.find? (mt ws) with
  | none => have := List.find?_eq_none.1 hf c hc; rw [h] at this; exact absurd rfl this
  | some d =>
    have h2 := List.find?_some hf
    cases ws with
    | nil => cases h
    | cons x r =>
      simp only [mt, Bool.and_eq_true, decide_eq_true_eq] at h h2
      rw [co_word (List.mem_of_find?_eq_some hf) hc (h2.1.trans h.1.symm)]
theorem find_k {c : Co} (hc : c ∈ cos) : cos.find? (fun d => decide (d.kind = c.kind)) = some c := by
  obtain ⟨i, hi, rfl⟩ := List.mem_iff_getElem.1 hc
  exact find_kind (k := i) (List.getElem?_eq_getElem hi)
theorem puts0 {c : Co} (hc : c ∈ cos) (vs : List Int) : (puts c.offs vs (zs.set 0 c.kind)).headD 0 = c.kind ∧ (puts c.offs vs (zs.set 0 c.kind)).length = 20 := by
  have h1 := puts_get c.offs vs (zs.set 0 c.kind) 0 (co_ok hc).nz
  have h2 : (zs.set 0 c.kind)[0]? = some c.kind := rfl
  rw [h2] at h1
  refine ⟨?_, by rw [puts_len]; rfl⟩
  cases hp : puts c.offs vs (zs.set 0 c.kind) with
  | nil => rw [hp] at h1; cases h1
  | cons x l => rw [hp] at h1; cases h1; rfl
/-- a line of a command and its numbers, parsed -/
theorem parse_words {c : Co} (hc : c ∈ cos) {vs : List Int} (hl : vs.length = c.offs.length) (hv : ∀ v ∈ vs, okN v = true) {s : ByteArray} (hs : s.data.toList = c.word ++ flat vs) : parseS s = (puts c.offs vs (zs.set 0 c.kind), 0) := by
  have hw : wordsL s = (c.word :: vs.map itoa).map toB := by
    rw [words_spl, hs, ← jn_flat, spl_jn (by simp)]
    intro w hw
    rcases List.mem_cons.1 hw with rfl | hw
    · exact (co_ok hc).w32
    · obtain ⟨v, _, rfl⟩ := List.mem_map.1 hw
      exact itoa_no32 v
  have hm : mt ((c.word :: vs.map itoa).map toB) c = true := by
    simp [mt, toB, hl]
  unfold parseS parseL
  rw [hw, find_word hc hm]
  have hb : ∀ v, toB (itoa v) = txt v := fun v => rfl
  simp only
  rw [if_neg, if_pos]
  · simp only [List.map_cons, List.tail_cons, List.map_map]
    congr 2
    conv => rhs; rw [← List.map_id vs]
    refine List.map_congr_left fun v hv' => ?_
    simp [nv, hb, numL_txt (hv v hv')]
  · simp only [List.map_cons, List.tail_cons, List.map_map, List.all_eq_true, List.mem_map]
    rintro x ⟨v, hv', rfl⟩
    simp [hb, numL_txt (hv v hv')]
  · intro h
    obtain ⟨x, hx, h0⟩ := List.any_eq_true.1 h
    obtain ⟨w, hw, rfl⟩ := List.mem_map.1 hx
    have hw0 : w ≠ [] := by
      rcases List.mem_cons.1 hw with rfl | hw
      · exact (co_ok hc).w0
      · obtain ⟨v, _, rfl⟩ := List.mem_map.1 hw
        exact itoa_ne v
    have h0 : (toB w).size = 0 := eq_of_beq h0
    have h1 : (toB w).size = w.length := by show w.toArray.size = _; simp
    exact hw0 (List.length_eq_zero_iff.1 (h1 ▸ h0))
theorem zs_at {c : Co} (hc : c ∈ cos) : ∀ o ∈ c.offs, (zs.set 0 c.kind)[o]? = some 0 := fun o ho => by
  have h1 := (co_ok hc).lt o ho
  have h2 : o ≠ 0 := fun e => (co_ok hc).nz (e ▸ ho)
  rw [List.getElem?_set_ne (Ne.symm h2)]
  unfold zs
  rw [List.getElem?_replicate, if_pos h1]
/-- an act of a command and its numbers, printed -/
theorem print_puts {c : Co} (hc : c ∈ cos) {vs : List Int} (hl : vs.length = c.offs.length) (hv : ∀ v ∈ vs, okN v = true) : ∃ s, printL (puts c.offs vs (zs.set 0 c.kind)) = (s, 0) ∧ s.data.toList = c.word ++ flat vs := by
  obtain ⟨h1, h2⟩ := puts0 hc vs
  obtain ⟨s, h3, h4⟩ := prt_puts (l := wd c) (co_ok hc).nd hl hv (zs_at hc)
  refine ⟨s, ?_, ?_⟩
  · unfold printL
    rw [h1, find_k hc]
    simp only
    unfold printC
    rw [h3, h1]
    simp
  · rw [h4]; rfl
theorem print_ok {a : List Int} (ha : a.length = 20) {s : ByteArray} (h : printL a = (s, 0)) : ∃ c ∈ cos, ∃ vs : List Int, vs.length = c.offs.length ∧ (∀ v ∈ vs, okN v = true) ∧ a = puts c.offs vs (zs.set 0 c.kind) ∧ s.data.toList = c.word ++ flat vs := by
  unfold printL at h
  cases hf : cos.find? (fun c => decide (c.kind = a.headD 0)) with
  | none => rw [hf] at h; cases h
  | some c =>
    rw [hf] at h
    have hc := List.mem_of_find?_eq_some hf
    have hk : c.kind = a.headD 0 := by simpa using List.find?_some hf
    simp only at h
    unfold printC at h
    cases hp : prt c.offs a (wd c) with
    | none => rw [hp] at h; cases h
    | some q =>
      obtain ⟨l, cs⟩ := q
      rw [hp] at h
      simp only at h
      by_cases he : (cs == zs.set 0 (a.headD 0)) = true
      · rw [if_pos he] at h
        cases h
        obtain ⟨vs, h1, h2, h3, h4⟩ := prt_back (co_ok hc).nd (fun o ho => by rw [ha]; exact (co_ok hc).lt o ho) hp
        have he2 : cs = zs.set 0 (a.headD 0) := by simpa using he
        refine ⟨c, hc, vs, h1, h3, ?_, h2⟩
        rw [hk, ← he2, h4]
      · rw [if_neg he] at h; cases h
/-- P62.2: what is printed is parsed as the act -/
theorem back1 {a : List Int} (ha : a.length = 20) {s : ByteArray} (h : printL a = (s, 0)) : parseS s = (a, 0) := by
  obtain ⟨c, hc, vs, h1, h2, rfl, h4⟩ := print_ok ha h
  exact parse_words hc h1 h2 h4
theorem parse_ok {s : ByteArray} {a : List Int} (h : parseS s = (a, 0)) : ∃ c ∈ cos, ∃ vs : List Int, vs.length = c.offs.length ∧ (∀ v ∈ vs, okN v = true) ∧ a = puts c.offs vs (zs.set 0 c.kind) ∧ s.data.toList = c.word ++ flat vs := by
  unfold parseS parseL at h
  cases hf : cos.find? (mt (wordsL s)) with
  | none => rw [hf] at h; cases h
  | some c =>
    rw [hf] at h
    have hc := List.mem_of_find?_eq_some hf
    have hm := List.find?_some hf
    simp only at h
    split at h
    · cases h
    · split at h
      · rename_i hall
        cases h
        cases hw : wordsL s with
        | nil => rw [hw] at hm; cases hm
        | cons x r =>
          rw [hw] at hm hall
          simp only [mt, Bool.and_eq_true, decide_eq_true_eq] at hm
          rw [List.tail_cons] at hall
          refine ⟨c, hc, r.map nv, by simp [hm.2], ?_, rfl, ?_⟩
          · intro v hv
            obtain ⟨y, hy, rfl⟩ := List.mem_map.1 hv
            have := List.all_eq_true.1 hall y hy
            cases hn : numL y with
            | none => rw [hn] at this; cases this
            | some v => simp only [nv, hn, Option.getD_some]; exact (numL_iff.1 hn).1
          · have hd : (wordsL s).map (·.data.toList) = spl s.data.toList := by
              rw [words_spl, List.map_map]
              conv => rhs; rw [← List.map_id (spl s.data.toList)]
              exact List.map_congr_left fun w _ => by simp [toB]
            rw [← jn_spl s.data.toList, ← hd, hw, ← jn_flat, List.map_cons, hm.1, List.map_map]
            congr 2
            refine List.map_congr_left fun y hy => ?_
            have := List.all_eq_true.1 hall y hy
            cases hn : numL y with
            | none => rw [hn] at this; cases this
            | some v => simp only [Function.comp, nv, hn, Option.getD_some]; exact (numL_iff.1 hn).2
      · cases h
/-- what is parsed is printed as the line -/
theorem back2 {s : ByteArray} {a : List Int} (h : parseS s = (a, 0)) : printL a = (s, 0) ∧ a.length = 20 := by
  obtain ⟨c, hc, vs, h1, h2, rfl, h4⟩ := parse_ok h
  obtain ⟨t, h5, h6⟩ := print_puts hc h1 h2
  have : t = s := by rw [← toB_data t, ← toB_data s, h6, h4]
  rw [h5, this]
  exact ⟨rfl, (puts0 hc vs).2⟩
end Go.Proofs.Con
