/-
  The walks: the set of events (clone, sort, compact, sort), and the reference's.
-/
import Derived.Test.YtnikolfakmgbbaaCd
import Derived.Test.YtnikolfakmgbbaaEs
namespace Go.Proofs.Cus
open Go Go.RowKit Go.Proofs.E

abbrev EvsAt (w : World) (A : Option Addr) (n : Nat) (xs : List Ev) : Prop := SlAt w 9 Ev.cells A n xs
abbrev evRow (A : Option Addr) (c : Nat) (xs : List Ev) : E.Item := rowT 67 9 Ev.cells A c xs

theorem clone_w (A : Option Addr) (n c : Nat) (xs : List Ev) (w : World) (hx : EvsAt w A n xs) (hn : n ≤ 10000) :
    Calls Try.prog 56 #[.slice A n c] w fun e w' => ∃ x : Option Addr × Nat, e = .returned (.slice x.1 n x.2) ∧ Mem w [evRow x.1 x.2 xs] w' := by
  have hl := hx.1
  refine H_enter Try.func56 rfl Try.ntmps56 rfl ?_
  refine H_seq ?_
  refine R0 ?_
  refine xV (e_as (v := .slice _ _ _) (q0 rfl)) rfl rfl ?_
  refine XN ?_
  refine thenJ_normal ?_
  refine H_seq ?_
  refine H_seq ?_
  refine R0 ?_
  refine xV (e_mv (v := .slice _ _ _) (q0 rfl)) rfl rfl ?_
  refine xV (e_eqNilS Try.underlying25 (q0 rfl)) rfl rfl ?_
  refine XN ?_
  refine thenJ_normal ?_
  refine H_cond rfl (fun h1 => ?_) (fun h1 => ?_)
  · have hA0 : A = none := by simpa using h1
    have hn0 : n = 0 := by
      rcases Nat.eq_zero_or_pos n with h | h
      · exact h
      · obtain ⟨b, off, hb, _⟩ := hx.2.2 h; rw [hA0] at hb; cases hb
    subst hn0
    have : xs = [] := List.eq_nil_of_length_eq_zero hl
    subst this
    refine H_seq ?_
    refine R0 ?_
    refine xV (e_as (v := .slice _ _ _) (q0 rfl)) rfl rfl ?_
    refine XN ?_
    refine thenJ_normal ?_
    refine H_ret ?_
    refine thenJ_ret ?_
    exact ret1 (v := .slice _ _ _) rfl rfl rfl fun w' hw => ⟨(none, 0), rfl, hw.nilRow _ _ _ rfl⟩
  · refine H_skip ?_
    refine thenJ_normal ?_
    refine H_seq ?_
    refine R0 ?_
    refine X_eff (f_slit0 Ev.cells Try.underlying25 Try.sizeOf67 rfl fun A1 c1 => ?_)
    refine xV (e_mv (v := .slice _ _ _) (q0 rfl)) rfl rfl ?_
    refine X_append (f_append (k := 9) (i := Try.t67) (enc := Ev.cells) 0 Try.underlying25 (by kernel_rfl) rfl rfl rfl rfl (fun _ => rfl) (fun _ => rfl) rfl rfl rfl (fun w hw => hx.mem hw) ⟨by simp; omega, by decide⟩ rfl fun A2 c2 => ?_)
    refine xV (e_as (v := .slice _ _ _) (q0 rfl)) rfl rfl ?_
    refine XN ?_
    refine thenJ_normal ?_
    refine H_ret ?_
    exact ret1 (v := .slice _ _ _) rfl rfl rfl fun w' hw => ⟨(A2, c2), by rw [← hl]; rfl, hw⟩

/-! the sort -/
def sortEv_ren : Go.Shelf.Ren := ⟨fun | 6 => 57 | 15 => 81 | 14 => 80 | 28 => 101 | 29 => 102 | 20 => 93 | 21 => 94 | 22 => 95 | 23 => 96 | 24 => 97 | 25 => 98 | 26 => 99 | 27 => 100 | 46 => 106 | 47 => 107 | 48 => 108 | 49 => 109 | 50 => 110 | 57 => 111 | n => n, fun | 22 => 25 | 24 => 67 | 25 => 100 | 3 => 3 | 39 => 120 | 0 => 0 | 53 => 141 | 55 => 143 | 4 => 4 | 46 => 134 | 45 => 133 | 50 => 138 | 5 => 5 | 9 => 9 | 66 => 144 | 70 => 148 | 76 => 150 | 77 => 151 | n => n, fun | n => n⟩
theorem sortEv : Go.Proofs.SlLaysF0.n6 Try.prog sortEv_ren := {
  mixed := by kernel_rfl,
  f6 := ⟨Try.f57.name, by decide, Try.func57.trans (congrArg some (by kernel_rfl))⟩,
  f14 := ⟨Try.f80.name, by decide, Try.func80.trans (congrArg some (by kernel_rfl))⟩,
  f15 := Try.func81.trans (congrArg some (by kernel_rfl)),
  f20 := ⟨Try.f93.name, by decide, Try.func93.trans (congrArg some (by kernel_rfl))⟩,
  f21 := ⟨Try.f94.name, by decide, Try.func94.trans (congrArg some (by kernel_rfl))⟩,
  f22 := ⟨Try.f95.name, by decide, Try.func95.trans (congrArg some (by kernel_rfl))⟩,
  f23 := ⟨Try.f96.name, by decide, Try.func96.trans (congrArg some (by kernel_rfl))⟩,
  f24 := ⟨Try.f97.name, by decide, Try.func97.trans (congrArg some (by kernel_rfl))⟩,
  f25 := ⟨Try.f98.name, by decide, Try.func98.trans (congrArg some (by kernel_rfl))⟩,
  f26 := ⟨Try.f99.name, by decide, Try.func99.trans (congrArg some (by kernel_rfl))⟩,
  f27 := ⟨Try.f100.name, by decide, Try.func100.trans (congrArg some (by kernel_rfl))⟩,
  f28 := Try.func101.trans (congrArg some (by kernel_rfl)),
  f29 := Try.func102.trans (congrArg some (by kernel_rfl)),
  f46 := ⟨Try.f106.name, by decide, Try.func106.trans (congrArg some (by kernel_rfl))⟩,
  f47 := Try.func107.trans (congrArg some (by kernel_rfl)),
  f48 := Try.func108.trans (congrArg some (by kernel_rfl)),
  f49 := ⟨Try.f109.name, by decide, Try.func109.trans (congrArg some (by kernel_rfl))⟩,
  f50 := ⟨Try.f110.name, by decide, Try.func110.trans (congrArg some (by kernel_rfl))⟩,
  f57 := ⟨Try.f111.name, by decide, Try.func111.trans (congrArg some (by kernel_rfl))⟩,
  t0 := Try.underlying0,
  a0 := Try.isAgg0,
  z0 := Try.sizeOf0,
  v0 := Try.zeroValue0,
  t3 := Try.underlying3,
  a3 := Try.isAgg3,
  z3 := Try.sizeOf3,
  v3 := Try.zeroValue3,
  t4 := Try.underlying4,
  a4 := Try.isAgg4,
  z4 := Try.sizeOf4,
  v4 := Try.zeroValue4,
  t5 := Try.underlying5,
  a5 := Try.isAgg5,
  z5 := Try.sizeOf5,
  v5 := Try.zeroValue5,
  t9 := Try.underlying9,
  a9 := Try.isAgg9,
  z9 := Try.sizeOf9,
  v9 := Try.zeroValue9,
  t22 := Try.underlying25,
  a22 := Try.isAgg25,
  z22 := Try.sizeOf25,
  v22 := Try.zeroValue25,
  t25 := Try.underlying100,
  a25 := Try.isAgg100,
  z25 := Try.sizeOf100,
  v25 := Try.zeroValue100,
  t39 := Try.underlying120,
  a39 := Try.isAgg120,
  z39 := Try.sizeOf120,
  v39 := Try.zeroValue120,
  t45 := Try.underlying133,
  a45 := Try.isAgg133,
  z45 := Try.sizeOf133,
  v45 := Try.zeroValue133,
  t46 := Try.underlying134,
  a46 := Try.isAgg134,
  z46 := Try.sizeOf134,
  v46 := Try.zeroValue134,
  t50 := Try.underlying138,
  a50 := Try.isAgg138,
  z50 := Try.sizeOf138,
  v50 := Try.zeroValue138,
  t53 := Try.underlying141,
  a53 := Try.isAgg141,
  z53 := Try.sizeOf141,
  v53 := Try.zeroValue141,
  t55 := Try.underlying143,
  a55 := Try.isAgg143,
  z55 := Try.sizeOf143,
  v55 := Try.zeroValue143,
  t66 := Try.underlying144,
  a66 := Try.isAgg144,
  z66 := Try.sizeOf144,
  v66 := Try.zeroValue144,
  t70 := Try.underlying148,
  a70 := Try.isAgg148,
  z70 := Try.sizeOf148,
  v70 := Try.zeroValue148,
  t76 := Try.underlying150,
  a76 := Try.isAgg150,
  z76 := Try.sizeOf150,
  v76 := Try.zeroValue150,
  t77 := Try.underlying151,
  a77 := Try.isAgg151,
  z77 := Try.sizeOf151,
  v77 := Try.zeroValue151 }

open Go.Shelf Go.Lib Go.Sort in
theorem sortBy_w (cf : Ev → Ev → Int) (g : Nat) (hO : SWO (ltOf cf)) (hT : ∀ x y, ltOf cf x y = false → ltOf cf y x = false → x = y) (eg : ∀ args w, (callFunc g args).run Try.prog w = .ok (.enter g args) w)
    (hcl : ∀ (x y : Ev) (w : World), Calls Try.prog g #[.agg x.cells.toArray, .agg y.cells.toArray] w fun e w' => e = .returned (.int .i64 (cf x y)) ∧ Bel w w')
    {w0 w : World} {L : List E.Item} (hw : Mem w0 L w) {j c : Nat} {A : Option Addr} {xs : List Ev} (hk : L[j]? = some (evRow A c xs)) (hn : xs.length ≤ 1000000) :
    Calls Try.prog 57 #[.slice A xs.length c, .func (.func g) #[] #[]] w fun e w' => ∃ _ : Unit, e = .returned (.tuple #[]) ∧ Mem w0 (L.set j (evRow A c (xs.mergeSort fun x y => !ltOf cf y x))) w' := by
  rcases Nat.eq_zero_or_pos xs.length with h0 | h0
  · have : xs = [] := List.eq_nil_of_length_eq_zero h0
    subst this
    refine (AnyF.slices_SortFunc_none sortEv A c (.func (.func g) #[] #[]) w).mono ?_
    rintro e w' ⟨rfl, rfl⟩
    refine ⟨(), rfl, ?_⟩
    have hL : L.set j (evRow A c (([] : List Ev).mergeSort fun x y => !ltOf cf y x)) = L := by
      have : ([] : List Ev).mergeSort (fun x y => !ltOf cf y x) = [] := by simp
      rw [this]
      obtain ⟨h1, h2⟩ := List.getElem?_eq_some_iff.1 hk
      rw [← h2]; exact List.set_getElem_self h1
    rw [hL]; exact hw
  · obtain ⟨b, rfl⟩ := rowT_at hw hk h0
    have hb : b < w.heap.size := (hw.itemLt hk rfl).2
    have hcon := AnyQ.slices_SortFunc_total sortEv 9 Try.isAgg67 Try.sizeOf67 Ev.cells (fun _ => rfl) (fun x v hv => by simp [Ev.cells] at hv; rcases hv with rfl | rfl | rfl | rfl | rfl | rfl | rfl | rfl | rfl <;> rfl) cf hO g #[] b 0 c xs.toArray w eg
      (fun m os dk _ x y => by rw [Array.append_empty]; exact (hcl x y _).mono fun e w' ⟨he, hb⟩ => ⟨he, hb.grew⟩) (holdsK_row (fun _ => rfl) hw hk) hb (by simp; omega) hT
    have hcon' : Calls Try.prog 57 #[.slice (some ⟨b, 0, none⟩) xs.toArray.size c, .func (.func g) #[] #[]] w _ := hcon
    rw [List.size_toArray] at hcon'
    refine hcon'.mono ?_
    rintro e w' ⟨rfl, n, os, rfl⟩
    exact ⟨(), rfl, sorted_mem (fun _ => rfl) hw hk (by simp)⟩

open Go.Shelf Go.Lib Go.Sort in
theorem sort1_w {w0 w : World} {L : List E.Item} (hw : Mem w0 L w) {j c : Nat} {A : Option Addr} {xs : List Ev} (hk : L[j]? = some (evRow A c xs)) (hn : xs.length ≤ 1000000) :
    Calls Try.prog 57 #[.slice A xs.length c, .func (.func 58) #[] #[]] w fun e w' => ∃ _ : Unit, e = .returned (.tuple #[]) ∧ Mem w0 (L.set j (evRow A c (xs.mergeSort le1))) w' := by
  have hlt : (ltOf setCmp) = fun x y => lexLt x.keys2 y.keys2 := by funext x y; exact setCmp_lt x y
  have := sortBy_w setCmp 58 (by rw [hlt]; exact swo_key Ev.keys2 11 (fun _ => rfl)) (fun x y h1 h2 => by rw [hlt] at h1 h2; exact keys2_inj (lexLt_total rfl h1 h2)) Try.call58 set1_w hw hk hn
  rw [hlt] at this
  exact this
open Go.Shelf Go.Lib Go.Sort in
theorem sort2_w {w0 w : World} {L : List E.Item} (hw : Mem w0 L w) {j c : Nat} {A : Option Addr} {xs : List Ev} (hk : L[j]? = some (evRow A c xs)) (hn : xs.length ≤ 1000000) :
    Calls Try.prog 57 #[.slice A xs.length c, .func (.func 61) #[] #[]] w fun e w' => ∃ _ : Unit, e = .returned (.tuple #[]) ∧ Mem w0 (L.set j (evRow A c (xs.mergeSort le2))) w' := by
  have hlt : (ltOf evCmp) = fun x y => lexLt x.keys y.keys := by funext x y; exact lexCmp_lt x.keys y.keys
  have := sortBy_w evCmp 61 (by rw [hlt]; exact swo_key Ev.keys 9 (fun _ => rfl)) (fun x y h1 h2 => by rw [hlt] at h1 h2; exact keys_inj (lexLt_total rfl h1 h2)) Try.call61 evCmp_w hw hk hn
  rw [hlt] at this
  exact this

end Go.Proofs.Cus
