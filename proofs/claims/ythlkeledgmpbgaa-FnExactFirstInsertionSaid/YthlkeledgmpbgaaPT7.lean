
/- Tables: the test on cells says the same as the plain notion of a valid table; used cells, costs and clusters over the plain theory. -/

import Derived.Test.YthlkeledgmpbgaaPT4

import Derived.Test.YthlkeledgmpbgaaPT6

import Derived.Test.YthlkeledgmpbgaaMTab2

namespace Go.Proofs.Ythlkeledgmpbgaa.G

open Go.RowKit Go.Proofs.YthlkeledgmpbgaaW.PrintWords Go.Proofs.YthlkeledgmpbgaaW.PrintLast Go.Proofs.YthlkeledgmpbgaaW.PrintMore

set_option linter.unusedVariables false

set_option linter.unusedSectionVars false

set_option linter.unusedSimpArgs false

theorem wayF_iff (l : List Int) (key : Nat) : ∀ (c s : Nat), wayF l key s c = true ↔ ∀ m, m < c → 0 ≤ l.getD ((key + s + m) % l.length) 0
  | 0, s => by simp [wayF]
  | c + 1, s => by
    rw [wayF, Bool.and_eq_true, decide_eq_true_eq, wayF_iff l key c (s + 1)]
    constructor
    · rintro ⟨h0, h⟩ m hm
      cases m with
      | zero => exact h0
      | succ m => have := h m (by omega); rwa [show key + (s + 1) + m = key + s + (m + 1) by omega] at this
    · intro h
      exact ⟨h 0 (by omega), fun m hm => by have := h (m + 1) (by omega); rwa [show key + s + (m + 1) = key + (s + 1) + m by omega] at this⟩
theorem okFrom_iff (l : List Int) : ∀ (d i : Nat), okFrom l d i = true ↔ ∀ j, i ≤ j → j < i + d → okCell l j = true
  | 0, i => by
    rw [okFrom]
    exact ⟨fun _ j h1 h2 => by omega, fun _ => rfl⟩
  | d + 1, i => by
    rw [okFrom, Bool.and_eq_true, okFrom_iff l d (i + 1)]
    constructor
    · rintro ⟨h0, h⟩ j h1 h2
      by_cases e : j = i
      · rw [e]; exact h0
      · exact h j (by omega) (by omega)
    · intro h
      exact ⟨h i (Nat.le_refl _) (by omega), fun j h1 h2 => h j (by omega) (by omega)⟩
theorem own_nat (key n : Nat) : TabT.own n (key : Int) = key % n := rfl
theorem way_cell {n key m : Nat} (hn : 0 < n) (hm : m < n) : (key + m) % n = TabT.cy n (TabT.own n (key : Int) + m) := by
  have := Nat.mod_lt key hn
  rw [own_nat, ← TabT.cy_mod (by omega), Nat.mod_add_mod]
theorem us_of {l : List Int} {i : Nat} (hi : i < l.length) : TabT.us l i = decide (0 ≤ l.getD i 0) := by
  rw [TabT.us, t_g0 hi]
theorem tbl_cells {l : List Int} (h : tblB l = true) : Cells l := (tblB_parts h).2.2.1
theorem tbl_valid {l : List Int} (h : tblB l = true) : TabT.Valid l := by
  obtain ⟨h1, h2, h3, h4⟩ := tblB_parts h
  have hok : okFrom l l.length 0 = true := by
    unfold tblB at h
    simp only [Bool.and_eq_true] at h
    exact h.2
  have hc := (okFrom_iff l l.length 0).1 hok
  refine ⟨?_, ?_, ?_, ?_⟩
  · obtain ⟨i, hi, e⟩ := List.getElem_of_mem h4
    exact ⟨i, hi, by rw [us_of hi, getD_get hi, e]; rfl⟩
  · intro i hi
    rw [t_g0 hi]
    exact (h3 i hi).1
  · intro i j hi hj e
    have li := TabT.us_lt hi
    have lj := TabT.us_lt hj
    rw [t_g0 li, t_g0 lj] at e
    rcases Nat.lt_trichotomy i j with c | c | c
    · exact absurd e (tbl_dist h i j c lj (us_val hi))
    · exact c
    · exact absurd e.symm (tbl_dist h j i c li (us_val hj))
  · intro i hi m hm
    have li := TabT.us_lt hi
    have hv := us_val hi
    have := hc i (Nat.zero_le _) (by omega)
    obtain ⟨key, hkey⟩ : ∃ key : Nat, l.getD i 0 = key := ⟨(l.getD i 0).toNat, by omega⟩
    rw [t_g0 li, hkey] at hm ⊢
    rw [okCell, decide_eq_false (by omega), Bool.false_or, Bool.and_eq_true, hkey, Int.toNat_natCast, costN_cost li] at this
    have hw := (wayF_iff l key _ 0).1 this.2 m hm
    have hm2 := TabT.cost_lt li (key : Int)
    rw [Nat.add_zero, way_cell (by omega) (by omega)] at hw
    rw [us_of (TabT.cy_lt (by have := TabT.own_lt (n := l.length) (by omega) (key : Int); omega))]
    exact decide_eq_true hw
theorem valid_tbl {l : List Int} (h1 : 2 ≤ l.length) (h2 : l.length ≤ 12) (hc : Cells l) (hV : TabT.Valid l) : tblB l = true := by
  unfold tblB
  simp only [Bool.and_eq_true, decide_eq_true_eq]
  refine ⟨⟨⟨by omega, ?_⟩, ?_⟩, ?_⟩
  · rw [List.all_eq_true]
    intro x hx
    obtain ⟨i, hi, e⟩ := List.getElem_of_mem hx
    have := hc i hi
    rw [getD_get hi, e] at this
    exact decide_eq_true this
  · obtain ⟨i, hi, hu⟩ := hV.free
    have := hc i hi
    rw [us_of hi, decide_eq_false_iff_not] at hu
    have e : l.getD i 0 = -1 := by omega
    rw [← e]
    exact getD_mem hi
  · rw [okFrom_iff]
    intro j _ hj
    rw [Nat.zero_add] at hj
    by_cases c : l.getD j 0 < 0
    · rw [okCell, decide_eq_true c, Bool.true_or]
    · have hu : TabT.us l j = true := by rw [us_of hj]; exact decide_eq_true (by omega)
      obtain ⟨key, hkey⟩ : ∃ key : Nat, l.getD j 0 = key := ⟨(l.getD j 0).toNat, by omega⟩
      rw [okCell, decide_eq_false c, Bool.false_or, Bool.and_eq_true, hkey, Int.toNat_natCast, costN_cost hj]
      constructor
      · rw [Bool.not_eq_true', decide_eq_false_iff_not]
        intro hm
        obtain ⟨i, hi, e⟩ := List.getElem_of_mem hm
        rw [List.length_take] at hi
        rw [List.getElem_take] at e
        have hi2 : i < l.length := by omega
        have ei : l.getD i 0 = key := by rw [getD_get hi2]; exact e
        have := hV.nodup i j (by rw [us_of hi2, ei]; exact decide_eq_true (by omega)) hu (by rw [t_g0 hi2, t_g0 hj, ei, hkey])
        omega
      · rw [wayF_iff]
        intro m hm
        have hm2 := TabT.cost_lt hj (key : Int)
        have := hV.path j hu m (by rw [t_g0 hj, hkey]; exact hm)
        rw [t_g0 hj, hkey, us_of (TabT.cy_lt (by have := TabT.own_lt (n := l.length) (by omega) (key : Int); omega))] at this
        rw [Nat.add_zero, way_cell (by omega) (by omega)]
        exact of_decide_eq_true this
/-! ### Used cells -/

theorem idxs_alike {t u : List Int} (h : TabT.Alike t u) : ∀ q, q ≤ t.length → idxsTo posP t q = idxsTo posP u q
  | 0, _ => rfl
  | q + 1, hq => by
    have e := h.2 q
    rw [us_of (by omega), us_of (by have := h.1; omega)] at e
    rw [idxsTo, idxsTo, idxs_alike h q (by omega), show posP (t.getD q 0) = posP (u.getD q 0) by rw [posP, posP]; exact e]
theorem used_alike {t u : List Int} (h : TabT.Alike t u) : idxsTo posP t t.length = idxsTo posP u u.length := by rw [idxs_alike h _ (Nat.le_refl _), h.1]
theorem used_many (l : List Int) : (idxsTo posP l l.length).length = TabT.many l := by
  have key : ∀ q, q ≤ l.length → (idxsTo posP l q).length = ((l.take q).filter fun k => decide (0 ≤ k)).length := by
    intro q
    induction q with
    | zero => intro _; simp [idxsTo]
    | succ q ih =>
      intro hq
      rw [idxsTo, take_succ_getD (by omega), List.filter_append, List.length_append, List.length_append, ih (by omega)]
      congr 1
      unfold posP
      cases c : decide (0 ≤ l.getD q 0) with
      | true => rw [List.filter_cons_of_pos (by exact c)]; simp
      | false => rw [List.filter_cons_of_neg (by rw [c]; decide)]; simp
  rw [key _ (Nat.le_refl _), List.take_length, TabT.many]
/-! ### Costs -/

theorem costs_len (l : List Int) : (TabT.costs l).length = l.length := by simp [TabT.costs]
theorem cosTo_sum (l : List Int) : ∀ q, q ≤ l.length → (cosTo l q).sum = ((((TabT.costs l).take q).sum : Nat) : Int)
  | 0, _ => by simp [cosTo, idxsTo]
  | q + 1, hq => by
    have e : (TabT.costs l).take (q + 1) = (TabT.costs l).take q ++ [(TabT.costs l).getD q 0] := by
      have hl := costs_len l
      rw [List.take_add_one, List.getElem?_eq_getElem (by omega), Option.toList_some, List.getD_eq_getElem?_getD, List.getElem?_eq_getElem (by omega)]
      rfl
    rw [cosTo_succ, List.sum_append, cosTo_sum l q (by omega), e, List.sum_append, List.sum_singleton, TabT.getD_costs l q (by omega), t_g0 (by omega), Int.natCast_add]
    congr 1
    unfold posP
    by_cases c : 0 ≤ l.getD q 0
    · obtain ⟨key, hkey⟩ : ∃ key : Nat, l.getD q 0 = key := ⟨(l.getD q 0).toNat, by omega⟩
      rw [if_pos (decide_eq_true c), if_pos c, List.sum_singleton, cellC, Int.toNat_natCast, hkey, Int.toNat_natCast, costN_cost (by omega)]
    · rw [if_neg (by rw [decide_eq_false c]; decide), if_neg c]
      rfl
theorem costsV_sum (l : List Int) : (costsV l).sum = ((TabT.total l : Nat) : Int) := by
  rw [costsV, cosTo_sum l _ (Nat.le_refl _), TabT.total, ← costs_len l, List.take_length]
theorem costsV_mem {l : List Int} {x : Int} : x ∈ costsV l ↔ ∃ i, TabT.us l i = true ∧ x = ((TabT.cost l.length i (l.getD i (-1)) : Nat) : Int) := by
  have cell : ∀ j, j < l.length → 0 ≤ l.getD j 0 → cellC l (j : Int) = ((TabT.cost l.length j (l.getD j (-1)) : Nat) : Int) := by
    intro j hj h0
    obtain ⟨key, hkey⟩ : ∃ key : Nat, l.getD j 0 = key := ⟨(l.getD j 0).toNat, by omega⟩
    rw [t_g0 hj, cellC, Int.toNat_natCast, hkey, Int.toNat_natCast, costN_cost hj]
  unfold costsV cosTo
  rw [List.mem_map]
  constructor
  · rintro ⟨a, ha, rfl⟩
    obtain ⟨j, rfl, hj, hp⟩ := (idxsTo_mem posP l a _).1 ha
    have h0 : 0 ≤ l.getD j 0 := of_decide_eq_true hp
    exact ⟨j, by rw [us_of hj]; exact decide_eq_true h0, cell j hj h0⟩
  · rintro ⟨i, hi, rfl⟩
    have li := TabT.us_lt hi
    exact ⟨(i : Int), (idxsTo_mem posP l _ _).2 ⟨i, rfl, li, decide_eq_true (us_val hi)⟩, cell i li (us_val hi)⟩
theorem foldmax_ge (l : List Int) : ∀ (b : Int), b ≤ l.foldl max b ∧ ∀ x ∈ l, x ≤ l.foldl max b := by
  induction l with
  | nil => intro b; exact ⟨Int.le_refl _, fun x hx => by cases hx⟩
  | cons a l ih =>
    intro b
    rw [List.foldl_cons]
    have := ih (max b a)
    refine ⟨by omega, fun x hx => ?_⟩
    rcases List.mem_cons.1 hx with rfl | hx
    · omega
    · exact this.2 x hx
theorem foldmax_mem (l : List Int) : ∀ (b : Int), l.foldl max b = b ∨ l.foldl max b ∈ l := by
  induction l with
  | nil => intro b; exact .inl rfl
  | cons a l ih =>
    intro b
    rw [List.foldl_cons]
    rcases ih (max b a) with h | h
    · rw [h]
      by_cases c : b ≤ a
      · right; rw [show max b a = a by omega]; simp
      · left; omega
    · right; simp [h]
/-- The robin hood table's greatest cost is not above that of another table of the same keys. -/
theorem robin_greatest {t u : List Int} (ht : TabT.Robin t) (hu : TabT.Valid u) (hl : t.length = u.length) (hk : (TabT.keys t).Perm (TabT.keys u)) : (costsV t).foldl max 0 ≤ (costsV u).foldl max 0 := by
  have g := foldmax_ge (costsV u) 0
  rcases foldmax_mem (costsV t) 0 with e | e
  · rw [e]; exact g.1
  · obtain ⟨i, hi, hx⟩ := costsV_mem.1 e
    obtain ⟨j, hj, hle⟩ := ht.greatest hu hl hk hi
    have := g.2 _ (costsV_mem.2 ⟨j, hj, rfl⟩)
    rw [hx]
    rw [← hl] at this
    omega
/-! ### Tables of keys -/

section

variable {n : Nat} {ks : List Int} (h2 : 2 ≤ n) (h12 : n ≤ 12) (hl : ks.length < n) (hk : ∀ x ∈ ks, 0 ≤ x ∧ x ≤ 999) (hd : ks.Nodup)
include h2 h12 hl hk hd
theorem plain_valid : TabT.Valid (TabT.insAll (TabT.empty n) ks) ∧ (TabT.keys (TabT.insAll (TabT.empty n) ks)).Perm ks ∧ (TabT.insAll (TabT.empty n) ks).length = n := TabT.table_valid (fun k hx => (hk k hx).1) hd hl
theorem plain_tbl : tblB (TabT.insAll (TabT.empty n) ks) = true := by
  obtain ⟨hV, _, hlen⟩ := plain_valid h2 h12 hl hk hd
  have F := filled ks hl hk ks.length (Nat.le_refl _)
  rw [List.take_length] at F
  exact valid_tbl (by omega) (by omega) F.cells hV
theorem robin_all : RFilled n (robAll (TabT.empty n) ks) ks := by
  have F := rfilled h2 ks hl hk hd ks.length (Nat.le_refl _)
  rwa [List.take_length] at F
theorem robin_tbl : tblB (robAll (TabT.empty n) ks) = true := by
  have F := robin_all h2 h12 hl hk hd
  exact valid_tbl (by rw [F.len_]; omega) (by rw [F.len_]; omega) F.cells F.robin.valid
end

theorem keysZ_keys (l : List Int) : (keysZ l).Perm (TabT.keys l) := keysZ_perm l
end Go.Proofs.Ythlkeledgmpbgaa.G
