
/- Pure facts on printed functions: the keys of a table in order, how many they are, whether numbers are different keys. -/

import Derived.Test.YthlkeledgmpbgaaGx11
import Derived.Test.YthlkeledgmpbgaaGx3

import Derived.Test.YthlkeledgmpbgaaPT3

import Derived.Test.YthlkeledgmpbgaaGvO

namespace Go.Proofs.Ythlkeledgmpbgaa.G

open Go.RowKit Go.Proofs.YthlkeledgmpbgaaW.PrintWords Go.Proofs.YthlkeledgmpbgaaW.PrintLast Go.Proofs.YthlkeledgmpbgaaW.PrintMore

set_option linter.unusedVariables false

set_option linter.unusedSimpArgs false

theorem getD_mem {l : List Int} {i : Nat} (h : i < l.length) : l.getD i 0 ∈ l := by
  rw [List.getD_eq_getElem?_getD, List.getElem?_eq_getElem h]; exact List.getElem_mem h
theorem getD_get {l : List Int} {i : Nat} (h : i < l.length) : l.getD i 0 = l[i] := by
  rw [List.getD_eq_getElem?_getD, List.getElem?_eq_getElem h]; rfl
/-! ### A number put into an increasing list -/

def putZ (n : Int) : List Int → List Int
  | [] => [n]
  | y :: r => if y < n then y :: putZ n r else if y = n then y :: r else n :: y :: r
theorem putZ_split (n : Int) : ∀ (i : Nat) (L : List Int), i ≤ L.length → (∀ j, j < i → L.getD j 0 < n) → putZ n L = L.take i ++ putZ n (L.drop i)
  | 0, L, _, _ => by simp
  | i + 1, [], h, _ => by simp at h
  | i + 1, y :: r, h, hl => by
    have h0 : y < n := hl 0 (by omega)
    rw [putZ, if_pos h0, List.take_succ_cons, List.drop_succ_cons, List.cons_append, ← putZ_split n i r (by simpa using h) (fun j hj => by have := hl (j + 1) (by omega); simpa using this)]
theorem putZ_mem (n x : Int) : ∀ L : List Int, x ∈ putZ n L ↔ x = n ∨ x ∈ L
  | [] => by simp [putZ]
  | y :: r => by
    rw [putZ]
    split
    · rw [List.mem_cons, putZ_mem n x r, List.mem_cons]
      constructor
      · rintro (h | h | h)
        · exact Or.inr (Or.inl h)
        · exact Or.inl h
        · exact Or.inr (Or.inr h)
      · rintro (h | h | h)
        · exact Or.inr (Or.inl h)
        · exact Or.inl h
        · exact Or.inr (Or.inr h)
    · split
      · rename_i h; subst h; simp
      · simp
theorem putZ_strict (n : Int) : ∀ L : List Int, L.Pairwise (· < ·) → (putZ n L).Pairwise (· < ·)
  | [], _ => by simp [putZ]
  | y :: r, h => by
    rw [List.pairwise_cons] at h
    rw [putZ]
    split
    · rename_i hy
      rw [List.pairwise_cons]
      refine ⟨fun x hx => ?_, putZ_strict n r h.2⟩
      rcases (putZ_mem n x r).mp hx with e | e
      · omega
      · exact h.1 x e
    · split
      · exact List.pairwise_cons.mpr h
      · rw [List.pairwise_cons]
        refine ⟨fun x hx => ?_, List.pairwise_cons.mpr h⟩
        rcases List.mem_cons.mp hx with e | e
        · omega
        · have := h.1 x e; omega
theorem putZ_len (n : Int) : ∀ L : List Int, (putZ n L).length ≤ L.length + 1
  | [] => by simp [putZ]
  | y :: r => by
    have := putZ_len n r
    rw [putZ]
    split
    · simp; omega
    · split <;> simp
theorem l1Put_l0 (L : List Int) (n : Int) (hl : L.length ≤ 1000000) : ∀ (d i : Nat), i + d = L.length → (∀ j, j < i → L.getD j 0 < n) → Ev (fun k => spec_l1Put.l0 k L n (i : Int)) (putZ n L) := by
  intro d
  induction d with
  | zero =>
    intro i hd hlt
    refine Ev.end_ fun k => ?_
    rw [spec_l1Put.l0, if_neg (by omega)]
    simp only [Option.bind_some, List.nil_append, List.length_nil, Int.toNat_natCast]
    rw [if_pos (by omega), if_pos (by omega), if_pos (by simp; omega), if_pos (by simp; omega), if_pos (by simp; omega), putZ_split n i L (by omega) hlt, List.drop_of_length_le (by omega), List.append_nil]
    rfl
  | succ d ih =>
    intro i hd hlt
    have hi : i < L.length := by omega
    by_cases h1 : L.getD i 0 < n
    · refine Ev.one (ih (i + 1) (by omega) (fun j hj => ?_)) fun k => ?_
      · by_cases e : j = i
        · rw [e]; exact h1
        · exact hlt j (by omega)
      · rw [spec_l1Put.l0, if_pos (by omega), if_pos (by omega), rd_nat, if_pos h1, wrap_next (n := L.length) hi (by omega)]
    · by_cases h2 : L.getD i 0 = n
      · refine Ev.end_ fun k => ?_
        rw [spec_l1Put.l0, if_pos (by omega), if_pos (by omega), rd_nat, if_neg h1, if_pos h2, putZ_split n i L (by omega) hlt, drop_getD hi, putZ, if_neg h1, if_pos h2, ← drop_getD hi, List.take_append_drop]
      · refine Ev.end_ fun k => ?_
        rw [spec_l1Put.l0, if_pos (by omega), if_pos (by omega), rd_nat, if_neg h1, if_neg h2]
        simp only [Option.bind_some, List.nil_append, List.length_nil, Int.toNat_natCast]
        rw [if_pos (by omega), if_pos (by simp; omega), if_pos (by simp; omega), if_pos (by simp; omega), putZ_split n i L (by omega) hlt, drop_getD hi, putZ, if_neg h1, if_neg h2, List.append_assoc]
        rfl
theorem l1Put_ev (L : List Int) (n : Int) (hl : L.length ≤ 1000000) : Ev (fun k => spec_l1Put.f k L n) (putZ n L) := by
  unfold spec_l1Put.f
  exact l1Put_l0 L n hl L.length 0 (by omega) (fun j hj => by omega)
/-! ### The keys in order -/

def prsTo (l : List Int) : Nat → List Int
  | 0 => []
  | q + 1 => if l.getD q 0 = -1 then prsTo l q else putZ (l.getD q 0) (prsTo l q)
theorem prsTo_len (l : List Int) : ∀ q, (prsTo l q).length ≤ q
  | 0 => by simp [prsTo]
  | q + 1 => by
    have := prsTo_len l q
    have := putZ_len (l.getD q 0) (prsTo l q)
    rw [prsTo]
    split <;> omega
theorem prsTo_mem (l : List Int) (x : Int) : ∀ q, x ∈ prsTo l q ↔ ∃ j, j < q ∧ l.getD j 0 = x ∧ x ≠ -1
  | 0 => by simp [prsTo]
  | q + 1 => by
    rw [prsTo]
    split
    · rename_i h
      rw [prsTo_mem l x q]
      constructor
      · rintro ⟨j, h1, h2, h3⟩; exact ⟨j, by omega, h2, h3⟩
      · rintro ⟨j, h1, h2, h3⟩
        by_cases e : j = q
        · subst e; omega
        · exact ⟨j, by omega, h2, h3⟩
    · rename_i h
      rw [putZ_mem, prsTo_mem l x q]
      constructor
      · rintro (e | ⟨j, h1, h2, h3⟩)
        · exact ⟨q, by omega, e.symm, by omega⟩
        · exact ⟨j, by omega, h2, h3⟩
      · rintro ⟨j, h1, h2, h3⟩
        by_cases e : j = q
        · subst e; exact Or.inl h2.symm
        · exact Or.inr ⟨j, by omega, h2, h3⟩
theorem prsTo_strict (l : List Int) : ∀ q, (prsTo l q).Pairwise (· < ·)
  | 0 => by simp [prsTo]
  | q + 1 => by
    rw [prsTo]
    split
    · exact prsTo_strict l q
    · exact putZ_strict _ _ (prsTo_strict l q)
theorem strict_ext : ∀ (a b : List Int), a.Pairwise (· < ·) → b.Pairwise (· < ·) → (∀ x, x ∈ a ↔ x ∈ b) → a = b
  | [], [], _, _, _ => rfl
  | [], y :: b, _, _, h => by have := (h y).mpr (List.mem_cons_self); cases this
  | x :: a, [], _, _, h => by have := (h x).mp (List.mem_cons_self); cases this
  | x :: a, y :: b, ha, hb, h => by
    rw [List.pairwise_cons] at ha hb
    have e : x = y := by
      rcases List.mem_cons.mp ((h x).mp (List.mem_cons_self)) with e | e
      · exact e
      · rcases List.mem_cons.mp ((h y).mpr (List.mem_cons_self)) with e2 | e2
        · exact e2.symm
        · have := hb.1 x e; have := ha.1 y e2; omega
    subst e
    congr 1
    refine strict_ext a b ha.2 hb.2 (fun z => ?_)
    constructor
    · intro hz
      rcases List.mem_cons.mp ((h z).mp (List.mem_cons_of_mem _ hz)) with e | e
      · have := ha.1 z hz; omega
      · exact e
    · intro hz
      rcases List.mem_cons.mp ((h z).mpr (List.mem_cons_of_mem _ hz)) with e | e
      · have := hb.1 z hz; omega
      · exact e
theorem sortZ_perm (l : List Int) : (sortZ l).Perm l := List.mergeSort_perm l _
theorem sortZ_le (l : List Int) : (sortZ l).Pairwise (· ≤ ·) := by
  have h := List.pairwise_mergeSort (le := fun x y : Int => decide (x ≤ y)) (fun a b c => by simp; omega) (fun a b => by simp; omega) l
  exact h.imp (fun h => by simpa using h)
theorem strict_of {l : List Int} (h : l.Pairwise (· ≤ ·)) (hn : l.Nodup) : l.Pairwise (· < ·) := by
  refine (h.and hn).imp ?_
  rintro a b ⟨h1, h2⟩
  omega
theorem filter_nodup {l : List Int} (h : ∀ i j, i < j → j < l.length → 0 ≤ l.getD i 0 → l.getD i 0 ≠ l.getD j 0) : (l.filter fun x => decide (0 ≤ x)).Nodup := by
  have h1 : l.Pairwise (fun a b => 0 ≤ a → a ≠ b) := by
    rw [List.pairwise_iff_getElem]
    intro i j hi hj hij h0
    have := h i j hij hj
    rw [getD_get hi, getD_get hj] at this
    exact this h0
  have h2 := h1.filter (fun x => decide (0 ≤ x))
  refine List.Pairwise.imp_of_mem ?_ h2
  intro a b ha hb hab
  rw [List.mem_filter] at ha
  exact hab (by simpa using ha.2)
theorem tbl_dist {l : List Int} (h : tblB l = true) : ∀ i j, i < j → j < l.length → 0 ≤ l.getD i 0 → l.getD i 0 ≠ l.getD j 0 := by
  have hok : okFrom l l.length 0 = true := by
    unfold tblB at h
    simp only [Bool.and_eq_true] at h
    exact h.2
  have hall : ∀ (d i : Nat), i + d = l.length → okFrom l d i = true → ∀ j, i ≤ j → j < l.length → okCell l j = true := by
    intro d
    induction d with
    | zero => intro i hd _ j h1 h2; omega
    | succ d ih =>
      intro i hd hk j h1 h2
      rw [okFrom, Bool.and_eq_true] at hk
      by_cases e : j = i
      · rw [e]; exact hk.1
      · exact ih (i + 1) (by omega) hk.2 j (by omega) h2
  intro i j hij hj h0 e
  have hc := hall l.length 0 (by omega) hok j (Nat.zero_le _) hj
  unfold okCell at hc
  rw [Bool.or_eq_true, Bool.and_eq_true] at hc
  rcases hc with hc | hc
  · rw [decide_eq_true_eq] at hc; omega
  · have h1 := hc.1
    rw [Bool.not_eq_true', decide_eq_false_iff_not] at h1
    apply h1
    rw [← e, getD_get (by omega : i < l.length)]
    exact List.mem_take_iff_getElem.mpr ⟨i, by omega, rfl⟩
theorem keysZ_eq (l : List Int) : keysZ l = (sortZ l).filter fun x => decide (0 ≤ x) := by
  unfold keysZ
  congr 1
  funext x
  unfold negKey
  rw [Bool.eq_iff_iff]
  simp
theorem keysZ_perm (l : List Int) : (keysZ l).Perm (l.filter fun x => decide (0 ≤ x)) := by
  rw [keysZ_eq]
  exact (sortZ_perm l).filter _
theorem keysZ_len (l : List Int) : (keysZ l).length ≤ l.length := by
  rw [(keysZ_perm l).length_eq]
  exact List.length_filter_le _ _
theorem keysZ_strict {l : List Int} (h : tblB l = true) : (keysZ l).Pairwise (· < ·) := by
  have hn := (keysZ_perm l).nodup_iff.mpr (filter_nodup (tbl_dist h))
  refine strict_of ?_ hn
  rw [keysZ_eq]
  exact (sortZ_le l).filter _
theorem keysZ_mem {l : List Int} {x : Int} : x ∈ keysZ l ↔ x ∈ l ∧ 0 ≤ x := by
  rw [(keysZ_perm l).mem_iff, List.mem_filter]
  simp
theorem keysZ_sorted {l : List Int} (h : tblB l = true) : keysZ l = prsTo l l.length := by
  obtain ⟨h1, h2, h3, h4⟩ := tblB_parts h
  refine strict_ext _ _ (keysZ_strict h) (prsTo_strict _ _) (fun x => ?_)
  rw [keysZ_mem, prsTo_mem]
  constructor
  · rintro ⟨hx, h0⟩
    obtain ⟨j, hj, e⟩ := List.getElem_of_mem hx
    exact ⟨j, hj, by rw [getD_get hj]; exact e, by omega⟩
  · rintro ⟨j, hj, e, hx⟩
    have := h3 j hj
    exact ⟨by rw [← e]; exact getD_mem hj, by omega⟩
theorem keys_f {l : List Int} (h : tblB l = true) : impl_Table_keys.f l = some (keysZ l) := by
  obtain ⟨h1, h2, h3, h4⟩ := tblB_parts h
  unfold impl_Table_keys.f
  rw [if_pos ⟨by omega, by omega⟩]
/-! ### How many keys -/

def manyTo (l : List Int) : Nat → Nat
  | 0 => 0
  | q + 1 => manyTo l q + (if l.getD q 0 = -1 then 0 else 1)
theorem manyTo_le (l : List Int) : ∀ q, manyTo l q ≤ q
  | 0 => by simp [manyTo]
  | q + 1 => by have := manyTo_le l q; rw [manyTo]; split <;> omega
theorem manyTo_eq (l : List Int) (hr : ∀ j, j < l.length → -1 ≤ l.getD j 0) : ∀ q, q ≤ l.length → manyTo l q = ((l.take q).filter fun x => decide (0 ≤ x)).length
  | 0, _ => by simp [manyTo]
  | q + 1, h => by
    have := hr q (by omega)
    rw [manyTo, manyTo_eq l hr q (by omega), take_succ_getD (by omega), List.filter_append, List.length_append]
    congr 1
    by_cases e : l.getD q 0 = -1
    · rw [if_pos e, e]; rfl
    · rw [if_neg e, List.filter_cons, if_pos (decide_eq_true (by omega))]; rfl
theorem prMany_ev (l : List Int) (hn : l.length ≤ 1000000) : Ev (fun k => spec_prMany.f k l) ((manyTo l l.length : Nat) : Int) := by
  unfold spec_prMany.f
  have := Ev.up0 l.length (fun q => ((manyTo l q : Nat) : Int)) (fun k s q => spec_prMany.l0 k s l (l.length : Int) q) ((manyTo l l.length : Nat) : Int) (fun q hq h => ?_) (Ev.end_ fun k => ?_)
  · simpa [manyTo] using this
  · have hm := manyTo_le l q
    refine Ev.one h fun k => ?_
    rw [spec_prMany.l0, if_pos (by omega), if_pos (by omega), if_pos (by omega), rd_nat, wrap_next (n := l.length) hq (by omega), manyTo]
    by_cases hf : l.getD q 0 = -1
    · rw [if_pos hf, if_pos hf]; rfl
    · rw [if_neg hf, if_neg hf, wrap_next (n := 2000000) (by omega) (by omega)]
  · rw [spec_prMany.l0, if_neg (by omega)]
theorem many_keysZ {l : List Int} (hr : ∀ j, j < l.length → -1 ≤ l.getD j 0) : manyTo l l.length = (keysZ l).length := by
  rw [manyTo_eq l hr l.length (Nat.le_refl _), List.take_length, (keysZ_perm l).length_eq]
/-! ### Different keys -/

def ndFrom (l : List Int) : Nat → Nat → Bool
  | 0, _ => true
  | d + 1, i => !decide (l.getD i 0 ∈ l.take i) && ndFrom l d (i + 1)
theorem ndFrom_iff (l : List Int) : ∀ (d i : Nat), i + d = l.length → (ndFrom l d i = true ↔ ∀ j, i ≤ j → j < l.length → l.getD j 0 ∉ l.take j)
  | 0, i, h => by simp [ndFrom]; omega
  | d + 1, i, h => by
    rw [ndFrom, Bool.and_eq_true, Bool.not_eq_true', decide_eq_false_iff_not, ndFrom_iff l d (i + 1) (by omega)]
    constructor
    · rintro ⟨h1, h2⟩ j hj hl
      by_cases e : j = i
      · rw [e]; exact h1
      · exact h2 j (by omega) hl
    · intro h2
      exact ⟨h2 i (Nat.le_refl _) (by omega), fun j hj hl => h2 j (by omega) hl⟩
theorem nd_nodup (l : List Int) : ndFrom l l.length 0 = decide l.Nodup := by
  rw [Bool.eq_iff_iff, ndFrom_iff l l.length 0 (by omega), decide_eq_true_iff]
  constructor
  · intro h
    unfold List.Nodup
    rw [List.pairwise_iff_getElem]
    intro i j hi hj hij e
    apply h j (Nat.zero_le _) hj
    rw [getD_get hj, ← e]
    exact List.mem_take_iff_getElem.mpr ⟨i, by omega, rfl⟩
  · intro h j _ hj hm
    obtain ⟨i, hi, e⟩ := List.mem_take_iff_getElem.mp hm
    unfold List.Nodup at h
    rw [List.pairwise_iff_getElem] at h
    rw [getD_get hj] at e
    exact h i j (by omega) hj (by omega) e
theorem compact_nodup (l : List Int) : decide ((Go.Lib.compact (sortZ l)).length = l.length) = decide l.Nodup := by
  rw [Bool.eq_iff_iff, decide_eq_true_iff, decide_eq_true_iff]
  have hs := sortZ_le l
  have hsl := sortZ_len l
  rw [← (sortZ_perm l).nodup_iff]
  obtain ⟨s, hse⟩ : ∃ s, s = sortZ l := ⟨_, rfl⟩
  rw [← hse] at hs hsl ⊢
  rw [← hsl]
  unfold Go.Lib.compact Go.Lib.compactUpTo
  rw [List.length_map]
  have e1 : ((List.range s.length).filter (Go.Lib.keeps s.toArray)).length = s.length ↔ ∀ j ∈ List.range s.length, Go.Lib.keeps s.toArray j = true := by
    have := List.length_filter_eq_length_iff (p := Go.Lib.keeps s.toArray) (l := List.range s.length)
    rw [List.length_range] at this
    exact this
  rw [e1]
  have gb : ∀ j, j < s.length → s.toArray[j]! = s.getD j 0 := fun j hj => by
    rw [getElem!_pos s.toArray j (by simpa using hj), getD_get hj]; simp
  rw [List.pairwise_iff_getElem] at hs
  constructor
  · intro h
    unfold List.Nodup
    rw [List.pairwise_iff_getElem]
    intro i j hi hj hij e
    have hk := h j (List.mem_range.mpr hj)
    unfold Go.Lib.keeps at hk
    rw [decide_eq_true_iff, gb j hj, gb (j - 1) (by omega), getD_get hj, getD_get (by omega : j - 1 < s.length)] at hk
    rcases hk with hk | hk
    · omega
    · by_cases e2 : i = j - 1
      · subst e2; exact hk e.symm
      · have a1 := hs i (j - 1) hi (by omega) (by omega)
        have a2 := hs (j - 1) j (by omega) hj (by omega)
        omega
  · intro h j hj
    have hj := List.mem_range.mp hj
    unfold Go.Lib.keeps
    rw [decide_eq_true_iff]
    by_cases e : j = 0
    · exact Or.inl e
    · refine Or.inr ?_
      rw [gb j hj, gb (j - 1) (by omega), getD_get hj, getD_get (by omega : j - 1 < s.length)]
      unfold List.Nodup at h
      rw [List.pairwise_iff_getElem] at h
      exact fun e2 => h (j - 1) j (by omega) hj (by omega) e2.symm
def keysB (l : List Int) (a : Int) : Bool := decide (2 ≤ a ∧ a ≤ 12) && decide ((l.length : Int) < a) && (l.all fun x => decide (0 ≤ x ∧ x ≤ 999)) && decide l.Nodup

theorem keysB_parts {l : List Int} {a : Int} (h : keysB l a = true) : 2 ≤ a ∧ a ≤ 12 ∧ (l.length : Int) < a ∧ (∀ x ∈ l, 0 ≤ x ∧ x ≤ 999) ∧ l.Nodup := by
  unfold keysB at h
  simp only [Bool.and_eq_true, decide_eq_true_eq, List.all_eq_true] at h
  exact ⟨h.1.1.1.1, h.1.1.1.2, h.1.1.2, h.1.2, h.2⟩
/-! ### Whether two rows are the same -/

theorem same_loop (F : Nat → List Int → List Int → Int → Int → Option Bool) (hF : ∀ k x0 x1 x12 x13, F (k + 1) x0 x1 x12 x13 = if x13 < x12 then (if 0 ≤ x13 then (if x13 < (x0.length : Int) then (if x13 < (x1.length : Int) then (if (rd x0 x13) = (rd x1 x13) then (F k x0 x1 x12 (wrap64 (x13 + 1))) else (some false)) else (none)) else (none)) else (none)) else (some true))
    (a b : List Int) (hl : a.length = b.length) (hn : a.length ≤ 1000000) : ∀ (d i : Nat), i + d = a.length → Ev (fun k => F k a b (a.length : Int) (i : Int)) (decide (a.drop i = b.drop i)) := by
  intro d
  induction d with
  | zero =>
    intro i hd
    refine Ev.end_ fun k => ?_
    rw [hF, if_neg (by omega), List.drop_of_length_le (by omega), List.drop_of_length_le (by omega)]
    simp
  | succ d ih =>
    intro i hd
    rw [drop_getD (l := a) (i := i) (by omega), drop_getD (l := b) (i := i) (by omega)]
    by_cases h : a.getD i 0 = b.getD i 0
    · have := ih (i + 1) (by omega)
      rw [h]
      simp only [List.cons.injEq, true_and]
      refine Ev.one this fun k => ?_
      rw [hF, if_pos (by omega), if_pos (by omega), if_pos (by omega), if_pos (by omega), rd_nat, rd_nat, if_pos h, wrap_next (n := a.length) (by omega) (by omega)]
    · refine Ev.end_ fun k => ?_
      rw [hF, if_pos (by omega), if_pos (by omega), if_pos (by omega), if_pos (by omega), rd_nat, rd_nat, if_neg h, decide_eq_false (by simp only [List.cons.injEq]; exact fun e => h e.1)]
end Go.Proofs.Ythlkeledgmpbgaa.G
