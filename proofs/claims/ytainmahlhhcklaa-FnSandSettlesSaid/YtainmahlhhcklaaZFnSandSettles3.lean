/- The law FnSandSettles: part 3 of the printed functions and the facts on them that its row leans on (merged by this session's slim.py). -/
import Derived.Test.YtainmahlhhcklaaZFnSandSettles2
namespace SandT
/-- Settling in between changes nothing. -/
theorem stab_plus {a b : List Int} (ha : Nonneg a) (hb : Nonneg b) : (stab (plus (stab a).1 b)).1 = (stab (plus a b)).1 := by
  rw [stab_run a, plus_run]
  exact (stab_of_run (nn_plus ha hb) (legal_plus b hb _ _ (stab_legal a))).symm
def ones (n : Nat) : List Int := List.replicate n 1
theorem get_ones (n j : Nat) (h : j < n) : (ones n).getD j 0 = 1 := by
  simp [ones, List.getD_eq_getElem?_getD, h]
theorem nn_ones (n : Nat) : Nonneg (ones n) := by
  intro j
  unfold ones
  rw [List.getD_eq_getElem?_getD, List.getElem?_replicate]
  split <;> simp
/-- One grain more on each node. -/
def more (c : List Int) : List Int := plus c (ones c.length)
@[simp] theorem length_more (c : List Int) : (more c).length = c.length := by simp [more]
theorem sum_count (n : Nat) : ∀ (s : List Nat), (∀ i ∈ s, i < n) → s.length = ((List.range n).map fun j => s.count j).sum
  | [], _ => by
    simp only [List.count_nil, List.length_nil]
    induction n with
    | zero => rfl
    | succ n ih => rw [List.range_succ, List.map_append, List.sum_append, ← ih (fun i hi => by simp at hi)]; simp
  | i :: s, h => by
    have ih := sum_count n s (fun k hk => h k (by simp [hk]))
    have hi := h i (by simp)
    rw [List.length_cons, ih]
    clear ih
    have key : ∀ m, ((List.range m).map fun j => (i :: s).count j).sum = ((List.range m).map fun j => s.count j).sum + if i < m then 1 else 0 := by
      intro m
      induction m with
      | zero => simp
      | succ m ih =>
        rw [List.range_succ, List.map_append, List.map_append, List.sum_append, List.sum_append, ih]
        simp only [List.map_cons, List.map_nil, List.sum_cons, List.sum_nil, List.count_cons]
        by_cases e : i = m
        · subst e; simp; omega
        · have e1 : (i == m) = false := by simpa using e
          rw [e1]
          by_cases h1 : i < m
          · have h2 : i < m + 1 := by omega
            simp only [h1, h2, if_true, Bool.false_eq_true, if_false]; omega
          · have h2 : ¬ i < m + 1 := by omega
            simp only [h1, h2, Bool.false_eq_true, if_false]; omega
    rw [key n, if_pos hi]
def Rec (c : List Int) : Prop := Stable c ∧ (stab (more c)).1 = c
theorem plus_zero {a b : List Int} (hb : ∀ j, j < a.length → b.getD j 0 = 0) : plus a b = a := by
  apply ext_getD (by simp)
  intro j hj
  have hj' : j < a.length := by simpa using hj
  rw [get_plus _ _ _ hj', hb j hj']; omega
def const (n : Nat) (k : Int) : List Int := List.replicate n k
theorem get_const (n j : Nat) (k : Int) (h : j < n) : (const n k).getD j 0 = k := by
  simp [const, List.getD_eq_getElem?_getD, h]
theorem nn_const (n : Nat) {k : Int} (hk : 0 ≤ k) : Nonneg (const n k) := by
  intro j
  unfold const
  rw [List.getD_eq_getElem?_getD, List.getElem?_replicate]
  split <;> simp [hk]
/-- Recurrent sand takes the same number of grains on every node. -/
theorem rec_const {c : List Int} (hr : Rec c) (hn : Nonneg c) : ∀ (k : Nat), (stab (plus c (const c.length k))).1 = c
  | 0 => by
    rw [plus_zero (fun j hj => by rw [get_const _ _ _ hj]; rfl)]
    exact stab_fix hr.1
  | k + 1 => by
    have ih := rec_const hr hn k
    have e : plus c (const c.length ((k + 1 : Nat) : Int)) = plus (plus c (const c.length k)) (ones c.length) := by
      apply ext_getD (by simp)
      intro j hj
      have hj' : j < c.length := by simpa using hj
      rw [get_plus _ _ _ hj', get_plus _ _ _ (by simpa using hj'), get_plus _ _ _ hj', get_const _ _ _ hj', get_const _ _ _ hj', get_ones _ _ hj']
      push_cast; omega
    rw [e, ← stab_plus (nn_plus hn (nn_const _ (by omega))) (nn_ones _), ih]
    exact hr.2
/-- The greatest stable sand is recurrent; it is the neutral one. -/
def top (n : Nat) : List Int := const n ((n : Int) - 1)
theorem neutral {e : List Int} (hr : Rec e) (hn : Nonneg e) : (stab (plus e (top e.length))).1 = e := by
  rcases Nat.eq_zero_or_pos e.length with h0 | h0
  · have : e = [] := List.eq_nil_of_length_eq_zero h0
    subst this; rfl
  · have := rec_const hr hn (e.length - 1)
    unfold top
    have e1 : (((e.length - 1 : Nat) : Int)) = (e.length : Int) - 1 := by omega
    rwa [e1] at this
/-- A list in which i stands as often as f says. -/
def often (f : Nat → Nat) : Nat → List Nat
  | 0 => []
  | n + 1 => often f n ++ List.replicate (f n) n
def times (k : Nat) (e : List Int) : List Int := e.map fun x => (k : Int) * x
@[simp] theorem length_times (k : Nat) (e : List Int) : (times k e).length = e.length := by simp [times]
def rep (e : List Int) : Nat → List Int
  | 0 => top e.length
  | k + 1 => (stab (plus (rep e k) e)).1
@[simp] theorem length_top (n : Nat) : (top n).length = n := by simp [top, const]
@[simp] theorem length_rep (e : List Int) : ∀ k, (rep e k).length = e.length
  | 0 => by simp [rep]
  | k + 1 => by simp [rep, length_rep e k]
end SandT
namespace Go.Proofs.Ytainmahlhhcklaa.G
open Go.RowKit Go.Proofs.YtainmahlhhcklaaW.PrintWords Go.Proofs.YtainmahlhhcklaaW.PrintLast Go.Proofs.YtainmahlhhcklaaW.PrintMore
set_option linter.unusedVariables false
set_option linter.unusedSimpArgs false
def sandB (l : List Int) : Bool := decide (l.length ≤ 8) && l.all fun x => decide (0 ≤ x ∧ x ≤ 60)
theorem sandB_len {l : List Int} (h : sandB l = true) : l.length ≤ 8 := by unfold sandB at h; simp at h; exact h.1
theorem sandB_get {l : List Int} (h : sandB l = true) (j : Nat) : 0 ≤ l.getD j 0 ∧ l.getD j 0 ≤ 60 := by
  unfold sandB at h
  simp only [Bool.and_eq_true, List.all_eq_true, decide_eq_true_eq] at h
  rcases Nat.lt_or_ge j l.length with hj | hj
  · have := h.2 (l.getD j 0) (by rw [List.getD_eq_getElem?_getD, List.getElem?_eq_getElem hj]; exact List.getElem_mem hj)
    exact this
  · rw [List.getD_eq_getElem?_getD, List.getElem?_eq_none hj]; simp
theorem reSand_ev (l : List Int) (hn : l.length ≤ 4611686018427387904) : Ev (fun k => spec_reSand.f k l) (sandB l) := by
  unfold spec_reSand.f sandB
  by_cases h : l.length ≤ 8
  · simp only [show ((l.length : Int) ≤ 8) from by omega, if_true, h, decide_true, Bool.true_and]
    exact Ev.bind (l1All_ev l 0 60 hn) (Ev.now _)
  · simp only [show ¬ ((l.length : Int) ≤ 8) from by omega, if_false, h, decide_false, Bool.false_and]
    exact Ev.now _
theorem between_eq (a b c : Int) : impl_between.f a b c = some (decide (b ≤ a ∧ a ≤ c)) := by
  unfold impl_between.f
  split
  · rename_i h; congr 1; rw [Bool.eq_iff_iff]; simp; omega
  · rename_i h; congr 1; rw [Bool.eq_iff_iff]; simp; omega
theorem isCars_eq (n : Nat) : impl_isCars.f (n : Int) = some (decide (n ≤ 8)) := by
  unfold impl_isCars.f
  rw [between_eq, Option.bind_some]
  congr 1; rw [Bool.eq_iff_iff]; simp; omega
theorem isSand_eq (l : List Int) : impl_isSand.f l = some (sandB l) := by
  unfold impl_isSand.f sandB
  rw [isCars_eq, Option.bind_some]
  by_cases h : l.length ≤ 8
  · simp only [h, decide_true, if_true, impl_areBetween.f, Option.bind_some, Bool.true_and]
    congr 1
    congr 1
    funext x
    rw [Bool.eq_iff_iff]; simp
  · simp [h]
/-- The first node that can topple, or -1. -/
def firstI (l : List Int) : Int := match SandT.first l with
  | none => -1
  | some i => i
theorem reFirst_l0 (l : List Int) (hn : l.length ≤ 4611686018427387904) : ∀ (d i : Nat), i + d = l.length → (∀ j, j < i → l.getD j 0 < l.length) → Ev (fun k => spec_reFirst.l0 k l l (l.length : Int) i) (firstI l) := by
  intro d
  induction d with
  | zero =>
    intro i hd hb
    refine Ev.end_ fun k => ?_
    rw [spec_reFirst.l0, if_neg (by omega)]
    have : SandT.first l = none := SandT.first_of_stable (fun j hj => hb j (by omega))
    rw [firstI, this]
  | succ d ih =>
    intro i hd hb
    by_cases h : (l.length : Int) ≤ l.getD i 0
    · refine Ev.end_ fun k => ?_
      rw [spec_reFirst.l0, if_pos (by omega), if_pos (by omega), if_pos (by omega), rd_nat, if_pos (by omega)]
      have : SandT.first l = some i := by
        unfold SandT.first
        rw [List.findIdx?_eq_some_iff_getElem]
        have hi : i < l.length := by omega
        have e1 : l.getD i 0 = l[i] := by rw [List.getD_eq_getElem?_getD, List.getElem?_eq_getElem hi]; rfl
        refine ⟨hi, by rw [← e1]; simpa using h, fun j hj => ?_⟩
        have e2 : l.getD j 0 = l[j] := by rw [List.getD_eq_getElem?_getD, List.getElem?_eq_getElem (by omega)]; rfl
        have := hb j hj
        rw [← e2]; simpa using this
      rw [firstI, this]
    · refine Ev.one (ih (i + 1) (by omega) (fun j hj => ?_)) fun k => ?_
      · rcases Nat.lt_or_ge j i with h1 | h1
        · exact hb j h1
        · have : j = i := by omega
          rw [this]; omega
      · rw [spec_reFirst.l0, if_pos (by omega), if_pos (by omega), if_pos (by omega), rd_nat, if_neg (by omega), wrap_next (n := l.length) (by omega) hn]
theorem reFirst_ev (l : List Int) (hn : l.length ≤ 4611686018427387904) : Ev (fun k => spec_reFirst.f k l) (firstI l) := reFirst_l0 l hn l.length 0 (by omega) (fun j hj => absurd hj (Nat.not_lt_zero _))
def stableV (l : List Int) : Bool × Bool := if sandB l = true then (l.all fun x => decide (x < l.length), true) else (false, false)
theorem impl_IsStable_eq (l : List Int) : impl_IsStable.f l = some (stableV l) := by
  unfold impl_IsStable.f stableV
  rw [isSand_eq, Option.bind_some]
  by_cases h : sandB l = true
  · simp only [h, if_true, impl_isStable.f, Option.bind_some]
  · simp only [h, if_false]; rfl
theorem reTopple_ev (l : List Int) (hl : l.length ≤ 1000) {B : Int} (hB : B ≤ 1000000) (hb : ∀ j, -B ≤ l.getD j 0 ∧ l.getD j 0 ≤ B) (i : Nat) : Ev (fun k => spec_reTopple.f k l (i : Int)) (SandT.topl l i) := by
  unfold spec_reTopple.f
  have := Ev.up0 l.length (fun q => (SandT.topl l i).take q) (fun k s q => spec_reTopple.l0 k l (i : Int) s l (l.length : Int) q) (SandT.topl l i) (fun q hq h => Ev.one h fun k => ?_) (Ev.end_ fun k => ?_)
  · exact this
  · have hlt : ((SandT.topl l i).take q).length < 17592186044416 := by rw [List.length_take]; omega
    have hg := SandT.get_topl l i q hq
    have hbq := hb q
    rw [spec_reTopple.l0, if_pos (by omega), if_pos (by omega), if_pos (by omega), rd_nat]
    by_cases e : q = i
    · rw [if_pos (by omega), if_pos hlt, wrap_next (n := l.length) hq (by omega), wrap_id (by omega) (by omega), take_snoc (by simpa using hq) (by rw [hg, if_pos e])]
    · rw [if_neg (by omega), if_pos hlt, wrap_next (n := l.length) hq (by omega), wrap_id (by omega) (by omega), take_snoc (by simpa using hq) (by rw [hg, if_neg e])]
  · rw [spec_reTopple.l0, if_neg (by omega), List.take_of_length_le (by simp)]
theorem topple_ev (l : List Int) (hl : l.length ≤ 1000) {B : Int} (hB : B ≤ 1000000) (hb : ∀ j, -B ≤ l.getD j 0 ∧ l.getD j 0 ≤ B) (i : Nat) (hi : i < l.length) : Ev (fun k => impl_topple.f k l (i : Int)) (SandT.topl l i) := by
  unfold impl_topple.f
  have hR : (l.map (· + 1)).length = l.length := by simp
  have hg : ∀ q, q < l.length → (l.map (· + 1)).getD q 0 = l.getD q 0 + 1 := by
    intro q hq
    simp [List.getD_eq_getElem?_getD, List.getElem?_eq_getElem hq]
  have := Ev.up0 l.length (fun q => mixed (l.map (· + 1)) l q) (fun k s q => impl_topple.l0 k s (i : Int) (l.length : Int) q) (SandT.topl l i) (fun q hq h => Ev.one h fun k => ?_) (Ev.end_ fun k => ?_)
  · simpa [mixed_zero] using this
  · have hbq := hb q
    rw [impl_topple.l0, if_pos (by omega), if_pos (by omega), if_pos (by rw [length_mixed hR]; omega), rd_nat, getD_mixed hR hq, Int.toNat_natCast, wrap_id (x := l.getD q 0 + 1) (by omega) (by omega), set_mixed hR hq (hg q hq), wrap_next (n := l.length) hq (by omega)]
  · have hbi := hb i
    rw [mixed_full hR, impl_topple.l0, if_neg (by omega), if_pos (by omega), if_pos (by omega), rd_nat, hg i hi, Int.toNat_natCast, List.length_map, wrap_id (x := (l.length : Int) + 1) (by omega) (by omega), wrap_id (by omega) (by omega)]
    unfold SandT.topl
    rw [show l.getD i 0 + 1 - ((l.length : Int) + 1) = l.getD i 0 - l.length by omega]
def toppleV (l : List Int) (i : Int) : List Int × Bool :=
  if sandB l = true ∧ 0 ≤ i ∧ i < l.length ∧ (l.length : Int) ≤ l.getD i.toNat 0 ∧ sandB (SandT.topl l i.toNat) = true then (SandT.topl l i.toNat, true) else ([], false)
theorem spec_ToppleSand_ev (l : List Int) (hn : l.length ≤ 4611686018427387904) (i : Int) : Ev (fun k => spec_ToppleSand.f k l i) (toppleV l i) := by
  unfold spec_ToppleSand.f toppleV
  refine Ev.bind (reSand_ev l hn) ?_
  by_cases hs : sandB l = true
  · have hl := sandB_len hs
    have hb : ∀ j, -60 ≤ l.getD j 0 ∧ l.getD j 0 ≤ 60 := fun j => by have := sandB_get hs j; omega
    simp only [hs, if_true, true_and, l1In_eq, Option.bind_some]
    rw [wrap_id (x := (l.length : Int) - 1) (by omega) (by omega)]
    by_cases hi : 0 ≤ i ∧ i < l.length
    · obtain ⟨j, rfl⟩ := Int.eq_ofNat_of_zero_le hi.1
      have h1 : decide (0 ≤ (j : Int) ∧ (j : Int) ≤ (l.length : Int) - 1) = true := decide_eq_true (by omega)
      rw [h1]
      simp only [if_true, hi.1, hi.2, true_and, Int.toNat_natCast, rd_nat]
      by_cases hc : (l.length : Int) ≤ l.getD j 0
      · have h2 : ¬ (l.getD j 0 < (l.length : Int)) := by omega
        simp only [h2, if_false, hc, true_and]
        refine Ev.bind (reTopple_ev l (by omega) (B := 60) (by omega) hb j) ?_
        refine Ev.bind (reSand_ev _ (by simp; omega)) ?_
        by_cases h3 : sandB (SandT.topl l j) = true
        · simp only [h3, if_true]
          exact Ev.bind (reTopple_ev l (by omega) (B := 60) (by omega) hb j) (Ev.now _)
        · simp only [h3, if_false]; exact Ev.now _
      · have h2 : l.getD j 0 < (l.length : Int) := by omega
        simp only [h2, if_true, hc, false_and, if_false]; exact Ev.now _
    · have h1 : ¬ (decide (0 ≤ i ∧ i ≤ (l.length : Int) - 1) = true) := by simp; omega
      have h2 : ¬ (0 ≤ i ∧ i < (l.length : Int) ∧ (l.length : Int) ≤ l.getD i.toNat 0 ∧ sandB (SandT.topl l i.toNat) = true) := fun h => hi ⟨h.1, h.2.1⟩
      simp only [h1, if_false, h2]; exact Ev.now _
  · simp only [hs, if_false, false_and]; exact Ev.now _
theorem Clone_eq (l : List Int) (h : l.length ≤ 17592186044415) : slices_Clone_int_int.f l = some l := by unfold slices_Clone_int_int.f; rw [if_pos h]
theorem impl_ToppleSand_ev (l : List Int) (i : Int) : Ev (fun k => impl_ToppleSand.f k l i) (toppleV l i) := by
  unfold impl_ToppleSand.f toppleV
  simp only [isSand_eq, Option.bind_some]
  have jt : ∀ r : List Int × Bool, r = ([], false) → Ev (fun k => impl_ToppleSand.j0 k l i true) r := by
    rintro r rfl
    exact Ev.end_ fun k => by rw [impl_ToppleSand.j0, if_pos rfl]
  by_cases hs : sandB l = true
  · have hl := sandB_len hs
    have hb : ∀ j, -60 ≤ l.getD j 0 ∧ l.getD j 0 ≤ 60 := fun j => by have := sandB_get hs j; omega
    simp only [hs, if_true, true_and, between_eq, Option.bind_some]
    rw [wrap_id (x := (l.length : Int) - 1) (by omega) (by omega)]
    by_cases hi : 0 ≤ i ∧ i < l.length
    · obtain ⟨j, rfl⟩ := Int.eq_ofNat_of_zero_le hi.1
      have h1 : decide (0 ≤ (j : Int) ∧ (j : Int) ≤ (l.length : Int) - 1) = true := decide_eq_true (by omega)
      rw [h1]
      simp only [if_true, hi.1, hi.2, true_and, Int.toNat_natCast, rd_nat]
      by_cases hc : (l.length : Int) ≤ l.getD j 0
      · have h2 : decide (l.getD j 0 < (l.length : Int)) = false := decide_eq_false (by omega)
        simp only [h2, hc, true_and]
        refine Ev.step (f := fun k => (slices_Clone_int_int.f l).bind fun t => ((impl_topple.f k t (j : Int)).bind fun t2 => ((impl_isSand.f t2).bind fun t3 => (if t3 = true then (some (t2, true)) else (some (([] : List Int), false)))))) (fun k => by rw [impl_ToppleSand.j0, if_neg (by simp)]) ?_
        simp only [Clone_eq l (by omega), Option.bind_some]
        refine Ev.bind (topple_ev l (by omega) (B := 60) (by omega) hb j (by omega)) ?_
        simp only [isSand_eq, Option.bind_some]
        by_cases h3 : sandB (SandT.topl l j) = true
        · simp only [h3, if_true]; exact Ev.now _
        · simp only [h3, if_false]; exact Ev.now _
      · have h2 : decide (l.getD j 0 < (l.length : Int)) = true := decide_eq_true (by omega)
        simp only [h2, hc, false_and, if_false]; exact jt _ rfl
    · have h1 : ¬ (decide (0 ≤ i ∧ i ≤ (l.length : Int) - 1) = true) := by simp; omega
      have h2 : ¬ (0 ≤ i ∧ i < (l.length : Int) ∧ (l.length : Int) ≤ l.getD i.toNat 0 ∧ sandB (SandT.topl l i.toNat) = true) := fun h => hi ⟨h.1, h.2.1⟩
      simp only [h1, if_false, h2]; exact jt _ rfl
  · simp only [hs, if_false, false_and]; exact jt _ rfl
theorem toppleV_len (l : List Int) (i : Int) : (toppleV l i).1.length ≤ 8 := by
  unfold toppleV
  split
  · rename_i h; simp; exact sandB_len h.1
  · simp
theorem get_le_sum : ∀ {c : List Int}, SandT.Nonneg c → ∀ j, c.getD j 0 ≤ c.sum
  | [], _, j => by simp
  | x :: c, h, 0 => by
    have := SandT.nn_sum (c := c) (fun j => by simpa using h (j + 1))
    simp; omega
  | x :: c, h, j + 1 => by
    have h0 := h 0
    have := get_le_sum (c := c) (fun j => by simpa using h (j + 1)) j
    simp at h0 this ⊢; omega
theorem sum_le {B : Int} : ∀ {c : List Int}, (∀ j, c.getD j 0 ≤ B) → 0 ≤ B → c.sum ≤ c.length * B
  | [], _, _ => by simp
  | x :: c, h, hB => by
    have h0 := h 0
    have := sum_le (c := c) (fun j => by simpa using h (j + 1)) hB
    simp only [List.getD_cons_zero] at h0
    simp only [List.sum_cons, List.length_cons]
    push_cast
    rw [Int.add_mul]; omega
/-- Sand that is far from the ends of the numbers. -/
structure Mild (c : List Int) : Prop where
  nn : SandT.Nonneg c
  len : c.length ≤ 1000
  sum : c.sum ≤ 1000000
theorem Mild.get {c : List Int} (h : Mild c) (j : Nat) : -1000000 ≤ c.getD j 0 ∧ c.getD j 0 ≤ 1000000 := by
  have := get_le_sum h.nn j
  have := h.nn j
  have := h.sum
  omega
theorem Mild.topl {c : List Int} (h : Mild c) {i : Nat} (e : SandT.first c = some i) : Mild (SandT.topl c i) := by
  have hi := SandT.first_some e
  exact ⟨SandT.nn_topl h.nn hi.2, by simpa using h.len, by rw [SandT.sum_topl _ _ hi.1]; have := h.sum; omega⟩
theorem sandB_nn {l : List Int} (h : sandB l = true) : SandT.Nonneg l := fun j => (sandB_get h j).1
theorem sandB_sum {l : List Int} (h : sandB l = true) : l.sum ≤ 480 := by
  have := sum_le (c := l) (B := 60) (fun j => (sandB_get h j).2) (by omega)
  have := sandB_len h
  omega
theorem sandB_mild {l : List Int} (h : sandB l = true) : Mild l := ⟨sandB_nn h, by have := sandB_len h; omega, by have := sandB_sum h; omega⟩
def asI (s : List Nat) : List Int := s.map fun (i : Nat) => (i : Int)
theorem asI_len (s : List Nat) : (asI s).length = s.length := by simp [asI]
theorem stab_len : ∀ (N : Nat) {c : List Int}, SandT.Nonneg c → c.sum ≤ N → (SandT.stab c).2.length ≤ N := by
  intro N
  induction N with
  | zero =>
    intro c h hs
    cases e : SandT.first c with
    | none => rw [SandT.stab_end e]; simp
    | some i =>
      have hi := SandT.first_some e
      have := SandT.nn_sum (SandT.nn_topl h hi.2)
      rw [SandT.sum_topl _ _ hi.1] at this
      omega
  | succ N ih =>
    intro c h hs
    cases e : SandT.first c with
    | none => rw [SandT.stab_end e]; simp
    | some i =>
      have hi := SandT.first_some e
      rw [SandT.stab_step h e]
      have := ih (SandT.nn_topl h hi.2) (by rw [SandT.sum_topl _ _ hi.1]; omega)
      simpa using this
theorem reSettle_l0 : ∀ (N : Nat) (c out : List Int), Mild c → c.sum ≤ N → out.length + N ≤ 2000000 → Ev (fun k => spec_reSettle.l0 k c out (firstI c)) ((SandT.stab c).1, out ++ asI (SandT.stab c).2) := by
  have stop : ∀ (c out : List Int), SandT.first c = none → Ev (fun k => spec_reSettle.l0 k c out (firstI c)) ((SandT.stab c).1, out ++ asI (SandT.stab c).2) := by
    intro c out e
    refine Ev.end_ fun k => ?_
    rw [spec_reSettle.l0, firstI, e, if_neg (by simp), SandT.stab_end e]
    simp [asI]
  intro N
  induction N with
  | zero =>
    intro c out h hs ho
    cases e : SandT.first c with
    | none => exact stop c out e
    | some i =>
      have hi := SandT.first_some e
      have := SandT.nn_sum (h.topl e).nn
      rw [SandT.sum_topl _ _ hi.1] at this
      omega
  | succ N ih =>
    intro c out h hs ho
    cases e : SandT.first c with
    | none => exact stop c out e
    | some i =>
      have hi := SandT.first_some e
      have hl := h.len
      have fi : firstI c = (i : Int) := by rw [firstI, e]
      rw [fi]
      refine Ev.step (f := fun k => (spec_reTopple.f k c (i : Int)).bind fun t => (if out.length < 17592186044416 then ((spec_reFirst.f k t).bind fun u => (spec_reSettle.l0 k t (out ++ [(i : Int)]) u)) else none)) (fun k => by rw [spec_reSettle.l0, if_pos (by omega)]) ?_
      refine Ev.bind (reTopple_ev c h.len (by omega) h.get i) ?_
      simp only [show out.length < 17592186044416 by omega, if_true]
      refine Ev.bind (reFirst_ev _ (by rw [SandT.length_topl]; omega)) ?_
      have := ih (SandT.topl c i) (out ++ [(i : Int)]) (h.topl e) (by rw [SandT.sum_topl _ _ hi.1]; omega) (by simp; omega)
      rw [SandT.stab_step h.nn e]
      simpa [asI] using this
theorem reSettle_ev {c : List Int} (h : Mild c) : Ev (fun k => spec_reSettle.f k c) ((SandT.stab c).1, asI (SandT.stab c).2) := by
  have hl := h.len
  unfold spec_reSettle.f spec_l1Own.f
  simp only [Option.bind_some, List.length_nil, show 0 + c.length < 17592186044416 by omega, if_true, List.nil_append]
  refine Ev.bind (reFirst_ev _ (by omega)) ?_
  have h0 := SandT.nn_sum h.nn
  have h1 := h.sum
  have := reSettle_l0 c.sum.toNat c [] h (by omega) (by simp; omega)
  simpa using this
theorem firstUp_eq (c : List Int) : firstUp c = firstI c := by
  unfold firstUp firstI
  cases e : SandT.first c with
  | none =>
    refine idxF_miss _ _ _ fun j hj => ?_
    have := SandT.first_none e j hj
    simpa using this
  | some i =>
    have hi := SandT.first_some e
    have := idxF_hit (fun x => decide ((c.length : Int) ≤ x)) c i 0 hi.1 (fun j hj => ?_) (by simpa using hi.2)
    · simpa using this
    · unfold SandT.first at e
      rw [List.findIdx?_eq_some_iff_getElem] at e
      obtain ⟨h1, _, h3⟩ := e
      have := h3 j hj
      rw [List.getD_eq_getElem?_getD, List.getElem?_eq_getElem (by omega)]
      simpa using this
theorem topple_at (l : List Int) (hl : l.length ≤ 1000) {B : Int} (hB : B ≤ 1000000) (hb : ∀ j, -B ≤ l.getD j 0 ∧ l.getD j 0 ≤ B) (i : Nat) (hi : i < l.length) : impl_topple.f 2000 l (i : Int) = some (SandT.topl l i) := by
  have hR : (l.map (· + 1)).length = l.length := by simp
  have hg : ∀ q, q < l.length → (l.map (· + 1)).getD q 0 = l.getD q 0 + 1 := by
    intro q hq
    simp [List.getD_eq_getElem?_getD, List.getElem?_eq_getElem hq]
  have key : ∀ (d k q : Nat), q + d = l.length → d < k → impl_topple.l0 k (mixed (l.map (· + 1)) l q) (i : Int) (l.length : Int) q = some (SandT.topl l i) := by
    intro d
    induction d with
    | zero =>
      intro k q hd hk
      obtain ⟨k, rfl⟩ := succ_of hk
      obtain rfl : q = l.length := by omega
      have hbi := hb i
      rw [mixed_full hR, impl_topple.l0, if_neg (by omega), if_pos (by omega), if_pos (by omega), rd_nat, hg i hi, Int.toNat_natCast, List.length_map, wrap_id (x := (l.length : Int) + 1) (by omega) (by omega), wrap_id (by omega) (by omega)]
      congr 1
      rw [SandT.topl]
      congr 1
      omega
    | succ d ih =>
      intro k q hd hk
      obtain ⟨k, rfl⟩ := succ_of (Nat.lt_of_le_of_lt (Nat.zero_le _) hk)
      have hq : q < l.length := by omega
      have hbq := hb q
      rw [impl_topple.l0, if_pos (by omega), if_pos (by omega), if_pos (by rw [length_mixed hR]; omega), rd_nat, getD_mixed hR hq, Int.toNat_natCast, wrap_id (x := l.getD q 0 + 1) (by omega) (by omega), set_mixed hR hq (hg q hq), wrap_next (n := l.length) hq (by omega)]
      exact ih k (q + 1) (by omega) (by omega)
  have := key l.length 2000 0 (by omega) (by omega)
  unfold impl_topple.f
  simpa [mixed_zero] using this
theorem settle_go : ∀ (N k : Nat) (c out : List Int), N < k → Mild c → c.sum ≤ N → out.length + N ≤ 2000000 → impl_settle.go k c out = some ((SandT.stab c).1, out ++ asI (SandT.stab c).2) := by
  have stop : ∀ (k : Nat) (c out : List Int), SandT.first c = none → impl_settle.go (k + 1) c out = some ((SandT.stab c).1, out ++ asI (SandT.stab c).2) := by
    intro k c out e
    rw [impl_settle.go, firstUp_eq, firstI, e, if_pos (by simp), SandT.stab_end e]
    simp [asI]
  intro N
  induction N with
  | zero =>
    intro k c out hk h hs ho
    obtain ⟨k, rfl⟩ := succ_of hk
    cases e : SandT.first c with
    | none => exact stop k c out e
    | some i =>
      have hi := SandT.first_some e
      have := SandT.nn_sum (h.topl e).nn
      rw [SandT.sum_topl _ _ hi.1] at this
      omega
  | succ N ih =>
    intro k c out hk h hs ho
    obtain ⟨k, rfl⟩ := succ_of (Nat.lt_of_le_of_lt (Nat.zero_le _) hk)
    cases e : SandT.first c with
    | none => exact stop k c out e
    | some i =>
      have hi := SandT.first_some e
      have hl := h.len
      have fi : firstUp c = (i : Int) := by rw [firstUp_eq, firstI, e]
      rw [impl_settle.go, fi, if_neg (by omega), topple_at c h.len (by omega) h.get i hi.1, Option.bind_some, if_pos (by omega)]
      have := ih k (SandT.topl c i) (out ++ [(i : Int)]) (by omega) (h.topl e) (by rw [SandT.sum_topl _ _ hi.1]; omega) (by simp; omega)
      rw [SandT.stab_step h.nn e, this]
      simp [asI]
theorem settle_eq {c : List Int} (h : Mild c) : impl_settle.f c = some ((SandT.stab c).1, asI (SandT.stab c).2) := by
  have hl := h.len
  have h0 := SandT.nn_sum h.nn
  have h1 := h.sum
  unfold impl_settle.f
  rw [if_pos (by omega), settle_go 1000000 1000002 c [] (by omega) h (by omega) (by simp)]
  simp
def cnt (n : Nat) (s : List Nat) : List Int := (List.range n).map fun j => ((s.count j : Nat) : Int)
theorem cnt_len (n : Nat) (s : List Nat) : (cnt n s).length = n := by simp [cnt]
theorem cnt_get {n : Nat} (s : List Nat) {j : Nat} (hj : j < n) : (cnt n s).getD j 0 = (s.count j : Int) := by simp [cnt, List.getD_eq_getElem?_getD, hj]
theorem cnt_nil (n : Nat) : cnt n [] = List.replicate n 0 := by
  apply List.ext_getElem
  · simp [cnt]
  · intro j h1 h2; simp [cnt]
theorem cnt_snoc {n : Nat} (s : List Nat) {i : Nat} (hi : i < n) : (cnt n s).set i ((s.count i : Int) + 1) = cnt n (s ++ [i]) := by
  apply List.ext_getElem
  · simp [cnt]
  · intro j h1 h2
    rw [List.getElem_set]
    simp only [cnt, List.getElem_map, List.getElem_range, List.count_append, List.count_singleton]
    by_cases e : i = j
    · subst e; simp
    · simp [e]
def stabV (l : List Int) : List Int × List Int × Bool := if sandB l = true then ((SandT.stab l).1, cnt l.length (SandT.stab l).2, true) else ([], [], false)
theorem stab_lt (c : List Int) : ∀ i ∈ (SandT.stab c).2, i < c.length := SandT.legal_lt _ _ (SandT.stab_legal c)
theorem asI_get (s : List Nat) {q : Nat} (hq : q < s.length) : (asI s).getD q 0 = ((s[q] : Nat) : Int) := by simp [asI, List.getD_eq_getElem?_getD, hq]
theorem spec_stab_l0 (r : List Int) (n : Nat) (s : List Nat) (hs : ∀ i ∈ s, i < n) (hl : s.length ≤ 4000000) : Ev (fun k => spec_StabilizeSand.l0 k r (List.replicate n 0) (asI s) ((asI s).length : Int) 0) (r, cnt n s, true) := by
  have := Ev.up0 s.length (fun q => cnt n (s.take q)) (fun k x q => spec_StabilizeSand.l0 k r x (asI s) ((asI s).length : Int) q) (r, cnt n s, true) (fun q hq h => Ev.one h fun k => ?_) (Ev.end_ fun k => ?_)
  · simpa [cnt_nil] using this
  · have hm : s[q] ∈ s := List.getElem_mem _
    have hlt := hs _ hm
    have hc : (s.take q).count s[q] ≤ q := Nat.le_trans List.count_le_length (by simp; omega)
    rw [spec_StabilizeSand.l0, if_pos (by rw [asI_len]; omega), if_pos (by omega), if_pos (by rw [asI_len]; omega), rd_nat, asI_get s hq, if_pos (by omega), if_pos (by rw [cnt_len]; omega), rd_nat, cnt_get _ hlt, Int.toNat_natCast, wrap_id (x := (((s.take q).count s[q] : Nat) : Int) + 1) (by omega) (by omega), cnt_snoc _ hlt, ← List.take_succ_eq_append_getElem hq, wrap_next (n := s.length) hq (by omega)]
  · rw [spec_StabilizeSand.l0, if_neg (by rw [asI_len]; omega), List.take_length]
theorem impl_stab_l0 (r : List Int) (n : Nat) (s : List Nat) (hs : ∀ i ∈ s, i < n) (hl : s.length ≤ 4000000) : Ev (fun k => impl_StabilizeSand.l0 k r (List.replicate n 0) (asI s) ((asI s).length : Int) 0) (r, cnt n s, true) := by
  have := Ev.up0 s.length (fun q => cnt n (s.take q)) (fun k x q => impl_StabilizeSand.l0 k r x (asI s) ((asI s).length : Int) q) (r, cnt n s, true) (fun q hq h => Ev.one h fun k => ?_) (Ev.end_ fun k => ?_)
  · simpa [cnt_nil] using this
  · have hm : s[q] ∈ s := List.getElem_mem _
    have hlt := hs _ hm
    have hc : (s.take q).count s[q] ≤ q := Nat.le_trans List.count_le_length (by simp; omega)
    rw [impl_StabilizeSand.l0, if_pos (by rw [asI_len]; omega), if_pos (by omega), if_pos (by rw [asI_len]; omega), rd_nat, asI_get s hq, if_pos (by omega), if_pos (by rw [cnt_len]; omega), rd_nat, cnt_get _ hlt, Int.toNat_natCast, wrap_id (x := (((s.take q).count s[q] : Nat) : Int) + 1) (by omega) (by omega), cnt_snoc _ hlt, ← List.take_succ_eq_append_getElem hq, wrap_next (n := s.length) hq (by omega)]
  · rw [impl_StabilizeSand.l0, if_neg (by rw [asI_len]; omega), List.take_length]
theorem spec_StabilizeSand_ev (l : List Int) (hn : l.length ≤ 4611686018427387904) : Ev (fun k => spec_StabilizeSand.f k l) (stabV l) := by
  unfold spec_StabilizeSand.f stabV
  refine Ev.bind (reSand_ev l hn) ?_
  by_cases h : sandB l = true
  · have hm := sandB_mild h
    have hl := sandB_len h
    simp only [h, if_true]
    refine Ev.bind (reSettle_ev hm) ?_
    simp only [show (0 : Int) ≤ (l.length : Int) by omega, Int.toNat_natCast, show l.length ≤ 35184372088832 by omega, if_true]
    exact spec_stab_l0 _ _ _ (stab_lt l) (Nat.le_trans (stab_len 480 hm.nn (sandB_sum h)) (by omega))
  · simp only [h, if_false]
    exact Ev.now _
theorem impl_StabilizeSand_ev (l : List Int) : Ev (fun k => impl_StabilizeSand.f k l) (stabV l) := by
  unfold impl_StabilizeSand.f stabV
  simp only [isSand_eq, Option.bind_some]
  by_cases h : sandB l = true
  · have hm := sandB_mild h
    have hl := sandB_len h
    simp only [h, if_true, settle_eq hm, Option.bind_some]
    simp only [show (0 : Int) ≤ (l.length : Int) by omega, Int.toNat_natCast, show l.length ≤ 35184372088832 by omega, if_true]
    exact impl_stab_l0 _ _ _ (stab_lt l) (Nat.le_trans (stab_len 480 hm.nn (sandB_sum h)) (by omega))
  · simp only [h, if_false]
    exact Ev.now _
theorem stabV_len (l : List Int) : (stabV l).1.length ≤ 8 ∧ (stabV l).2.1.length ≤ 8 := by
  unfold stabV
  split
  · rename_i h; have := sandB_len h; simp [cnt_len]; omega
  · simp
def Bytes (l : List Int) : Prop := ∀ x ∈ l, 0 ≤ x ∧ x ≤ 255
theorem bytes_of {l : List Int} (h : ∀ x ∈ l, (Lit.int .u8 x).wf = true) : Bytes l := by
  intro x hx
  have h2 := h x hx
  simp only [Lit.wf, Bool.and_eq_true, decide_eq_true_eq] at h2
  have e1 : IntKind.u8.min = 0 := by decide
  have e2 : IntKind.u8.max = 255 := by decide
  rw [e1, e2] at h2
  exact h2
theorem Bytes.get {l : List Int} (h : Bytes l) (j : Nat) : 0 ≤ l.getD j 0 ∧ l.getD j 0 ≤ 255 := by
  rcases Nat.lt_or_ge j l.length with hj | hj
  · exact h _ (by rw [List.getD_eq_getElem?_getD, List.getElem?_eq_getElem hj]; exact List.getElem_mem hj)
  · rw [List.getD_eq_getElem?_getD, List.getElem?_eq_none hj]; simp
theorem and255 (x : Int) : 0 ≤ Go.bits .and .u64 x 255 ∧ Go.bits .and .u64 x 255 ≤ 255 := by
  obtain ⟨a, ha⟩ : ∃ a : BitVec 64, a = BitVec.ofInt 64 x := ⟨_, rfl⟩
  have e : Go.bits .and .u64 x 255 = IntKind.u64.wrap ((BitVec.ofInt 64 x &&& BitVec.ofInt 64 255).toNat : Int) := rfl
  have hle : (BitVec.ofInt 64 x &&& BitVec.ofInt 64 255).toNat ≤ 255 := by
    rw [BitVec.toNat_and]
    exact Nat.le_trans Nat.and_le_right (by decide)
  rw [e, IntKind.wrap_u64]
  omega
theorem next_ok {l : List Int} (hb : Bytes l) (p s : Int) (h0 : 0 ≤ p) (h1 : p ≤ 1000000000000000000) : ∃ v s', spec_l1Cur_next.f l p s = some (v, p + 1, s') ∧ 0 ≤ v ∧ v ≤ 255 := by
  have hw : wrap64 (p + 1) = p + 1 := wrap_id (by omega) (by omega)
  have hr : 0 ≤ rd l p ∧ rd l p ≤ 255 := hb.get _
  unfold spec_l1Cur_next.f
  rw [hw]
  by_cases c1 : p < (l.length : Int)
  · rw [if_pos c1, if_pos h0]
    by_cases c2 : p + 1 ≤ (l.length : Int)
    · rw [if_pos c2]
      exact ⟨_, _, rfl, by rw [wrap_id (by omega) (by omega)]; exact hr⟩
    · omega
  · rw [if_neg c1]
    rw [if_neg (by omega)]
    refine ⟨_, _, rfl, ?_⟩
    have := and255 ((IntKind.u64.wrap ((IntKind.u64.wrap (IntKind.u64.wrap (s * 6364136223846793005))) + 1442695040888963407)) / 1099511627776)
    rw [wrap_id (by omega) (by omega)]
    exact this
theorem tmod_ok {v a : Int} (hv : 0 ≤ v) (ha : 0 < a) : 0 ≤ Int.tmod v a ∧ Int.tmod v a < a := by
  rw [Int.tmod_eq_emod_of_nonneg hv]
  exact ⟨Int.emod_nonneg _ (by omega), Int.emod_lt_of_pos _ ha⟩
theorem pick_ok {l : List Int} (hb : Bytes l) (p s a : Int) (h0 : 0 ≤ p) (h1 : p ≤ 100000000000000000) : ∃ r p' s', spec_l1Cur_pick.f l p s a = some (r, p', s') ∧ 0 ≤ r ∧ (r < a ∨ r = 0) ∧ p ≤ p' ∧ p' ≤ p + 2 := by
  unfold spec_l1Cur_pick.f
  by_cases c1 : a ≤ 1
  · rw [if_pos c1]
    exact ⟨0, p, s, rfl, by omega, Or.inr rfl, by omega, by omega⟩
  · rw [if_neg c1]
    obtain ⟨v, s1, e1, b1, b2⟩ := next_ok hb p s h0 (by omega)
    rw [e1, Option.bind_some]
    by_cases c2 : a > 200
    · rw [if_pos c2]
      obtain ⟨v2, s2, e2, b3, b4⟩ := next_ok hb (p + 1) s1 (by omega) (by omega)
      simp only [e2, Option.bind_some]
      rw [if_neg (by omega)]
      have hw : wrap64 (wrap64 (v * 256) + v2) = v * 256 + v2 := by rw [wrap_id (x := v * 256) (by omega) (by omega), wrap_id (by omega) (by omega)]
      have := tmod_ok (v := v * 256 + v2) (a := a) (by omega) (by omega)
      rw [hw]
      exact ⟨_, _, _, rfl, this.1, Or.inl this.2, by omega, by omega⟩
    · rw [if_neg c2, if_neg (by omega)]
      have := tmod_ok (v := v) (a := a) (by omega) (by omega)
      exact ⟨_, _, _, rfl, this.1, Or.inl this.2, by show p ≤ p + 1; omega, by show p + 1 ≤ p + 2; omega⟩
theorem among_ok {l : List Int} (hb : Bytes l) (p s : Int) (q : List Int) (hq : 0 < q.length) (h0 : 0 ≤ p) (h1 : p ≤ 100000000000000000) : ∃ v p' s', spec_l1Cur_among.f l p s q = some (v, p', s') ∧ p ≤ p' ∧ p' ≤ p + 2 := by
  obtain ⟨r, p', s', e, b1, b2, b3, b4⟩ := pick_ok hb p s (q.length : Int) h0 h1
  unfold spec_l1Cur_among.f
  rw [e, Option.bind_some]
  simp only [b1, if_true]
  rw [if_pos (by omega)]
  exact ⟨_, _, _, rfl, b3, b4⟩
theorem one_ok {l : List Int} (hb : Bytes l) (p s a : Int) (h0 : 0 ≤ p) (h1 : p ≤ 100000000000000000) : ∃ v p' s', spec_l1Cur_one.f l p s a = some (v, p', s') ∧ p ≤ p' ∧ p' ≤ p + 2 := by
  obtain ⟨r, p', s', e, b1, b2, b3, b4⟩ := pick_ok hb p s a h0 h1
  unfold spec_l1Cur_one.f
  rw [e, Option.bind_some]
  exact ⟨_, _, _, rfl, b3, b4⟩
theorem grains_l0 {l : List Int} (hb : Bytes l) (n : Nat) (hn : n ≤ 7) : ∀ (d : Nat) (x3 : List Int) (p s : Int), x3.length + d = n → 0 ≤ p → p + 2 * d ≤ 1000000000000000 → ∃ out p' s', Ev (fun k => spec_l1Cur_grains.l0 k x3 (n : Int) l p s) (out, p', s') ∧ out.length ≤ 9 ∧ p ≤ p' ∧ p' ≤ p + 2 * d + 6 := by
  intro d
  induction d with
  | zero =>
    intro x3 p s hd h0 h1
    obtain ⟨r, p1, s1, e1, b1, b2, b3, b4⟩ := pick_ok hb p s 12 h0 (by omega)
    by_cases c0 : r = 0
    · obtain ⟨v, p2, s2, e2, b5, b6⟩ := among_ok hb p1 s1 [-1, 0, 60, 61] (by simp) (by omega) (by omega)
      refine ⟨x3 ++ [v], p2, s2, Ev.end_ fun k => ?_, by simp; omega, by omega, by omega⟩
      rw [spec_l1Cur_grains.l0, if_neg (by omega), e1, Option.bind_some]
      simp only [c0, if_true]
      rw [e2, Option.bind_some, if_pos (by omega)]
    · by_cases c1 : r = 1
      · obtain ⟨v, p2, s2, e2, b5, b6, b7, b8⟩ := pick_ok hb p1 s1 2 (by omega) (by omega)
        have hw : wrap64 (8 + v) = 8 + v := wrap_id (by omega) (by omega)
        refine ⟨(List.replicate (8 + v).toNat 0).set 0 60, p2, s2, Ev.end_ fun k => ?_, by simp; omega, by omega, by omega⟩
        rw [spec_l1Cur_grains.l0, if_neg (by omega), e1, Option.bind_some]
        simp only [c0, c1, if_true, if_false]
        rw [if_neg (by omega), e2, Option.bind_some]
        simp only [hw]
        rw [if_pos (by omega), if_pos (by omega), Option.bind_some, if_pos (by rw [List.length_replicate]; omega)]
        rfl
      · refine ⟨x3, p1, s1, Ev.end_ fun k => ?_, by omega, by omega, by omega⟩
        rw [spec_l1Cur_grains.l0, if_neg (by omega), e1, Option.bind_some]
        simp only [c0, c1, if_false]
  | succ d ih =>
    intro x3 p s hd h0 h1
    obtain ⟨r, p1, s1, e1, b1, b2, b3, b4⟩ := pick_ok hb p s (wrap64 ((n : Int) + 3)) h0 (by omega)
    obtain ⟨out, p', s', he, ho, hp1, hp2⟩ := ih (x3 ++ [r]) p1 s1 (by simp; omega) (by omega) (by omega)
    refine ⟨out, p', s', Ev.one he fun k => ?_, ho, by omega, by omega⟩
    rw [spec_l1Cur_grains.l0, if_pos (by omega), e1, Option.bind_some, if_pos (by omega)]
theorem grains_ok {l : List Int} (hb : Bytes l) (p s : Int) (h0 : 0 ≤ p) (h1 : p ≤ 100000000000000) : ∃ out p' s', Ev (fun k => spec_l1Cur_grains.f k l p s) (out, p', s') ∧ out.length ≤ 9 ∧ p ≤ p' ∧ p' ≤ p + 30 := by
  obtain ⟨r, p1, s1, e1, b1, b2, b3, b4⟩ := pick_ok hb p s 7 h0 (by omega)
  obtain ⟨out, p', s', he, ho, hp1, hp2⟩ := grains_l0 hb r.toNat (by omega) r.toNat [] p1 s1 (by simp) (by omega) (by omega)
  refine ⟨out, p', s', ?_, ho, by omega, by omega⟩
  unfold spec_l1Cur_grains.f
  simp only [e1, Option.bind_some]
  rw [show (r.toNat : Int) = r by omega] at he
  exact he
theorem DrawStabilizeSand_ok {l : List Int} (hb : Bytes l) : ∃ out, Ev (fun k => spec_DrawStabilizeSand.f k l) out ∧ out.length ≤ 9 := by
  obtain ⟨out, p, s, he, ho, hp1, hp2⟩ := grains_ok hb 0 0 (by omega) (by omega)
  by_cases c : (out.length : Int) > 0
  · obtain ⟨b, p1, s1, e1, b1, b2⟩ := one_ok hb p s 4 (by omega) (by omega)
    cases b with
    | true =>
      obtain ⟨r, p2, s2, e2, b3, b4, b5, b6⟩ := pick_ok hb p1 s1 (out.length : Int) (by omega) (by omega)
      obtain ⟨q, p3, s3, e3, b7, b8, b9, b10⟩ := pick_ok hb p2 s2 30 (by omega) (by omega)
      refine ⟨out.set r.toNat (wrap64 (rd out r + q)), ?_, by simpa using ho⟩
      unfold spec_DrawStabilizeSand.f
      refine Ev.bind he ?_
      simp only [c, if_true, e1, Option.bind_some]
      refine Ev.end_ fun k => ?_
      rw [spec_DrawStabilizeSand.j0, if_pos rfl, e2, Option.bind_some]
      simp only [b3, if_true]
      rw [if_pos (by omega), e3, Option.bind_some]
    | false =>
      refine ⟨out, ?_, ho⟩
      unfold spec_DrawStabilizeSand.f
      refine Ev.bind he ?_
      simp only [c, if_true, e1, Option.bind_some]
      refine Ev.end_ fun k => ?_
      rw [spec_DrawStabilizeSand.j0, if_neg (by simp)]
  · refine ⟨out, ?_, ho⟩
    unfold spec_DrawStabilizeSand.f
    refine Ev.bind he ?_
    simp only [c, if_false]
    refine Ev.end_ fun k => ?_
    rw [spec_DrawStabilizeSand.j0, if_neg (by simp)]
theorem DrawToppleSand_ok {l : List Int} (hb : Bytes l) : ∃ out i, Ev (fun k => spec_DrawToppleSand.f k l) (out, i) ∧ out.length ≤ 9 := by
  obtain ⟨out, p, s, he, ho, hp1, hp2⟩ := grains_ok hb 0 0 (by omega) (by omega)
  obtain ⟨r, p1, s1, e1, b1, b2, b3, b4⟩ := pick_ok hb p s (wrap64 ((out.length : Int) + 2)) (by omega) (by omega)
  have body : ∃ i, Ev (fun k => (spec_reSand.f k out).bind fun t781 => (if t781 = true then ((spec_reFirst.f k out).bind fun t782 => (if t782 ≥ 0 then ((spec_l1Cur_one.f l p1 s1 2).bind fun bt783 => (if bt783.1 = true then ((spec_reFirst.f k out).bind fun t786 => (some (out, t786))) else (some (out, wrap64 (r - 1))))) else (some (out, wrap64 (r - 1))))) else (some (out, wrap64 (r - 1))))) (out, i) := by
    by_cases hs : sandB out = true
    · by_cases hf : firstI out ≥ 0
      · obtain ⟨b, p2, s2, e2, b5, b6⟩ := one_ok hb p1 s1 2 (by omega) (by omega)
        cases b with
        | true =>
          refine ⟨firstI out, ?_⟩
          refine Ev.bind (reSand_ev out (by omega)) ?_
          simp only [hs, if_true]
          refine Ev.bind (reFirst_ev out (by omega)) ?_
          simp only [hf, if_true, e2, Option.bind_some]
          refine Ev.bind (reFirst_ev out (by omega)) ?_
          exact Ev.now _
        | false =>
          refine ⟨wrap64 (r - 1), ?_⟩
          refine Ev.bind (reSand_ev out (by omega)) ?_
          simp only [hs, if_true]
          refine Ev.bind (reFirst_ev out (by omega)) ?_
          simp only [hf, if_true, e2, Option.bind_some, Bool.false_eq_true, if_false]
          exact Ev.now _
      · refine ⟨wrap64 (r - 1), ?_⟩
        refine Ev.bind (reSand_ev out (by omega)) ?_
        simp only [hs, if_true]
        refine Ev.bind (reFirst_ev out (by omega)) ?_
        simp only [hf, if_false]
        exact Ev.now _
    · refine ⟨wrap64 (r - 1), ?_⟩
      refine Ev.bind (reSand_ev out (by omega)) ?_
      simp only [hs, Bool.false_eq_true, if_false]
      exact Ev.now _
  obtain ⟨i, hi⟩ := body
  refine ⟨out, i, ?_, ho⟩
  unfold spec_DrawToppleSand.f
  refine Ev.bind he ?_
  simp only [e1, Option.bind_some]
  exact hi
theorem big_eq (a b : List Int) : ∃ r, laws_big.f a b = some r := by
  unfold laws_big.f
  split
  · exact ⟨_, rfl⟩
  · exact ⟨_, rfl⟩
theorem laws_wSame_l0 (a b : List Int) (hl : a.length = b.length) (hn : a.length ≤ 4611686018427387904) : ∀ (d i : Nat), i + d = a.length → Ev (fun k => laws_wSame.l0 k a b (a.length : Int) i) (decide (a.drop i = b.drop i)) := by
  intro d
  induction d with
  | zero =>
    intro i hd
    refine Ev.end_ fun k => ?_
    rw [laws_wSame.l0, if_neg (by omega), List.drop_eq_nil_of_le (by omega), List.drop_eq_nil_of_le (by omega)]
    simp
  | succ d ih =>
    intro i hd
    have e1 := drop_getD (l := a) (i := i) (by omega)
    have e2 := drop_getD (l := b) (i := i) (by omega)
    by_cases h : a.getD i 0 = b.getD i 0
    · refine Ev.one (f := fun k => laws_wSame.l0 k a b (a.length : Int) ((i + 1 : Nat) : Int)) ?_ fun k => ?_
      · have := ih (i + 1) (by omega)
        have e : decide (a.drop i = b.drop i) = decide (a.drop (i + 1) = b.drop (i + 1)) := by rw [e1, e2, h]; simp
        rw [e]; exact this
      · rw [laws_wSame.l0, if_pos (by omega), if_pos (by omega), if_pos (by omega), if_pos (by omega), rd_nat, rd_nat, if_pos h, wrap_next (n := a.length) (by omega) hn]
    · refine Ev.end_ fun k => ?_
      rw [laws_wSame.l0, if_pos (by omega), if_pos (by omega), if_pos (by omega), if_pos (by omega), rd_nat, rd_nat, if_neg h, e1, e2, decide_eq_false (fun e => h (List.cons.inj e).1)]
theorem laws_wSame_ev (a b : List Int) (hn : a.length ≤ 4611686018427387904) : Ev (fun k => laws_wSame.f k a b) (decide (a = b)) := by
  unfold laws_wSame.f
  by_cases h : a.length = b.length
  · simp only [show ((a.length : Int) = (b.length : Int)) from by omega, if_true]
    have := laws_wSame_l0 a b h hn a.length 0 (by omega)
    simpa [h] using this
  · simp only [show ¬ ((a.length : Int) = (b.length : Int)) from by omega, if_false]
    have e : decide (a = b) = false := decide_eq_false (fun e => h (by rw [e]))
    rw [e]; exact Ev.now _
theorem take_sum {l : List Int} {q : Nat} (hq : q < l.length) : (l.take (q + 1)).sum = (l.take q).sum + l.getD q 0 := by
  rw [take_succ_getD hq, List.sum_append]; simp
theorem wSum_ev (l : List Int) (hl : l.length ≤ 1000) (hb : ∀ j, -1000000 ≤ l.getD j 0 ∧ l.getD j 0 ≤ 1000000) : Ev (fun k => laws_wSum.f k l) l.sum := by
  unfold laws_wSum.f
  have hs : ∀ q, q ≤ l.length → -((q : Int) * 1000000) ≤ (l.take q).sum ∧ (l.take q).sum ≤ (q : Int) * 1000000 := by
    intro q
    induction q with
    | zero => intro _; simp
    | succ q ih =>
      intro hq
      have := ih (by omega)
      have := hb q
      rw [take_sum (by omega)]
      push_cast
      omega
  have := Ev.up0 l.length (fun q => (l.take q).sum) (fun k s q => laws_wSum.l0 k s l (l.length : Int) q) l.sum (fun q hq h => Ev.one h fun k => ?_) (Ev.end_ fun k => ?_)
  · simpa using this
  · have := hs q (by omega)
    have := hb q
    rw [laws_wSum.l0, if_pos (by omega), if_pos (by omega), if_pos (by omega), rd_nat, wrap_id (x := (l.take q).sum + l.getD q 0) (by omega) (by omega), wrap_next (n := l.length) hq (by omega), take_sum hq]
  · rw [laws_wSum.l0, if_neg (by omega), List.take_length]
theorem run_sum : ∀ (s : List Nat) (c : List Int), (∀ i ∈ s, i < c.length) → (SandT.run c s).sum = c.sum - s.length
  | [], c, _ => by simp [SandT.run]
  | i :: s, c, h => by
    rw [SandT.run, run_sum s _ (fun j hj => by rw [SandT.length_topl]; exact h j (List.mem_cons_of_mem _ hj)), SandT.sum_topl _ _ (h i (by simp))]
    simp only [List.length_cons]
    omega
theorem cast_sum (f : Nat → Nat) : ∀ (l : List Nat), (l.map fun j => ((f j : Nat) : Int)).sum = ((l.map f).sum : Nat)
  | [] => rfl
  | x :: l => by simp [cast_sum f l]
theorem cnt_sum {n : Nat} {s : List Nat} (h : ∀ i ∈ s, i < n) : (cnt n s).sum = s.length := by
  unfold cnt
  rw [cast_sum, ← SandT.sum_count n s h]
theorem cnt_range (n : Nat) (s : List Nat) (j : Nat) : 0 ≤ (cnt n s).getD j 0 ∧ (cnt n s).getD j 0 ≤ s.length := by
  rcases Nat.lt_or_ge j n with hj | hj
  · rw [cnt_get s hj]; have := List.count_le_length (a := j) (l := s); omega
  · rw [List.getD_eq_getElem?_getD, List.getElem?_eq_none (by rw [cnt_len]; exact hj)]; simp
theorem all_iff (c : List Int) : (c.all fun x => decide (x < c.length)) = true ↔ SandT.Stable c := by
  rw [List.all_eq_true]
  constructor
  · intro h j hj
    have := h c[j] (List.getElem_mem hj)
    rw [List.getD_eq_getElem?_getD, List.getElem?_eq_getElem hj]
    simpa using this
  · intro h x hx
    obtain ⟨j, hj, rfl⟩ := List.getElem_of_mem hx
    have := h j hj
    rw [List.getD_eq_getElem?_getD, List.getElem?_eq_getElem hj] at this
    simpa using this
theorem sandB_of {c : List Int} (hl : c.length ≤ 8) (h : ∀ j, j < c.length → 0 ≤ c.getD j 0 ∧ c.getD j 0 ≤ 60) : sandB c = true := by
  unfold sandB
  rw [Bool.and_eq_true]
  refine ⟨decide_eq_true hl, ?_⟩
  rw [List.all_eq_true]
  intro x hx
  obtain ⟨j, hj, rfl⟩ := List.getElem_of_mem hx
  have := h j hj
  rw [List.getD_eq_getElem?_getD, List.getElem?_eq_getElem hj] at this
  simpa using this
theorem stab_sandB {c : List Int} (h : sandB c = true) : sandB (SandT.stab c).1 = true := by
  have hl := sandB_len h
  refine sandB_of (by simpa using hl) fun j hj => ?_
  have := stab_get'' (sandB_nn h) j
  omega
where
  stab_get'' {c : List Int} (h : SandT.Nonneg c) (j : Nat) : 0 ≤ (SandT.stab c).1.getD j 0 ∧ (SandT.stab c).1.getD j 0 ≤ c.length := by
    refine ⟨SandT.nn_stab h j, ?_⟩
    rcases Nat.lt_or_ge j c.length with hj | hj
    · have := SandT.stab_stable h j (by simpa using hj)
      simp only [SandT.length_stab] at this
      omega
    · rw [List.getD_eq_getElem?_getD, List.getElem?_eq_none (by simpa using hj)]; simp
theorem stab_zero {c : List Int} (h : SandT.Nonneg c) : SandT.Stable c ↔ (SandT.stab c).2.length = 0 := by
  constructor
  · intro hs; rw [SandT.stab_end (SandT.first_of_stable hs)]; rfl
  · intro h0
    cases e : SandT.first c with
    | none => exact SandT.first_none e
    | some i => rw [SandT.stab_step h e] at h0; simp at h0
theorem settles_l1 {t : List Int} (h : sandB t = true) : ∀ (d i : Nat), i + d = t.length → Ev (fun k => laws_FnSandSettles.l1 k t (SandT.stab t).1 (cnt t.length (SandT.stab t).2) ((SandT.stab t).2.length : Int) t (t.length : Int) i) true := by
  have hl := sandB_len h
  have hn := stab_len 480 (sandB_nn h) (sandB_sum h)
  intro d
  induction d with
  | zero =>
    intro i hd
    exact Ev.end_ fun k => by rw [laws_FnSandSettles.l1, if_neg (by omega)]
  | succ d ih =>
    intro i hd
    refine Ev.one (ih (i + 1) (by omega)) fun k => ?_
    have hi : i < t.length := by omega
    have hg := SandT.get_run (SandT.stab t).2 t i hi
    rw [← SandT.stab_run] at hg
    have hc := List.count_le_length (a := i) (l := (SandT.stab t).2)
    have h1 := sandB_get h i
    have hp : 0 ≤ ((t.length : Int) + 1) * ((SandT.stab t).2.count i : Int) ∧ ((t.length : Int) + 1) * ((SandT.stab t).2.count i : Int) ≤ 9 * 480 := by
      have e : ((t.length : Int) + 1) * ((SandT.stab t).2.count i : Int) = (((t.length + 1) * (SandT.stab t).2.count i : Nat) : Int) := by push_cast; rfl
      have h2 : (t.length + 1) * (SandT.stab t).2.count i ≤ 9 * 480 := Nat.mul_le_mul (by omega) (by omega)
      rw [e]; omega
    rw [laws_FnSandSettles.l1, if_pos (by omega), if_pos (by omega), if_pos (by omega), if_pos (by rw [SandT.length_stab]; omega), if_pos (by rw [cnt_len]; omega), rd_nat, rd_nat, rd_nat, cnt_get _ hi, wrap_id (x := (t.length : Int) + 1) (by omega) (by omega), wrap_id (x := ((t.length : Int) + 1) * ((SandT.stab t).2.count i : Int)) (by omega) (by omega), wrap_id (x := t.getD i 0 - ((t.length : Int) + 1) * ((SandT.stab t).2.count i : Int)) (by omega) (by omega), wrap_id (by omega) (by omega), if_pos (by rw [hg]; omega), wrap_next (n := t.length) (by omega) (by omega)]
theorem settles_j4 (t : List Int) : Ev (fun k => laws_FnSandSettles.j4 k t (stabV t).1 (stabV t).2.1 (stabV t).2.2) true := by
  by_cases h : sandB t = true
  · have hl := sandB_len h
    have hn := stab_len 480 (sandB_nn h) (sandB_sum h)
    have hnn := sandB_nn h
    have hst := stab_sandB h
    have e : stabV t = ((SandT.stab t).1, cnt t.length (SandT.stab t).2, true) := by rw [stabV, if_pos h]
    rw [e]
    refine Ev.step (f := fun k => (impl_IsStable.f (SandT.stab t).1).bind fun bt839 => ((impl_IsStable.f t).bind fun bt841 => (if bt839.2 = true then (if bt841.2 = true then (if bt839.1 = true then ((laws_wSum.f k (cnt t.length (SandT.stab t).2)).bind fun t843 => (if (bt841.1 != (t843 == 0)) = true then (laws_FnSandSettles.j5 k t (SandT.stab t).1 (cnt t.length (SandT.stab t).2) true) else ((laws_wSum.f k t).bind fun t844 => ((laws_wSum.f k (SandT.stab t).1).bind fun t845 => ((laws_wSum.f k (cnt t.length (SandT.stab t).2)).bind fun t846 => (laws_FnSandSettles.j5 k t (SandT.stab t).1 (cnt t.length (SandT.stab t).2) ((wrap64 (t844 - t845)) != t846))))))) else (laws_FnSandSettles.j5 k t (SandT.stab t).1 (cnt t.length (SandT.stab t).2) true)) else (laws_FnSandSettles.j5 k t (SandT.stab t).1 (cnt t.length (SandT.stab t).2) true)) else (laws_FnSandSettles.j5 k t (SandT.stab t).1 (cnt t.length (SandT.stab t).2) true)))) (fun k => by rw [laws_FnSandSettles.j4, if_pos rfl]) ?_
    have s1 : stableV (SandT.stab t).1 = (true, true) := by
      rw [stableV, if_pos hst, (all_iff _).2 (SandT.stab_stable hnn)]
    have s2 : stableV t = (decide ((SandT.stab t).2.length = 0), true) := by
      rw [stableV, if_pos h]
      congr 1
      rw [Bool.eq_iff_iff, all_iff, decide_eq_true_iff]
      exact stab_zero hnn
    simp only [impl_IsStable_eq, Option.bind_some, s1, s2, if_true]
    have wc : Ev (fun k => laws_wSum.f k (cnt t.length (SandT.stab t).2)) ((SandT.stab t).2.length : Int) := by
      have := wSum_ev (cnt t.length (SandT.stab t).2) (by rw [cnt_len]; omega) (fun j => by have := cnt_range t.length (SandT.stab t).2 j; omega)
      rw [cnt_sum (stab_lt t)] at this
      exact this
    refine Ev.bind wc ?_
    have e1 : (decide ((SandT.stab t).2.length = 0) != (((SandT.stab t).2.length : Int) == 0)) = false := by
      by_cases h0 : (SandT.stab t).2.length = 0
      · simp [h0]
      · have : ¬ (((SandT.stab t).2.length : Int) = 0) := by omega
        simp [h0]
    simp only [e1, Bool.false_eq_true, if_false]
    refine Ev.bind (wSum_ev t (by omega) (fun j => by have := sandB_get h j; omega)) ?_
    refine Ev.bind (wSum_ev (SandT.stab t).1 (by simp; omega) (fun j => by have := sandB_get hst j; omega)) ?_
    refine Ev.bind wc ?_
    have e2 : (SandT.stab t).1.sum = t.sum - (SandT.stab t).2.length := by rw [SandT.stab_run]; exact run_sum _ _ (stab_lt t)
    rw [show t.sum - (SandT.stab t).1.sum = ((SandT.stab t).2.length : Int) by omega, wrap_id (x := ((SandT.stab t).2.length : Int)) (by omega) (by omega)]
    refine Ev.step (f := fun k => (laws_wSum.f k (cnt t.length (SandT.stab t).2)).bind fun t847 => (laws_FnSandSettles.l1 k t (SandT.stab t).1 (cnt t.length (SandT.stab t).2) t847 t (t.length : Int) 0)) (fun k => by rw [laws_FnSandSettles.j5, if_neg (by simp)]) ?_
    refine Ev.bind wc ?_
    exact settles_l1 h t.length 0 (by omega)
  · have e : stabV t = ([], [], false) := by rw [stabV, if_neg h]
    rw [e]
    exact Ev.end_ fun k => by rw [laws_FnSandSettles.j4, if_neg (by simp)]
theorem settles_l0 (t : List Int) {n : Nat} (hn : n ≤ 8) (a b : List Nat) (i : Nat) (hi : i < n) (ha : a.length ≤ 480) (hc : ∀ j, j < n → (a.count j : Int) = (b.count j : Int) + if j = i then 1 else 0) :
    ∀ (d q : Nat), q + d = n → Ev (fun k => laws_FnSandSettles.l0 k t (stabV t).1 (stabV t).2.1 (stabV t).2.2 (i : Int) (cnt n a) (cnt n b) (n : Int) q) true := by
  intro d
  induction d with
  | zero =>
    intro q hd
    exact Ev.one (settles_j4 t) fun k => by rw [laws_FnSandSettles.l0, if_neg (by omega)]
  | succ d ih =>
    intro q hd
    refine Ev.one (ih (q + 1) (by omega)) fun k => ?_
    have hq : q < n := by omega
    have h1 := hc q hq
    have h2 := List.count_le_length (a := q) (l := a)
    by_cases e : q = i
    · rw [if_pos e] at h1
      rw [laws_FnSandSettles.l0, if_pos (by omega), if_pos (by omega), if_pos (by rw [cnt_len]; omega), if_pos (by omega), if_pos (by rw [cnt_len]; omega), rd_nat, rd_nat, cnt_get _ hq, cnt_get _ hq, wrap_id (x := ((b.count q : Nat) : Int) + 1) (by omega) (by omega), if_pos (by omega), wrap_next (n := n) hq (by omega)]
    · rw [if_neg e] at h1
      rw [laws_FnSandSettles.l0, if_pos (by omega), if_pos (by omega), if_pos (by rw [cnt_len]; omega), if_neg (by omega), if_pos (by rw [cnt_len]; omega), rd_nat, rd_nat, cnt_get _ hq, cnt_get _ hq, if_pos (by omega), wrap_next (n := n) hq (by omega)]
theorem settles_j0 {l1 : List Int} (hb : Bytes l1) (t : List Int) : Ev (fun k => laws_FnSandSettles.j0 k l1 t (stabV t).1 (stabV t).2.1 (stabV t).2.2 false) true := by
  obtain ⟨c, i, hd, hc⟩ := DrawToppleSand_ok hb
  have hlen := toppleV_len c i
  refine Ev.step (f := fun k => (spec_DrawToppleSand.f k l1).bind fun bt808 => ((impl_ToppleSand.f k bt808.1 bt808.2).bind fun bt812 => ((spec_ToppleSand.f k bt808.1 bt808.2).bind fun bt816 => (if (bt812.2 != bt816.2) = true then (laws_FnSandSettles.j1 k t (stabV t).1 (stabV t).2.1 (stabV t).2.2 bt808.1 bt808.2 bt812.1 bt812.2 true) else ((laws_wSame.f k bt812.1 bt816.1).bind fun t820 => (laws_FnSandSettles.j1 k t (stabV t).1 (stabV t).2.1 (stabV t).2.2 bt808.1 bt808.2 bt812.1 bt812.2 (!t820))))))) (fun k => by rw [laws_FnSandSettles.j0, if_neg (by simp)]) ?_
  refine Ev.bind hd ?_
  refine Ev.bind (impl_ToppleSand_ev c i) ?_
  refine Ev.bind (spec_ToppleSand_ev c (by omega) i) ?_
  simp only [bne_self_eq_false, Bool.false_eq_true, if_false]
  refine Ev.bind (laws_wSame_ev _ _ (by omega)) ?_
  simp only [decide_true, Bool.not_true]
  by_cases hv : sandB c = true ∧ 0 ≤ i ∧ i < c.length ∧ (c.length : Int) ≤ c.getD i.toNat 0 ∧ sandB (SandT.topl c i.toNat) = true
  · have e : toppleV c i = (SandT.topl c i.toNat, true) := by rw [toppleV, if_pos hv]
    obtain ⟨h1, h2, h3, h4, h5⟩ := hv
    obtain ⟨p, rfl⟩ : ∃ p : Nat, i = p := ⟨i.toNat, by omega⟩
    rw [Int.toNat_natCast] at h4 h5 e
    rw [e]
    refine Ev.step (f := fun k => (impl_StabilizeSand.f k c).bind fun bt821 => ((impl_StabilizeSand.f k (SandT.topl c p)).bind fun bt828 => (if bt821.2.2 = true then (if bt828.2.2 = true then ((laws_wSame.f k bt821.1 bt828.1).bind fun t835 => (laws_FnSandSettles.j2 k t (stabV t).1 (stabV t).2.1 (stabV t).2.2 (p : Int) bt821.2.1 bt828.2.1 (!t835))) else (laws_FnSandSettles.j2 k t (stabV t).1 (stabV t).2.1 (stabV t).2.2 (p : Int) bt821.2.1 bt828.2.1 true)) else (laws_FnSandSettles.j2 k t (stabV t).1 (stabV t).2.1 (stabV t).2.2 (p : Int) bt821.2.1 bt828.2.1 true)))) (fun k => by rw [laws_FnSandSettles.j1, if_neg (by simp), if_pos rfl]) ?_
    refine Ev.bind (impl_StabilizeSand_ev c) ?_
    refine Ev.bind (impl_StabilizeSand_ev _) ?_
    have nn := sandB_nn h1
    have hpl : p < c.length := by omega
    have hL : SandT.Legal c [p] := ⟨hpl, h4, trivial⟩
    have f1 : stabV c = ((SandT.stab c).1, cnt c.length (SandT.stab c).2, true) := by rw [stabV, if_pos h1]
    have f2 : stabV (SandT.topl c p) = ((SandT.stab (SandT.topl c p)).1, cnt (SandT.topl c p).length (SandT.stab (SandT.topl c p)).2, true) := by rw [stabV, if_pos h5]
    have hu := SandT.stab_unique nn (s := p :: (SandT.stab (SandT.topl c p)).2) ⟨hpl, h4, SandT.stab_legal _⟩ (by rw [SandT.run, ← SandT.stab_run]; exact SandT.stab_stable (sandB_nn h5))
    have heq : (SandT.stab c).1 = (SandT.stab (SandT.topl c p)).1 := by rw [hu.1, SandT.run, ← SandT.stab_run]
    rw [f1, f2]
    simp only [if_true]
    rw [heq]
    refine Ev.bind (laws_wSame_ev _ _ (by simp; omega)) ?_
    simp only [decide_true, Bool.not_true]
    rw [SandT.length_topl]
    refine Ev.step (f := fun k => laws_FnSandSettles.l0 k t (stabV t).1 (stabV t).2.1 (stabV t).2.2 (p : Int) (cnt c.length (SandT.stab c).2) (cnt c.length (SandT.stab (SandT.topl c p)).2) ((cnt c.length (SandT.stab c).2).length : Int) 0) (fun k => by rw [laws_FnSandSettles.j2, if_neg (by simp)]) ?_
    rw [cnt_len]
    refine settles_l0 t (by have := sandB_len h1; omega) _ _ p hpl (stab_len 480 nn (sandB_sum h1)) (fun j _ => ?_) c.length 0 (by omega)
    rw [hu.2.2 j, List.count_cons]
    by_cases hj : j = p
    · subst hj; simp
    · have : ¬ p = j := fun e => hj e.symm
      simp [hj, this]
  · have e : toppleV c i = ([], false) := by rw [toppleV, if_neg hv]
    rw [e]
    exact Ev.one (settles_j4 t) fun k => by rw [laws_FnSandSettles.j1, if_neg (by simp), if_neg (by simp)]
end Go.Proofs.Ytainmahlhhcklaa.G
namespace Go.Proofs.Ytainmahlhhcklaa.Pure
open Go.RowKit Go.Proofs.Ytainmahlhhcklaa.G Go.Proofs.YtainmahlhhcklaaW.PrintWords Go.Proofs.YtainmahlhhcklaaW.PrintLast
set_option linter.unusedVariables false
set_option linter.unusedSimpArgs false
theorem FnSandSettles : laws_FnSandSettles.Pure := by
  intro l0 l1 _ _ hw0 _ _ hw1
  refine Ev.rounds ?_
  have b0 := bytes_of hw0
  have b1 := bytes_of hw1
  obtain ⟨r, hr⟩ := big_eq l0 l1
  unfold laws_FnSandSettles.f
  simp only [hr, Option.bind_some]
  cases r with
  | true => simp only [if_true]; exact Ev.now _
  | false =>
    simp only [Bool.false_eq_true, if_false]
    obtain ⟨t, ht, hl⟩ := DrawStabilizeSand_ok b0
    have hv := stabV_len t
    refine Ev.bind ht ?_
    refine Ev.bind (impl_StabilizeSand_ev t) ?_
    refine Ev.bind (spec_StabilizeSand_ev t (by omega)) ?_
    simp only [bne_self_eq_false, Bool.false_eq_true, if_false]
    refine Ev.bind (laws_wSame_ev _ _ (by omega)) ?_
    simp only [decide_true, if_true]
    refine Ev.bind (laws_wSame_ev _ _ (by omega)) ?_
    simp only [decide_true, Bool.not_true]
    exact settles_j0 b1 t
end Go.Proofs.Ytainmahlhhcklaa.Pure
namespace Go.Proofs.Ytainmahlhhcklaa.Big
open Go
theorem wordsSigns_split : ∀ (a r : List Char), wordsSigns (a ++ Char.ofNat 32 :: r) = wordsSigns a ++ wordsSigns r
  | [], r => rfl
  | c :: a, r => by
    have ih := wordsSigns_split a r
    by_cases h : c = Char.ofNat 32
    · subst h
      show [] :: wordsSigns (a ++ Char.ofNat 32 :: r) = ([] :: wordsSigns a) ++ wordsSigns r
      rw [ih]; rfl
    · have e : ∀ l, wordsSigns (c :: l) = match wordsSigns l with
        | w :: ws => (c :: w) :: ws
        | [] => [[c]] := by
        intro l
        rw [wordsSigns]
        all_goals first | rfl | exact h | (intro h'; exact h h')
      rw [List.cons_append, e, e, ih]
      cases hw : wordsSigns a with
      | nil =>
        exfalso
        cases a with
        | nil => simp [wordsSigns] at hw
        | cons x a =>
          unfold wordsSigns at hw
          split at hw
          · simp at *
          · simp at *
          · split at hw <;> simp at hw
      | cons w ws => rfl
theorem stripLifts_cut (R : List (List Char)) : stripLifts liftWords ("cut".toList :: R) = ([], "cut".toList :: R) := by rfl
theorem behind_harness (s : List Char) (R : List (List Char)) (hs : isSumSigns s = true) : behindMainWord ("harness".toList :: s :: R) = R := by
  show (if (("harness".toList == "harness".toList || "harness".toList == "ownmain".toList) && isSumSigns s) = true then R else "harness".toList :: s :: R) = R
  rw [hs]; rfl
theorem mayEnter_of (P : Program) (s : List Char) (R : List (List Char)) (h : wordsSigns P.initOrder.toList = "harness".toList :: s :: "cut".toList :: R) (hs : isSumSigns s = true) (h1 : P.laysLater = false) (h2 : P.bearsReflect = false) (h3 : P.doorFits [] = true) : P.mayEnter = true := by
  unfold Program.mayEnter
  rw [h, behind_harness _ _ hs]
  simp only [stripLifts_cut, h1, h2, h3]
  rfl
theorem liftsFinal_of (P : Program) (s : List Char) (R : List (List Char)) (h : wordsSigns P.initOrder.toList = "harness".toList :: s :: "cut".toList :: R) (hs : isSumSigns s = true) : P.liftsFinal = false := by
  unfold Program.liftsFinal Program.headLifts
  rw [h, behind_harness _ _ hs]
  simp only [stripLifts_cut]
  rfl
theorem make_of (P : Program) (s : List Char) (R : List (List Char)) (h : wordsSigns P.initOrder.toList = "harness".toList :: s :: "cut".toList :: R) (hs : isSumSigns s = true) : P.make = some .cut := by
  unfold Program.make
  rw [h, behind_harness _ _ hs]
  rfl
set_option maxRecDepth 1000000 in
def L : { l : List Char // Try.prog.initOrder = String.ofList l } := ⟨_, rfl⟩
theorem ioList : Try.prog.initOrder.toList = L.1 := (congrArg String.toList L.2).trans String.toList_ofList
set_option maxRecDepth 1000000 in
theorem ioHead : ∃ s R, wordsSigns Try.prog.initOrder.toList = "harness".toList :: s :: "cut".toList :: R ∧ isSumSigns s = true := by
  have e : L.1 = L.1.take 76 ++ Char.ofNat 32 :: L.1.drop 77 := by kernel_rfl
  refine ⟨(L.1.take 72).drop 8, wordsSigns (L.1.drop 77), ?_, by kernel_rfl⟩
  rw [ioList]
  refine (congrArg wordsSigns e).trans ((wordsSigns_split _ _).trans ?_)
  have e2 : wordsSigns (L.1.take 76) = "harness".toList :: (L.1.take 72).drop 8 :: "cut".toList :: [] := by kernel_rfl
  rw [e2]; rfl
theorem may : Try.prog.mayEnter = true := by
  obtain ⟨s, R, h, hs⟩ := ioHead
  exact mayEnter_of _ s R h hs (by kernel_rfl) (by kernel_rfl) (by kernel_rfl)
theorem lifts : Try.prog.liftsFinal = false := by
  obtain ⟨s, R, h, hs⟩ := ioHead
  exact liftsFinal_of _ s R h hs
theorem make : Try.prog.make = some .cut := by
  obtain ⟨s, R, h, hs⟩ := ioHead
  exact make_of _ s R h hs
end Go.Proofs.Ytainmahlhhcklaa.Big
namespace Go.Proofs.Ytainmahlhhcklaa.fnSandSettles
open Go.ChangeShapes Go.WideShapes Go.ChangeAt Go.RowKit
open Go.ChangeMaps (open_string shut_string)
set_option linter.unusedVariables false
theorem own : ownKnob Try.prog.godebug = none := by kernel_rfl
theorem laidOut : laidOutB Try.prog = true := by kernel_rfl
def IsRow (k : IntKind) (w : World) (a : Option Addr) (len cap : Nat) (zs : List Int) : Prop :=
  (a = none ∧ len = 0 ∧ cap = 0 ∧ zs = []) ∨
  ∃ x, a = some x ∧ len ≤ cap ∧ cap ≤ maxLen ∧ zs.length = cap ∧ (∀ i, i < zs.length → w.cell? (x.add i) = some (.int k (zs.getD i 0))) ∧ ∀ n ∈ zs, (Lit.int k n).wf = true
set_option maxRecDepth 100000 in
theorem lifted (os : Os) (started : os.Started) (H : Type) (enc : TypeId × Value → H) :
    ReturnsInHanded {} Try.checked os 12 .any (Rows.fnSandSettlesSpec.pre6 enc Try.prog Try.f12 Rows.fnSandSettlesRow.domain false) (Rows.fnSandSettlesSpec.post enc Try.prog Try.f12 false true false false) := by
  refine returnsInHanded_of_change_sized (C := Try.checked) own started (by kernel_rfl) Try.func12
    (ChangeSpec.witness6 (enc := enc) (C := Try.checked) false ⟨#[], #[.slice none 0 0, .slice none 0 0], []⟩ 8 (by kernel_rfl) (by kernel_rfl) (by kernel_rfl) (by kernel_rfl)) ?_
  intro W base args ds gs before hval0 hW hcnd hsz0 _
  have hsz : (DataW.weightsEach Try.prog (Try.f12.params.toList ++ Rows.fnSandSettlesSpec.plain.varTypes Try.prog) (ds ++ gs)).all (· ≤ reachBytes) = true := hsz0
  have hval : ∀ (j : Nat) t v, Try.f12.params[j]? = some t → args[j]? = some v → Value.okWide Try.prog W .any base t v := hval0
  have hW' := hW
  obtain ⟨p, q, hA0, hV, rfl, hfz, hnd⟩ := hW
  have hA : DataW.TrodAll enc Try.prog W 0 (fun _ => true) true Try.f12.params.toList args.toList ds p := hA0
  rw [Try.params12] at hA hval hsz
  obtain ⟨v0, vs0, d0, ds0, p0, q0, hargs, rfl, rfl, h0, r0⟩ := trodAll_cons hA
  obtain ⟨v1, vs1, d1, ds1, p1, q1, rfl, rfl, rfl, h1, r1⟩ := trodAll_cons r0
  obtain ⟨rfl, rfl, rfl⟩ := trodAll_nil r1
  obtain rfl : args = #[v0, v1] := by cases args; simp_all
  obtain ⟨rfl, rfl⟩ := trodVars_none hV
  obtain ⟨a0, len0, cap0, rfl⟩ := okWide_slice Try.underlying46 (hval 0 46 v0 rfl rfl)
  have k0 := h0
  have lt0 : ∀ x ∈ p0, x.block < W.heap.size := by obtain ⟨m, hm⟩ := k0; exact DataW.trod_lt m _ _ _ hm
  obtain ⟨z0, w0⟩ : ∃ zs, IsRow .u8 W a0 len0 cap0 zs := by
    obtain ⟨fuel, hf⟩ := h0
    rcases open_ints Try.underlying46 Try.underlying5 (by kernel_rfl) hf with ⟨hcs, _⟩ | ⟨x, l, c, zs, hcs, _, hl, hm, hz, _, hcell, hwz⟩
    · simp [Value.cells] at hcs
      obtain ⟨rfl, rfl, rfl⟩ := hcs
      exact ⟨[], .inl ⟨rfl, rfl, rfl, rfl⟩⟩
    · simp [Value.cells] at hcs
      obtain ⟨rfl, rfl, rfl⟩ := hcs
      exact ⟨zs, .inr ⟨_, rfl, hl, hm, by simpa using hz, hcell, hwz⟩⟩
  have y0 : len0 * 1 ≤ 140737488351232 := Go.Proofs.YtainmahlhhcklaaW.PrintWords.sized_ints hsz (j := 0) (t := 46) rfl rfl Try.underlying46 Try.underlying5 (by kernel_rfl) (by kernel_rfl) h0
  obtain ⟨a1, len1, cap1, rfl⟩ := okWide_slice Try.underlying46 (hval 1 46 v1 rfl rfl)
  have k1 := h1
  have lt1 : ∀ x ∈ p1, x.block < W.heap.size := by obtain ⟨m, hm⟩ := k1; exact DataW.trod_lt m _ _ _ hm
  obtain ⟨z1, w1⟩ : ∃ zs, IsRow .u8 W a1 len1 cap1 zs := by
    obtain ⟨fuel, hf⟩ := h1
    rcases open_ints Try.underlying46 Try.underlying5 (by kernel_rfl) hf with ⟨hcs, _⟩ | ⟨x, l, c, zs, hcs, _, hl, hm, hz, _, hcell, hwz⟩
    · simp [Value.cells] at hcs
      obtain ⟨rfl, rfl, rfl⟩ := hcs
      exact ⟨[], .inl ⟨rfl, rfl, rfl, rfl⟩⟩
    · simp [Value.cells] at hcs
      obtain ⟨rfl, rfl, rfl⟩ := hcs
      exact ⟨zs, .inr ⟨_, rfl, hl, hm, by simpa using hz, hcell, hwz⟩⟩
  have y1 : len1 * 1 ≤ 140737488351232 := Go.Proofs.YtainmahlhhcklaaW.PrintWords.sized_ints hsz (j := 1) (t := 46) rfl rfl Try.underlying46 Try.underlying5 (by kernel_rfl) (by kernel_rfl) h1
  clear hA0 hval0 hsz0 hsz
  refine (G.laws_FnSandSettles.walk Pure.FnSandSettles a0 len0 cap0 z0 a1 len1 cap1 z1 W w0 y0 w1 y1).mono fun e W' ⟨he, bel⟩ => ?_
  subst he
  exact ⟨_, rfl, _, _, _, [], _, [], hW', trodAll_mk1 (shut_bool Try.underlying4 _), (trodAll_cons_mk (Below.trod laidOut (by kernel_rfl) (of_decide_eq_true (by kernel_rfl)) k0 bel lt0) (trodAll_cons_mk (Below.trod laidOut (by kernel_rfl) (of_decide_eq_true (by kernel_rfl)) k1 bel lt1) trodAll_mk0)), rfl, bel.frame _, fun h => by cases h⟩
theorem over : Rows.fnSandSettlesRow.holds Try.pinned (OpenSpec.ofChange Rows.fnSandSettlesSpec) :=
  OpenClaim.holds_of_wide 12 Try.f12 rfl rfl rfl rfl rfl rfl rfl ⟨rfl, rfl, rfl, rfl, rfl⟩ rfl rfl rfl rfl rfl (by kernel_rfl) Try.func12 (by show joinedFacts Try.prog _ _ _ _ = true; unfold joinedFacts; rw [Big.may, Big.lifts, Big.make]; kernel_rfl)
    (of_decide_eq_true (by kernel_rfl)) (by unfold Func.isWrapper; first | (rw [if_pos (by decide +kernel)]; kernel_rfl) | (rw [if_neg (by decide +kernel)]; exact ⟨rfl, rfl⟩))
    (fun os started H enc _ => lifted os started H enc)
theorem proved : Rows.FnSandSettlesSaid := over
#print axioms proved
end Go.Proofs.Ytainmahlhhcklaa.fnSandSettles
namespace Go.Proofs.Ytainmahlhhcklaa
/-- The row, under a short name, for the claim. -/
theorem fnSandSettles_holds : Rows.FnSandSettlesSaid := fnSandSettles.proved
end Go.Proofs.Ytainmahlhhcklaa
