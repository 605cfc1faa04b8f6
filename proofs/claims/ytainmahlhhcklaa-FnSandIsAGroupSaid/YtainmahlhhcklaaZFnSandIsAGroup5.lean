/- The law FnSandIsAGroup: part 5 of the printed functions and the facts on them that its row leans on (merged by this session's slim.py). -/
import Derived.Test.YtainmahlhhcklaaZFnSandIsAGroup4
namespace SandT
def run : List Int → List Nat → List Int
  | c, [] => c
  | c, i :: s => run (topl c i) s
@[simp] theorem length_run : ∀ (s : List Nat) (c : List Int), (run c s).length = c.length
  | [], _ => rfl
  | i :: s, c => by simp [run, length_run s]
theorem run_append : ∀ (s t : List Nat) (c : List Int), run c (s ++ t) = run (run c s) t
  | [], _, _ => rfl
  | i :: s, t, c => by simp [run, run_append s t]
theorem get_run : ∀ (s : List Nat) (c : List Int) (j : Nat), j < c.length → (run c s).getD j 0 = c.getD j 0 + s.length - (c.length + 1) * (s.count j : Int)
  | [], c, j, hj => by simp [run]
  | i :: s, c, j, hj => by
    rw [run, get_run s (topl c i) j (by simpa using hj), get_topl c i j hj, length_topl, List.count_cons, List.length_cons]
    by_cases e : j = i
    · subst e
      simp only [if_true, beq_self_eq_true]
      push_cast
      rw [Int.mul_add]
      omega
    · have e1 : (i == j) = false := by simpa using (Ne.symm e)
      simp only [e, if_false, e1, Bool.false_eq_true]
      push_cast
      simp
      omega
/-- Each toppling is of a node that may topple. -/
def Legal : List Int → List Nat → Prop
  | _, [] => True
  | c, i :: s => i < c.length ∧ (c.length : Int) ≤ c.getD i 0 ∧ Legal (topl c i) s
theorem legal_append : ∀ (s t : List Nat) (c : List Int), Legal c (s ++ t) ↔ Legal c s ∧ Legal (run c s) t
  | [], _, _ => by simp [Legal, run]
  | i :: s, t, c => by simp [Legal, run, legal_append s t, and_assoc]
def Stable (c : List Int) : Prop := ∀ j, j < c.length → c.getD j 0 < c.length
theorem legal_lt : ∀ (s : List Nat) (c : List Int), Legal c s → ∀ i ∈ s, i < c.length
  | [], _, _, i, h => by simp at h
  | k :: s, c, h, i, hi => by
    rcases List.mem_cons.1 hi with rfl | hi
    · exact h.1
    · simpa using legal_lt s _ h.2.2 i hi
/-- What is legal topples no node more often than what leads to stable sand. -/
theorem least (c : List Int) (t : List Nat) (ht : Stable (run c t)) : ∀ (s : List Nat), Legal c s → ∀ j, s.count j ≤ t.count j := by
  have key : ∀ (r s : List Nat), s = r.reverse → Legal c s → ∀ j, s.count j ≤ t.count j := by
    intro r
    induction r with
    | nil => intro s hs _ j; subst hs; simp
    | cons i r ih =>
      intro s hs hl j
      have hs' : s = r.reverse ++ [i] := by simpa using hs
      subst hs'
      rw [legal_append] at hl
      have h1 := ih r.reverse rfl hl.1
      rw [List.count_append]
      by_cases e : j = i
      · subst e
        have hlen := length_le_of_count_le _ _ h1
        have hj : j < c.length := by have := hl.2.1; simpa using this
        have hv := hl.2.2.1
        rw [length_run, get_run _ _ _ hj] at hv
        have hst := ht j (by simpa using hj)
        rw [length_run, get_run _ _ _ hj] at hst
        have h1j := h1 j
        simp only [List.count_cons_self, List.count_nil]
        rcases Nat.lt_or_ge (r.reverse.count j) (t.count j) with hlt | hge
        · omega
        · have heq : r.reverse.count j = t.count j := by omega
          rw [heq] at hv
          have : (r.reverse.length : Int) ≤ t.length := by omega
          omega
      · have e1 : (i == j) = false := by simpa using (Ne.symm e)
        have : [i].count j = 0 := by simp [List.count_cons, e1]
        have := h1 j
        omega
  intro s
  exact key s.reverse s (by simp)
theorem ext_getD {a b : List Int} (hl : a.length = b.length) (h : ∀ j, j < a.length → a.getD j 0 = b.getD j 0) : a = b := by
  apply List.ext_getElem hl
  intro i h1 h2
  have := h i h1
  rw [List.getD_eq_getElem?_getD, List.getD_eq_getElem?_getD, List.getElem?_eq_getElem h1, List.getElem?_eq_getElem h2] at this
  simpa using this
/-- Toppling ends alike in any order, each node as often. -/
theorem abelian {c : List Int} {s t : List Nat} (hs : Legal c s) (ht : Legal c t) (hs' : Stable (run c s)) (ht' : Stable (run c t)) : (∀ j, s.count j = t.count j) ∧ s.length = t.length ∧ run c s = run c t := by
  have h1 : ∀ j, s.count j = t.count j := fun j => Nat.le_antisymm (least c t ht' s hs j) (least c s hs' t ht j)
  have h2 : s.length = t.length := Nat.le_antisymm (length_le_of_count_le _ _ fun a => Nat.le_of_eq (h1 a)) (length_le_of_count_le _ _ fun a => Nat.le_of_eq (h1 a).symm)
  refine ⟨h1, h2, ext_getD (by simp) fun j hj => ?_⟩
  have hj' : j < c.length := by simpa using hj
  rw [get_run _ _ _ hj', get_run _ _ _ hj', h1 j, h2]
/-- The sum of two lists as long as the first one. -/
def plus (a b : List Int) : List Int := a.mapIdx fun i x => x + b.getD i 0
@[simp] theorem length_plus (a b : List Int) : (plus a b).length = a.length := by simp [plus]
theorem get_plus (a b : List Int) (j : Nat) (hj : j < a.length) : (plus a b).getD j 0 = a.getD j 0 + b.getD j 0 := by
  simp [plus, List.getD_eq_getElem?_getD, List.getElem?_mapIdx, List.getElem?_eq_getElem hj]
theorem plus_topl (a b : List Int) (i : Nat) : plus (topl a i) b = topl (plus a b) i := by
  apply ext_getD (by simp)
  intro j hj
  have hj' : j < a.length := by simpa using hj
  rw [get_plus _ _ _ (by simpa using hj'), get_topl _ _ _ hj', get_topl _ _ _ (by simpa using hj'), get_plus _ _ _ hj', length_plus]
  split <;> omega
theorem plus_run : ∀ (s : List Nat) (a b : List Int), plus (run a s) b = run (plus a b) s
  | [], _, _ => rfl
  | i :: s, a, b => by rw [run, run, plus_run s, plus_topl]
theorem legal_plus (b : List Int) (hb : ∀ j, 0 ≤ b.getD j 0) : ∀ (s : List Nat) (a : List Int), Legal a s → Legal (plus a b) s
  | [], _, _ => trivial
  | i :: s, a, h => by
    refine ⟨by simpa using h.1, ?_, ?_⟩
    · rw [length_plus, get_plus _ _ _ h.1]; have := hb i; have := h.2.1; omega
    · rw [← plus_topl]; exact legal_plus b hb s _ h.2.2
theorem plus_comm {a b : List Int} (h : a.length = b.length) : plus a b = plus b a := by
  apply ext_getD (by simpa using h)
  intro j hj
  have hj' : j < a.length := by simpa using hj
  rw [get_plus _ _ _ hj', get_plus _ _ _ (by omega)]; omega
def first (c : List Int) : Option Nat := c.findIdx? fun x => decide ((c.length : Int) ≤ x)
theorem first_some {c : List Int} {i : Nat} (h : first c = some i) : i < c.length ∧ (c.length : Int) ≤ c.getD i 0 := by
  unfold first at h
  rw [List.findIdx?_eq_some_iff_getElem] at h
  obtain ⟨h1, h2, _⟩ := h
  refine ⟨h1, ?_⟩
  rw [List.getD_eq_getElem?_getD, List.getElem?_eq_getElem h1]
  simpa using h2
theorem first_none {c : List Int} (h : first c = none) : Stable c := by
  unfold first at h
  rw [List.findIdx?_eq_none_iff] at h
  intro j hj
  have := h c[j] (List.getElem_mem hj)
  rw [List.getD_eq_getElem?_getD, List.getElem?_eq_getElem hj]
  simpa using this
theorem first_of_stable {c : List Int} (h : Stable c) : first c = none := by
  cases e : first c with
  | none => rfl
  | some i => have := first_some e; have := h i this.1; omega
def settle : Nat → List Int → List Int × List Nat
  | 0, c => (c, [])
  | k + 1, c => match first c with
    | none => (c, [])
    | some i => ((settle k (topl c i)).1, i :: (settle k (topl c i)).2)
theorem settle_run : ∀ (k : Nat) (c : List Int), (settle k c).1 = run c (settle k c).2 ∧ Legal c (settle k c).2
  | 0, c => ⟨rfl, trivial⟩
  | k + 1, c => by
    unfold settle
    cases e : first c with
    | none => exact ⟨rfl, trivial⟩
    | some i => obtain ⟨h1, h2⟩ := settle_run k (topl c i); exact ⟨h1, (first_some e).1, (first_some e).2, h2⟩
theorem sum_map_one : ∀ (c : List Int), (c.map (· + 1)).sum = c.sum + c.length
  | [] => rfl
  | x :: c => by simp only [List.map_cons, List.sum_cons, sum_map_one c, List.length_cons]; push_cast; omega
theorem sum_set : ∀ (c : List Int) (i : Nat) (x : Int), i < c.length → (c.set i x).sum = c.sum - c.getD i 0 + x
  | [], i, x, h => by simp at h
  | y :: c, 0, x, h => by simp; omega
  | y :: c, i + 1, x, h => by simp only [List.set_cons_succ, List.sum_cons, sum_set c i x (by simpa using h), List.getD_cons_succ]; omega
theorem sum_topl (c : List Int) (i : Nat) (h : i < c.length) : (topl c i).sum = c.sum - 1 := by
  unfold topl
  rw [sum_set _ _ _ (by simpa using h), sum_map_one]
  rw [List.getD_eq_getElem?_getD, List.getD_eq_getElem?_getD, List.getElem?_map, List.getElem?_eq_getElem h]
  simp; omega
def Nonneg (c : List Int) : Prop := ∀ j, 0 ≤ c.getD j 0
theorem nn_topl {c : List Int} (h : Nonneg c) {i : Nat} (hi : (c.length : Int) ≤ c.getD i 0) : Nonneg (topl c i) := by
  intro j
  by_cases hj : j < c.length
  · rw [get_topl _ _ _ hj]; have := h j; split
    · subst_vars; omega
    · omega
  · rw [List.getD_eq_getElem?_getD, List.getElem?_eq_none (by simpa using hj)]; simp
theorem nn_sum : ∀ {c : List Int}, Nonneg c → 0 ≤ c.sum
  | [], _ => by simp
  | x :: c, h => by
    have h0 := h 0
    have := nn_sum (c := c) (fun j => by simpa using h (j + 1))
    simp at h0 ⊢; omega
theorem settle_stable : ∀ (k : Nat) (c : List Int), Nonneg c → c.sum < k → Stable (settle k c).1
  | 0, c, h, hk => by have := nn_sum h; omega
  | k + 1, c, h, hk => by
    unfold settle
    cases e : first c with
    | none => exact first_none e
    | some i =>
      have hi := first_some e
      exact settle_stable k _ (nn_topl h hi.2) (by rw [sum_topl _ _ hi.1]; omega)
/-- The stable sand, and the nodes in order. -/
def stab (c : List Int) : List Int × List Nat := settle (c.sum.toNat + 1) c
theorem stab_run (c : List Int) : (stab c).1 = run c (stab c).2 := (settle_run _ c).1
theorem stab_legal (c : List Int) : Legal c (stab c).2 := (settle_run _ c).2
theorem stab_stable {c : List Int} (h : Nonneg c) : Stable (stab c).1 := settle_stable _ c h (by have := nn_sum h; omega)
theorem settle_eq : ∀ (k k' : Nat) (c : List Int), Nonneg c → c.sum < k → c.sum < k' → settle k c = settle k' c
  | 0, _, c, h, hk, _ => by have := nn_sum h; omega
  | _, 0, c, h, _, hk => by have := nn_sum h; omega
  | k + 1, k' + 1, c, h, hk, hk' => by
    unfold settle
    cases e : first c with
    | none => rfl
    | some i =>
      have hi := first_some e
      have hs := sum_topl _ _ hi.1
      have := settle_eq k k' (topl c i) (nn_topl h hi.2) (by omega) (by omega)
      simp only [this]
theorem stab_step {c : List Int} (h : Nonneg c) {i : Nat} (e : first c = some i) : stab c = ((stab (topl c i)).1, i :: (stab (topl c i)).2) := by
  have hi := first_some e
  have hs := sum_topl _ _ hi.1
  have h0 := nn_sum h
  have h1 := nn_sum (nn_topl h hi.2)
  unfold stab
  rw [settle, e]
  simp only
  rw [settle_eq c.sum.toNat ((topl c i).sum.toNat + 1) (topl c i) (nn_topl h hi.2) (by omega) (by omega)]
theorem stab_end {c : List Int} (e : first c = none) : stab c = (c, []) := by unfold stab; rw [settle, e]
/-- What is stable and comes of c by legal topplings is what c settles in. -/
theorem stab_unique {c : List Int} (h : Nonneg c) {s : List Nat} (hl : Legal c s) (hs : Stable (run c s)) : (stab c).1 = run c s ∧ (stab c).2.length = s.length ∧ ∀ j, (stab c).2.count j = s.count j := by
  have hst := stab_stable h
  rw [stab_run] at hst ⊢
  obtain ⟨h1, h2, h3⟩ := abelian (stab_legal c) hl hst hs
  exact ⟨h3, h2, h1⟩
theorem stab_fix {c : List Int} (h : Stable c) : (stab c).1 = c := by rw [stab_end (first_of_stable h)]
theorem nn_run : ∀ {s : List Nat} {c : List Int}, Nonneg c → Legal c s → Nonneg (run c s)
  | [], _, h, _ => h
  | i :: s, c, h, hl => by
    rw [run]
    exact nn_run (nn_topl h hl.2.1) hl.2.2
theorem nn_stab {c : List Int} (h : Nonneg c) : Nonneg (stab c).1 := by rw [stab_run]; exact nn_run h (stab_legal c)
theorem nn_plus {a b : List Int} (ha : Nonneg a) (hb : Nonneg b) : Nonneg (plus a b) := by
  intro j
  by_cases hj : j < a.length
  · rw [get_plus _ _ _ hj]; have := ha j; have := hb j; omega
  · rw [List.getD_eq_getElem?_getD, List.getElem?_eq_none (by simpa using hj)]; simp
@[simp] theorem length_stab (c : List Int) : (stab c).1.length = c.length := by rw [stab_run]; simp
/-- Legal topplings first: it settles alike. -/
theorem stab_of_run {c : List Int} (h : Nonneg c) {s : List Nat} (hl : Legal c s) : (stab c).1 = (stab (run c s)).1 := by
  have hn := nn_run h hl
  have := stab_unique h (s := s ++ (stab (run c s)).2) ((legal_append _ _ _).2 ⟨hl, stab_legal _⟩) (by rw [run_append, ← stab_run]; exact stab_stable hn)
  rw [this.1, run_append, ← stab_run]
/-- Settling in between changes nothing. -/
theorem stab_plus {a b : List Int} (ha : Nonneg a) (hb : Nonneg b) : (stab (plus (stab a).1 b)).1 = (stab (plus a b)).1 := by
  rw [stab_run a, plus_run]
  exact (stab_of_run (nn_plus ha hb) (legal_plus b hb _ _ (stab_legal a))).symm
def ones (n : Nat) : List Int := List.replicate n 1
theorem get_ones (n j : Nat) (h : j < n) : (ones n).getD j 0 = 1 := by
  simp [ones, List.getD_eq_getElem?_getD, h]
theorem nn_ones (n : Nat) : Nonneg (ones n) := by
  intro j
  unfold ones
  rw [List.getD_eq_getElem?_getD, List.getElem?_replicate]
  split <;> simp
/-- One grain more on each node. -/
def more (c : List Int) : List Int := plus c (ones c.length)
@[simp] theorem length_more (c : List Int) : (more c).length = c.length := by simp [more]
theorem get_more (c : List Int) (j : Nat) (h : j < c.length) : (more c).getD j 0 = c.getD j 0 + 1 := by rw [more, get_plus _ _ _ h, get_ones _ _ h]
theorem nn_more {c : List Int} (h : Nonneg c) : Nonneg (more c) := nn_plus h (nn_ones _)
theorem count_range (n j : Nat) : (List.range n).count j = if j < n then 1 else 0 := by
  rw [List.Nodup.count List.nodup_range]; simp
theorem run_range {c : List Int} : run (more c) (List.range c.length) = c := by
  apply ext_getD (by simp)
  intro j hj
  have hj' : j < c.length := by simpa using hj
  rw [get_run _ _ _ (by simpa using hj'), get_more _ _ hj', count_range, if_pos hj', length_more, List.length_range]
  push_cast
  omega
/-- No node topples twice. -/
theorem more_once {c : List Int} (hs : Stable c) (j : Nat) : (stab (more c)).2.count j ≤ 1 := by
  have := least (more c) (List.range c.length) (by rw [run_range]; exact hs) _ (stab_legal (more c)) j
  rw [count_range] at this
  split at this <;> omega
theorem sum_count (n : Nat) : ∀ (s : List Nat), (∀ i ∈ s, i < n) → s.length = ((List.range n).map fun j => s.count j).sum
  | [], _ => by
    simp only [List.count_nil, List.length_nil]
    induction n with
    | zero => rfl
    | succ n ih => rw [List.range_succ, List.map_append, List.sum_append, ← ih (fun i hi => by simp at hi)]; simp
  | i :: s, h => by
    have ih := sum_count n s (fun k hk => h k (by simp [hk]))
    have hi := h i (by simp)
    rw [List.length_cons, ih]
    clear ih
    have key : ∀ m, ((List.range m).map fun j => (i :: s).count j).sum = ((List.range m).map fun j => s.count j).sum + if i < m then 1 else 0 := by
      intro m
      induction m with
      | zero => simp
      | succ m ih =>
        rw [List.range_succ, List.map_append, List.map_append, List.sum_append, List.sum_append, ih]
        simp only [List.map_cons, List.map_nil, List.sum_cons, List.sum_nil, List.count_cons]
        by_cases e : i = m
        · subst e; simp; omega
        · have e1 : (i == m) = false := by simpa using e
          rw [e1]
          by_cases h1 : i < m
          · have h2 : i < m + 1 := by omega
            simp only [h1, h2, if_true, Bool.false_eq_true, if_false]; omega
          · have h2 : ¬ i < m + 1 := by omega
            simp only [h1, h2, Bool.false_eq_true, if_false]; omega
    rw [key n, if_pos hi]
/-- All that comes back has toppled just once. -/
theorem back_once {c : List Int} (h : (stab (more c)).1 = c) : (∀ j, j < c.length → (stab (more c)).2.count j = 1) ∧ (stab (more c)).2.length = c.length := by
  have hr := stab_run (more c)
  rw [h] at hr
  have hv : ∀ j, j < c.length → (c.length + 1) * ((stab (more c)).2.count j : Int) = 1 + (stab (more c)).2.length := by
    intro j hj
    have := get_run (stab (more c)).2 (more c) j (by simpa using hj)
    rw [← hr, get_more _ _ hj, length_more] at this
    omega
  have hsum := sum_count c.length (stab (more c)).2 (fun i hi => by have := legal_lt _ _ (stab_legal (more c)) i hi; simpa using this)
  rcases Nat.eq_zero_or_pos c.length with h0 | h0
  · refine ⟨fun j hj => by omega, ?_⟩
    rw [hsum, h0]; rfl
  · obtain ⟨m, hm⟩ : ∃ m, m = (stab (more c)).2.count 0 := ⟨_, rfl⟩
    have e0 := hv 0 h0
    rw [← hm] at e0
    have all : ∀ j, j < c.length → (stab (more c)).2.count j = m := by
      intro j hj
      have ej := hv j hj
      have : ((c.length : Int) + 1) * ((stab (more c)).2.count j : Int) = (c.length + 1) * (m : Int) := by omega
      have := Int.eq_of_mul_eq_mul_left (by omega) this
      omega
    have hlen : (stab (more c)).2.length = c.length * m := by
      rw [hsum]
      have : ∀ k, k ≤ c.length → ((List.range k).map fun j => (stab (more c)).2.count j).sum = k * m := by
        intro k
        induction k with
        | zero => intro _; simp
        | succ k ih => intro hk; rw [List.range_succ, List.map_append, List.sum_append, ih (by omega)]; simp [all k (by omega), Nat.add_mul]
      exact this _ (Nat.le_refl _)
    rw [hlen] at e0
    push_cast at e0
    rw [Int.add_mul] at e0
    have : m = 1 := by omega
    subst this
    exact ⟨all, by rw [hlen]; omega⟩
def Rec (c : List Int) : Prop := Stable c ∧ (stab (more c)).1 = c
def less (m : Int) (c : List Int) : Nat := (c.filter fun x => decide (x < m)).length
/-- Counting nodes by their places. -/
theorem less_places (m : Int) : ∀ (c : List Int), less m c = ((List.range c.length).filter fun j => decide (c.getD j 0 < m)).length
  | [] => rfl
  | x :: c => by
    have ih := less_places m c
    rw [List.length_cons, List.range_succ_eq_map, List.filter_cons, List.filter_map, less, List.filter_cons]
    have e : ((fun j => decide ((x :: c).getD j 0 < m)) ∘ Nat.succ) = fun j => decide (c.getD j 0 < m) := by funext j; simp
    rw [e]
    simp only [List.getD_cons_zero]
    unfold less at ih
    split
    · simp [ih]
    · simp [ih]
theorem length_filter_not {α : Type} (l : List α) (p : α → Bool) : (l.filter p).length + (l.filter fun x => !p x).length = l.length := by
  induction l with
  | nil => rfl
  | cons x l ih =>
    simp only [List.filter_cons, List.length_cons]
    cases p x <;> simp <;> omega
theorem nodup_count_one {l : List Nat} (h : ∀ j, l.count j ≤ 1) : l.Nodup := by
  rw [List.nodup_iff_count]; exact h
/-- DHAR's TEST, by numbers. -/
theorem rec_iff {c : List Int} (hs : Stable c) (hn : Nonneg c) : Rec c ↔ ∀ m : Nat, m ≤ c.length → less m c ≤ m := by
  constructor
  · rintro ⟨_, hb⟩ m hm
    obtain ⟨h1, h2⟩ := back_once hb
    -- the first of those nodes that topples
    rcases Nat.lt_or_ge m (less m c) with hv | hv
    · exfalso
      have hlegal := stab_legal (more c)
      have hlt : ∀ i ∈ (stab (more c)).2, i < c.length := fun i hi => by have := legal_lt _ _ hlegal i hi; simpa using this
      generalize hS : (stab (more c)).2 = s at *
      have hnd : s.Nodup := nodup_count_one (fun j => by
        rcases Nat.lt_or_ge j c.length with h | h
        · rw [h1 j h]; exact Nat.le_refl _
        · rw [List.count_eq_zero.2 (fun hj => by have := hlt j hj; omega)]; omega)
      -- split at the first element with c < m
      have : ∃ a i b, s = a ++ i :: b ∧ (∀ x ∈ a, ¬ c.getD x 0 < m) ∧ c.getD i 0 < m := by
        have hex : ∃ i ∈ s, c.getD i 0 < m := by
          have : 0 < less m c := by omega
          rw [less_places] at this
          obtain ⟨i, hi⟩ := List.exists_mem_of_length_pos this
          rw [List.mem_filter, List.mem_range] at hi
          refine ⟨i, ?_, by simpa using hi.2⟩
          have := h1 i hi.1
          exact List.count_pos_iff.1 (by omega)
        clear h1 h2 hlegal hlt hnd hS
        induction s with
        | nil => obtain ⟨i, hi, _⟩ := hex; simp at hi
        | cons x s ih =>
          by_cases hx : c.getD x 0 < m
          · exact ⟨[], x, s, rfl, fun y hy => by simp at hy, hx⟩
          · obtain ⟨i, hi, hic⟩ := hex
            rcases List.mem_cons.1 hi with rfl | hi
            · exact absurd hic hx
            · obtain ⟨a, k, b, e, ha, hk⟩ := ih ⟨i, hi, hic⟩
              exact ⟨x :: a, k, b, by rw [e]; rfl, (fun y hy => by
                rcases List.mem_cons.1 hy with rfl | hy
                · exact hx
                · exact ha y hy), hk⟩
      obtain ⟨a, i, b, rfl, ha, hi⟩ := this
      rw [legal_append] at hlegal
      have hil := hlt i (by simp)
      have hv2 := hlegal.2.2.1
      rw [length_run, get_run _ _ _ (by simpa using hil), get_more _ _ hil, length_more] at hv2
      have hcnt : a.count i = 0 := by
        rw [List.count_eq_zero]
        intro hmem
        exact ha i hmem hi
      rw [hcnt] at hv2
      -- a is made of other nodes
      have hle : a.length ≤ ((List.range c.length).filter fun j => !decide (c.getD j 0 < m)).length := by
        apply length_le_of_count_le
        intro x
        have hxa : a.count x ≤ 1 := by
          have := (List.nodup_iff_count.1 hnd) x
          rw [List.count_append] at this
          omega
        by_cases hm' : x ∈ a
        · have hx1 : x ∈ (List.range c.length).filter fun j => !decide (c.getD j 0 < m) := by
            rw [List.mem_filter, List.mem_range]
            exact ⟨hlt x (by simp [hm']), by simpa using ha x hm'⟩
          have := List.count_pos_iff.2 hx1
          omega
        · rw [List.count_eq_zero.2 hm']; omega
      have := length_filter_not (List.range c.length) (fun j => decide (c.getD j 0 < m))
      rw [← less_places, List.length_range] at this
      omega
    · exact hv
  · intro hm
    refine ⟨hs, ?_⟩
    have hlegal := stab_legal (more c)
    have hst := stab_stable (nn_more hn)
    have hrun := stab_run (more c)
    rw [hrun] at hst ⊢
    have honce := more_once hs
    have hlt : ∀ i ∈ (stab (more c)).2, i < c.length := fun i hi => by have := legal_lt _ _ hlegal i hi; simpa using this
    generalize (stab (more c)).2 = s at *
    have hnd : s.Nodup := nodup_count_one honce
    have hsl : s.length ≤ c.length := by
      have := length_le_of_count_le s (List.range c.length) (fun x => by
        by_cases hx : x ∈ s
        · have := List.count_pos_iff.2 (show x ∈ List.range c.length by rw [List.mem_range]; exact hlt x hx)
          have := honce x
          omega
        · rw [List.count_eq_zero.2 hx]; omega)
      simpa using this
    have full : s.length = c.length := by
      apply Classical.byContradiction
      intro hne
      have hmm := hm (c.length - 1 - s.length) (by omega)
      rw [less_places] at hmm
      -- all nodes that haven't toppled have less
      have hsub : ((List.range c.length).filter fun j => !decide (j ∈ s)).length ≤ ((List.range c.length).filter fun j => decide (c.getD j 0 < ((c.length - 1 - s.length : Nat) : Int))).length := by
        rw [← List.countP_eq_length_filter, ← List.countP_eq_length_filter]
        apply List.countP_mono_left
        intro j hj hj'
        rw [List.mem_range] at hj
        have hjs : j ∉ s := by simpa using hj'
        have := hst j (by simpa using hj)
        rw [length_run, get_run _ _ _ (by simpa using hj), get_more _ _ hj, List.count_eq_zero.2 hjs, length_more] at this
        simp only [decide_eq_true_eq]
        omega
      have hpart := length_filter_not (List.range c.length) (fun j => decide (j ∈ s))
      have hin : ((List.range c.length).filter fun j => decide (j ∈ s)).length ≤ s.length := by
        apply length_le_of_count_le
        intro x
        by_cases hx : x ∈ (List.range c.length).filter fun j => decide (j ∈ s)
        · have h1 : ((List.range c.length).filter fun j => decide (j ∈ s)).count x ≤ 1 := (List.nodup_iff_count.1 (List.nodup_range.filter _)) x
          rw [List.mem_filter] at hx
          have := List.count_pos_iff.2 (show x ∈ s by simpa using hx.2)
          omega
        · rw [List.count_eq_zero.2 hx]; omega
      rw [List.length_range] at hpart
      omega
    apply ext_getD (by simp)
    intro j hj
    have hj' : j < c.length := by simpa using hj
    have hc1 : s.count j = 1 := by
      have hsum := sum_count c.length s hlt
      apply Classical.byContradiction
      intro hne
      have h0 : s.count j = 0 := by have := honce j; omega
      have hle : ∀ k, k ≤ c.length → ((List.range k).map fun i => s.count i).sum + (if j < k then 1 else 0) ≤ k := by
        intro k
        induction k with
        | zero => intro _; simp
        | succ k ih =>
          intro hk
          have := ih (by omega)
          rw [List.range_succ, List.map_append, List.sum_append]
          simp only [List.map_cons, List.map_nil, List.sum_cons, List.sum_nil]
          have h1 := honce k
          by_cases e : j = k
          · subst e; rw [if_pos (by omega)]; rw [if_neg (by omega)] at this; omega
          · by_cases hjk : j < k
            · rw [if_pos (by omega)]; rw [if_pos hjk] at this; omega
            · rw [if_neg (by omega)]; rw [if_neg hjk] at this; omega
      have := hle c.length (Nat.le_refl _)
      rw [if_pos hj', ← hsum, full] at this
      omega
    rw [get_run _ _ _ (by simpa using hj'), get_more _ _ hj', hc1, full, length_more]
    push_cast
    omega
theorem plus_zero {a b : List Int} (hb : ∀ j, j < a.length → b.getD j 0 = 0) : plus a b = a := by
  apply ext_getD (by simp)
  intro j hj
  have hj' : j < a.length := by simpa using hj
  rw [get_plus _ _ _ hj', hb j hj']; omega
def const (n : Nat) (k : Int) : List Int := List.replicate n k
theorem get_const (n j : Nat) (k : Int) (h : j < n) : (const n k).getD j 0 = k := by
  simp [const, List.getD_eq_getElem?_getD, h]
theorem nn_const (n : Nat) {k : Int} (hk : 0 ≤ k) : Nonneg (const n k) := by
  intro j
  unfold const
  rw [List.getD_eq_getElem?_getD, List.getElem?_replicate]
  split <;> simp [hk]
/-- Recurrent sand takes the same number of grains on every node. -/
theorem rec_const {c : List Int} (hr : Rec c) (hn : Nonneg c) : ∀ (k : Nat), (stab (plus c (const c.length k))).1 = c
  | 0 => by
    rw [plus_zero (fun j hj => by rw [get_const _ _ _ hj]; rfl)]
    exact stab_fix hr.1
  | k + 1 => by
    have ih := rec_const hr hn k
    have e : plus c (const c.length ((k + 1 : Nat) : Int)) = plus (plus c (const c.length k)) (ones c.length) := by
      apply ext_getD (by simp)
      intro j hj
      have hj' : j < c.length := by simpa using hj
      rw [get_plus _ _ _ hj', get_plus _ _ _ (by simpa using hj'), get_plus _ _ _ hj', get_const _ _ _ hj', get_const _ _ _ hj', get_ones _ _ hj']
      push_cast; omega
    rw [e, ← stab_plus (nn_plus hn (nn_const _ (by omega))) (nn_ones _), ih]
    exact hr.2
/-- With sand added, recurrent sand stays recurrent. -/
theorem rec_plus {c d : List Int} (hr : Rec c) (hn : Nonneg c) (hd : Nonneg d) : Rec (stab (plus c d)).1 := by
  have hcd := nn_plus hn hd
  refine ⟨stab_stable hcd, ?_⟩
  have e : more (stab (plus c d)).1 = plus (stab (plus c d)).1 (ones c.length) := by unfold more; simp
  rw [e, stab_plus hcd (nn_ones _)]
  have e2 : plus (plus c d) (ones c.length) = plus (more c) d := by
    apply ext_getD (by simp)
    intro j hj
    have hj' : j < c.length := by simpa using hj
    rw [get_plus _ _ _ (by simpa using hj'), get_plus _ _ _ hj', get_ones _ _ hj', get_plus _ _ _ (by simpa using hj'), get_more _ _ hj']; omega
  rw [e2, ← stab_plus (nn_more hn) hd, hr.2]
/-- The greatest stable sand is recurrent; it is the neutral one. -/
def top (n : Nat) : List Int := const n ((n : Int) - 1)
theorem top_rec (n : Nat) : Rec (top n) := by
  have hl : (top n).length = n := by simp [top, const]
  have hs : Stable (top n) := by
    intro j hj
    rw [hl] at hj ⊢
    rw [top, get_const _ _ _ hj]; omega
  rcases Nat.eq_zero_or_pos n with h0 | h0
  · subst h0
    refine ⟨hs, ?_⟩
    rfl
  · rw [rec_iff hs (nn_const _ (by omega))]
    intro m hm
    rw [hl] at hm
    unfold less top const
    rw [List.filter_replicate]
    split
    · rename_i h
      simp only [decide_eq_true_eq] at h
      simp; omega
    · simp
theorem neutral {e : List Int} (hr : Rec e) (hn : Nonneg e) : (stab (plus e (top e.length))).1 = e := by
  rcases Nat.eq_zero_or_pos e.length with h0 | h0
  · have : e = [] := List.eq_nil_of_length_eq_zero h0
    subst this; rfl
  · have := rec_const hr hn (e.length - 1)
    unfold top
    have e1 : (((e.length - 1 : Nat) : Int)) = (e.length : Int) - 1 := by omega
    rwa [e1] at this
theorem legal_of_count : ∀ (s : List Nat) (c : List Int), (∀ i ∈ s, i < c.length ∧ (c.length : Int) + (c.length + 1) * ((s.count i : Int) - 1) ≤ c.getD i 0) → Legal c s
  | [], _, _ => trivial
  | i :: s, c, h => by
    have hi := h i (by simp)
    rw [List.count_cons_self] at hi
    push_cast at hi
    refine ⟨hi.1, ?_, ?_⟩
    · have : 0 ≤ ((c.length : Int) + 1) * ((s.count i : Int) + 1 - 1) := Int.mul_nonneg (by omega) (by omega)
      omega
    · apply legal_of_count s
      intro j hj
      have hj' := h j (by simp [hj])
      rw [length_topl, get_topl _ _ _ hj'.1]
      refine ⟨hj'.1, ?_⟩
      rw [List.count_cons] at hj'
      by_cases e : j = i
      · subst e
        simp only [beq_self_eq_true, if_true] at hj' ⊢
        have h2 := hj'.2
        push_cast at h2
        have : ((c.length : Int) + 1) * ((s.count j : Int) + 1 - 1) = (c.length + 1) * ((s.count j : Int) - 1) + (c.length + 1) := by
          rw [show ((s.count j : Int) + 1 - 1) = ((s.count j : Int) - 1) + 1 by omega, Int.mul_add]; omega
        omega
      · have e1 : (i == j) = false := by simpa using (Ne.symm e)
        rw [e1] at hj'
        simp only [Bool.false_eq_true, if_false, Nat.add_zero] at hj'
        rw [if_neg e]
        omega
/-- A list in which i stands as often as f says. -/
def often (f : Nat → Nat) : Nat → List Nat
  | 0 => []
  | n + 1 => often f n ++ List.replicate (f n) n
theorem count_often (f : Nat → Nat) : ∀ (n j : Nat), (often f n).count j = if j < n then f j else 0
  | 0, j => by simp [often]
  | n + 1, j => by
    rw [often, List.count_append, count_often f n j, List.count_replicate]
    by_cases e : n = j
    · subst e; simp
    · have e1 : (n == j) = false := by simpa using e
      rw [e1]
      by_cases h : j < n
      · have h2 : j < n + 1 := by omega
        simp [h, h2]
      · have h2 : ¬ j < n + 1 := by omega
        simp [h, h2]
theorem mem_often {f : Nat → Nat} {n j : Nat} (h : j ∈ often f n) : j < n := by
  have := List.count_pos_iff.2 h
  rw [count_often] at this
  split at this <;> omega
def times (k : Nat) (e : List Int) : List Int := e.map fun x => (k : Int) * x
@[simp] theorem length_times (k : Nat) (e : List Int) : (times k e).length = e.length := by simp [times]
theorem get_times (k : Nat) (e : List Int) (j : Nat) (h : j < e.length) : (times k e).getD j 0 = k * e.getD j 0 := by
  simp [times, List.getD_eq_getElem?_getD, List.getElem?_eq_getElem h]
theorem nn_times (k : Nat) {e : List Int} (h : Nonneg e) : Nonneg (times k e) := by
  intro j
  by_cases hj : j < e.length
  · rw [get_times _ _ _ hj]; exact Int.mul_nonneg (by omega) (h j)
  · rw [List.getD_eq_getElem?_getD, List.getElem?_eq_none (by simpa using hj)]; simp
def rep (e : List Int) : Nat → List Int
  | 0 => top e.length
  | k + 1 => (stab (plus (rep e k) e)).1
@[simp] theorem length_top (n : Nat) : (top n).length = n := by simp [top, const]
@[simp] theorem length_rep (e : List Int) : ∀ k, (rep e k).length = e.length
  | 0 => by simp [rep]
  | k + 1 => by simp [rep, length_rep e k]
theorem nn_top (n : Nat) : Nonneg (top n) := by
  rcases Nat.eq_zero_or_pos n with h | h
  · subst h; intro j; simp [top, const]
  · exact nn_const _ (by omega)
theorem rep_eq {e : List Int} (hn : Nonneg e) : ∀ k, rep e k = (stab (plus (top e.length) (times k e))).1
  | 0 => by
    rw [plus_zero (fun j hj => by rw [get_times _ _ _ (by simpa using hj)]; simp)]
    exact (stab_fix (top_rec _).1).symm
  | k + 1 => by
    rw [rep, rep_eq hn k, stab_plus (nn_plus (nn_top _) (nn_times k hn)) hn]
    congr 2
    apply ext_getD (by simp)
    intro j hj
    have hj' : j < e.length := by simpa using hj
    rw [get_plus _ _ _ (by simpa using hj'), get_plus _ _ _ (by simpa using hj'), get_plus _ _ _ (by simpa using hj'), get_times _ _ _ hj', get_times _ _ _ hj']
    push_cast
    rw [Int.add_mul]; omega
/-- n + 1 repetitions lead back. -/
theorem rep_round {e : List Int} (hn : Nonneg e) : rep e (e.length + 1) = top e.length := by
  rw [rep_eq hn]
  have hc := nn_plus (nn_top e.length) (nn_times (e.length + 1) hn)
  have hcount : ∀ j, j < e.length → ((often (fun j => (e.getD j 0).toNat) e.length).count j : Int) = e.getD j 0 := by
    intro j hj
    rw [count_often, if_pos hj]; have := hn j; omega
  have hget : ∀ j, j < e.length → (plus (top e.length) (times (e.length + 1) e)).getD j 0 = (e.length : Int) - 1 + (e.length + 1) * e.getD j 0 := by
    intro j hj
    rw [get_plus _ _ _ (by simpa using hj), get_times _ _ _ hj, top, get_const _ _ _ hj]
    push_cast; rfl
  have hl : Legal (plus (top e.length) (times (e.length + 1) e)) (often (fun j => (e.getD j 0).toNat) e.length) := by
    apply legal_of_count
    intro i hi
    have hil := mem_often hi
    rw [length_plus, length_top]
    refine ⟨hil, ?_⟩
    rw [hcount i hil, hget i hil, Int.mul_sub]
    omega
  rw [stab_of_run hc hl]
  have e1 : run (plus (top e.length) (times (e.length + 1) e)) (often (fun j => (e.getD j 0).toNat) e.length) = plus (top e.length) (const (top e.length).length (often (fun j => (e.getD j 0).toNat) e.length).length) := by
    apply ext_getD (by simp)
    intro j hj
    have hj' : j < e.length := by simpa using hj
    rw [get_run _ _ _ (by simpa using hj'), hget j hj', hcount j hj', get_plus _ _ _ (by simpa using hj'), length_plus, length_top, get_const _ _ _ hj', top, get_const _ _ _ hj']
    omega
  rw [e1]
  exact rec_const (top_rec _) (nn_top _) _
end SandT
namespace Go.Proofs.Ytainmahlhhcklaa.G
open Go.RowKit Go.Proofs.YtainmahlhhcklaaW.PrintWords Go.Proofs.YtainmahlhhcklaaW.PrintLast Go.Proofs.YtainmahlhhcklaaW.PrintMore
set_option linter.unusedVariables false
set_option linter.unusedSimpArgs false
def sandB (l : List Int) : Bool := decide (l.length ≤ 8) && l.all fun x => decide (0 ≤ x ∧ x ≤ 60)
theorem sandB_len {l : List Int} (h : sandB l = true) : l.length ≤ 8 := by unfold sandB at h; simp at h; exact h.1
theorem sandB_get {l : List Int} (h : sandB l = true) (j : Nat) : 0 ≤ l.getD j 0 ∧ l.getD j 0 ≤ 60 := by
  unfold sandB at h
  simp only [Bool.and_eq_true, List.all_eq_true, decide_eq_true_eq] at h
  rcases Nat.lt_or_ge j l.length with hj | hj
  · have := h.2 (l.getD j 0) (by rw [List.getD_eq_getElem?_getD, List.getElem?_eq_getElem hj]; exact List.getElem_mem hj)
    exact this
  · rw [List.getD_eq_getElem?_getD, List.getElem?_eq_none hj]; simp
theorem reSand_ev (l : List Int) (hn : l.length ≤ 4611686018427387904) : Ev (fun k => spec_reSand.f k l) (sandB l) := by
  unfold spec_reSand.f sandB
  by_cases h : l.length ≤ 8
  · simp only [show ((l.length : Int) ≤ 8) from by omega, if_true, h, decide_true, Bool.true_and]
    exact Ev.bind (l1All_ev l 0 60 hn) (Ev.now _)
  · simp only [show ¬ ((l.length : Int) ≤ 8) from by omega, if_false, h, decide_false, Bool.false_and]
    exact Ev.now _
theorem between_eq (a b c : Int) : impl_between.f a b c = some (decide (b ≤ a ∧ a ≤ c)) := by
  unfold impl_between.f
  split
  · rename_i h; congr 1; rw [Bool.eq_iff_iff]; simp; omega
  · rename_i h; congr 1; rw [Bool.eq_iff_iff]; simp; omega
theorem isCars_eq (n : Nat) : impl_isCars.f (n : Int) = some (decide (n ≤ 8)) := by
  unfold impl_isCars.f
  rw [between_eq, Option.bind_some]
  congr 1; rw [Bool.eq_iff_iff]; simp; omega
theorem isSand_eq (l : List Int) : impl_isSand.f l = some (sandB l) := by
  unfold impl_isSand.f sandB
  rw [isCars_eq, Option.bind_some]
  by_cases h : l.length ≤ 8
  · simp only [h, decide_true, if_true, impl_areBetween.f, Option.bind_some, Bool.true_and]
    congr 1
    congr 1
    funext x
    rw [Bool.eq_iff_iff]; simp
  · simp [h]
/-- The first node that can topple, or -1. -/
def firstI (l : List Int) : Int := match SandT.first l with
  | none => -1
  | some i => i
theorem reFirst_l0 (l : List Int) (hn : l.length ≤ 4611686018427387904) : ∀ (d i : Nat), i + d = l.length → (∀ j, j < i → l.getD j 0 < l.length) → Ev (fun k => spec_reFirst.l0 k l l (l.length : Int) i) (firstI l) := by
  intro d
  induction d with
  | zero =>
    intro i hd hb
    refine Ev.end_ fun k => ?_
    rw [spec_reFirst.l0, if_neg (by omega)]
    have : SandT.first l = none := SandT.first_of_stable (fun j hj => hb j (by omega))
    rw [firstI, this]
  | succ d ih =>
    intro i hd hb
    by_cases h : (l.length : Int) ≤ l.getD i 0
    · refine Ev.end_ fun k => ?_
      rw [spec_reFirst.l0, if_pos (by omega), if_pos (by omega), if_pos (by omega), rd_nat, if_pos (by omega)]
      have : SandT.first l = some i := by
        unfold SandT.first
        rw [List.findIdx?_eq_some_iff_getElem]
        have hi : i < l.length := by omega
        have e1 : l.getD i 0 = l[i] := by rw [List.getD_eq_getElem?_getD, List.getElem?_eq_getElem hi]; rfl
        refine ⟨hi, by rw [← e1]; simpa using h, fun j hj => ?_⟩
        have e2 : l.getD j 0 = l[j] := by rw [List.getD_eq_getElem?_getD, List.getElem?_eq_getElem (by omega)]; rfl
        have := hb j hj
        rw [← e2]; simpa using this
      rw [firstI, this]
    · refine Ev.one (ih (i + 1) (by omega) (fun j hj => ?_)) fun k => ?_
      · rcases Nat.lt_or_ge j i with h1 | h1
        · exact hb j h1
        · have : j = i := by omega
          rw [this]; omega
      · rw [spec_reFirst.l0, if_pos (by omega), if_pos (by omega), if_pos (by omega), rd_nat, if_neg (by omega), wrap_next (n := l.length) (by omega) hn]
theorem reFirst_ev (l : List Int) (hn : l.length ≤ 4611686018427387904) : Ev (fun k => spec_reFirst.f k l) (firstI l) := reFirst_l0 l hn l.length 0 (by omega) (fun j hj => absurd hj (Nat.not_lt_zero _))
theorem firstI_neg (l : List Int) : decide (firstI l < 0) = l.all fun x => decide (x < l.length) := by
  unfold firstI
  cases e : SandT.first l with
  | none =>
    have := SandT.first_none e
    simp only [show decide ((-1 : Int) < 0) = true from rfl]
    symm
    rw [List.all_eq_true]
    intro x hx
    obtain ⟨j, hj, rfl⟩ := List.getElem_of_mem hx
    have := this j hj
    rw [List.getD_eq_getElem?_getD, List.getElem?_eq_getElem hj] at this
    simpa using this
  | some i =>
    have := SandT.first_some e
    have h1 : decide (((i : Nat) : Int) < 0) = false := decide_eq_false (by omega)
    simp only [h1]
    symm
    rw [List.all_eq_false]
    refine ⟨l[i]'this.1, List.getElem_mem _, ?_⟩
    have h2 := this.2
    rw [List.getD_eq_getElem?_getD, List.getElem?_eq_getElem this.1] at h2
    simpa using h2
theorem reTopple_ev (l : List Int) (hl : l.length ≤ 1000) {B : Int} (hB : B ≤ 1000000) (hb : ∀ j, -B ≤ l.getD j 0 ∧ l.getD j 0 ≤ B) (i : Nat) : Ev (fun k => spec_reTopple.f k l (i : Int)) (SandT.topl l i) := by
  unfold spec_reTopple.f
  have := Ev.up0 l.length (fun q => (SandT.topl l i).take q) (fun k s q => spec_reTopple.l0 k l (i : Int) s l (l.length : Int) q) (SandT.topl l i) (fun q hq h => Ev.one h fun k => ?_) (Ev.end_ fun k => ?_)
  · exact this
  · have hlt : ((SandT.topl l i).take q).length < 17592186044416 := by rw [List.length_take]; omega
    have hg := SandT.get_topl l i q hq
    have hbq := hb q
    rw [spec_reTopple.l0, if_pos (by omega), if_pos (by omega), if_pos (by omega), rd_nat]
    by_cases e : q = i
    · rw [if_pos (by omega), if_pos hlt, wrap_next (n := l.length) hq (by omega), wrap_id (by omega) (by omega), take_snoc (by simpa using hq) (by rw [hg, if_pos e])]
    · rw [if_neg (by omega), if_pos hlt, wrap_next (n := l.length) hq (by omega), wrap_id (by omega) (by omega), take_snoc (by simpa using hq) (by rw [hg, if_neg e])]
  · rw [spec_reTopple.l0, if_neg (by omega), List.take_of_length_le (by simp)]
theorem Clone_eq (l : List Int) (h : l.length ≤ 17592186044415) : slices_Clone_int_int.f l = some l := by unfold slices_Clone_int_int.f; rw [if_pos h]
theorem get_le_sum : ∀ {c : List Int}, SandT.Nonneg c → ∀ j, c.getD j 0 ≤ c.sum
  | [], _, j => by simp
  | x :: c, h, 0 => by
    have := SandT.nn_sum (c := c) (fun j => by simpa using h (j + 1))
    simp; omega
  | x :: c, h, j + 1 => by
    have h0 := h 0
    have := get_le_sum (c := c) (fun j => by simpa using h (j + 1)) j
    simp at h0 this ⊢; omega
theorem sum_le {B : Int} : ∀ {c : List Int}, (∀ j, c.getD j 0 ≤ B) → 0 ≤ B → c.sum ≤ c.length * B
  | [], _, _ => by simp
  | x :: c, h, hB => by
    have h0 := h 0
    have := sum_le (c := c) (fun j => by simpa using h (j + 1)) hB
    simp only [List.getD_cons_zero] at h0
    simp only [List.sum_cons, List.length_cons]
    push_cast
    rw [Int.add_mul]; omega
/-- Sand that is far from the ends of the numbers. -/
structure Mild (c : List Int) : Prop where
  nn : SandT.Nonneg c
  len : c.length ≤ 1000
  sum : c.sum ≤ 1000000
theorem Mild.get {c : List Int} (h : Mild c) (j : Nat) : -1000000 ≤ c.getD j 0 ∧ c.getD j 0 ≤ 1000000 := by
  have := get_le_sum h.nn j
  have := h.nn j
  have := h.sum
  omega
theorem Mild.topl {c : List Int} (h : Mild c) {i : Nat} (e : SandT.first c = some i) : Mild (SandT.topl c i) := by
  have hi := SandT.first_some e
  exact ⟨SandT.nn_topl h.nn hi.2, by simpa using h.len, by rw [SandT.sum_topl _ _ hi.1]; have := h.sum; omega⟩
theorem sandB_nn {l : List Int} (h : sandB l = true) : SandT.Nonneg l := fun j => (sandB_get h j).1
theorem sandB_sum {l : List Int} (h : sandB l = true) : l.sum ≤ 480 := by
  have := sum_le (c := l) (B := 60) (fun j => (sandB_get h j).2) (by omega)
  have := sandB_len h
  omega
theorem sandB_mild {l : List Int} (h : sandB l = true) : Mild l := ⟨sandB_nn h, by have := sandB_len h; omega, by have := sandB_sum h; omega⟩
theorem plus_sum (a b : List Int) (h : a.length = b.length) : (SandT.plus a b).sum = a.sum + b.sum := by
  induction a generalizing b with
  | nil =>
    have : b = [] := List.length_eq_zero_iff.1 h.symm
    subst this; simp [SandT.plus]
  | cons x a ih =>
    cases b with
    | nil => simp at h
    | cons y b =>
      have e : SandT.plus (x :: a) (y :: b) = (x + y) :: SandT.plus a b := by
        simp [SandT.plus, List.mapIdx_cons]
      rw [e, List.sum_cons, ih b (by simpa using h)]
      simp only [List.sum_cons]; omega
theorem plus_mild {a b : List Int} (ha : SandT.Nonneg a) (hb : SandT.Nonneg b) (h : a.length = b.length) (hl : a.length ≤ 1000) (hs : a.sum + b.sum ≤ 1000000) : Mild (SandT.plus a b) := ⟨SandT.nn_plus ha hb, by simpa using hl, by rw [plus_sum _ _ h]; exact hs⟩
def asI (s : List Nat) : List Int := s.map fun (i : Nat) => (i : Int)
theorem stab_mild {c : List Int} (h : Mild c) : Mild (SandT.stab c).1 := by
  refine ⟨SandT.nn_stab h.nn, by simpa using h.len, ?_⟩
  have key : ∀ (N : Nat) {c : List Int}, SandT.Nonneg c → c.sum ≤ N → (SandT.stab c).1.sum ≤ c.sum := by
    intro N
    induction N with
    | zero =>
      intro c h hs
      cases e : SandT.first c with
      | none => rw [SandT.stab_end e]; exact Int.le_refl _
      | some i =>
        have hi := SandT.first_some e
        have := SandT.nn_sum (SandT.nn_topl h hi.2)
        rw [SandT.sum_topl _ _ hi.1] at this
        omega
    | succ N ih =>
      intro c h hs
      cases e : SandT.first c with
      | none => rw [SandT.stab_end e]; exact Int.le_refl _
      | some i =>
        have hi := SandT.first_some e
        rw [SandT.stab_step h e]
        show (SandT.stab (SandT.topl c i)).1.sum ≤ c.sum
        have := ih (SandT.nn_topl h hi.2) (by rw [SandT.sum_topl _ _ hi.1]; omega)
        rw [SandT.sum_topl _ _ hi.1] at this
        omega
  have := key c.sum.toNat h.nn (by omega)
  have := h.sum
  omega
theorem reSettle_l0 : ∀ (N : Nat) (c out : List Int), Mild c → c.sum ≤ N → out.length + N ≤ 2000000 → Ev (fun k => spec_reSettle.l0 k c out (firstI c)) ((SandT.stab c).1, out ++ asI (SandT.stab c).2) := by
  have stop : ∀ (c out : List Int), SandT.first c = none → Ev (fun k => spec_reSettle.l0 k c out (firstI c)) ((SandT.stab c).1, out ++ asI (SandT.stab c).2) := by
    intro c out e
    refine Ev.end_ fun k => ?_
    rw [spec_reSettle.l0, firstI, e, if_neg (by simp), SandT.stab_end e]
    simp [asI]
  intro N
  induction N with
  | zero =>
    intro c out h hs ho
    cases e : SandT.first c with
    | none => exact stop c out e
    | some i =>
      have hi := SandT.first_some e
      have := SandT.nn_sum (h.topl e).nn
      rw [SandT.sum_topl _ _ hi.1] at this
      omega
  | succ N ih =>
    intro c out h hs ho
    cases e : SandT.first c with
    | none => exact stop c out e
    | some i =>
      have hi := SandT.first_some e
      have hl := h.len
      have fi : firstI c = (i : Int) := by rw [firstI, e]
      rw [fi]
      refine Ev.step (f := fun k => (spec_reTopple.f k c (i : Int)).bind fun t => (if out.length < 17592186044416 then ((spec_reFirst.f k t).bind fun u => (spec_reSettle.l0 k t (out ++ [(i : Int)]) u)) else none)) (fun k => by rw [spec_reSettle.l0, if_pos (by omega)]) ?_
      refine Ev.bind (reTopple_ev c h.len (by omega) h.get i) ?_
      simp only [show out.length < 17592186044416 by omega, if_true]
      refine Ev.bind (reFirst_ev _ (by rw [SandT.length_topl]; omega)) ?_
      have := ih (SandT.topl c i) (out ++ [(i : Int)]) (h.topl e) (by rw [SandT.sum_topl _ _ hi.1]; omega) (by simp; omega)
      rw [SandT.stab_step h.nn e]
      simpa [asI] using this
theorem reSettle_ev {c : List Int} (h : Mild c) : Ev (fun k => spec_reSettle.f k c) ((SandT.stab c).1, asI (SandT.stab c).2) := by
  have hl := h.len
  unfold spec_reSettle.f spec_l1Own.f
  simp only [Option.bind_some, List.length_nil, show 0 + c.length < 17592186044416 by omega, if_true, List.nil_append]
  refine Ev.bind (reFirst_ev _ (by omega)) ?_
  have h0 := SandT.nn_sum h.nn
  have h1 := h.sum
  have := reSettle_l0 c.sum.toNat c [] h (by omega) (by simp; omega)
  simpa using this
theorem firstUp_eq (c : List Int) : firstUp c = firstI c := by
  unfold firstUp firstI
  cases e : SandT.first c with
  | none =>
    refine idxF_miss _ _ _ fun j hj => ?_
    have := SandT.first_none e j hj
    simpa using this
  | some i =>
    have hi := SandT.first_some e
    have := idxF_hit (fun x => decide ((c.length : Int) ≤ x)) c i 0 hi.1 (fun j hj => ?_) (by simpa using hi.2)
    · simpa using this
    · unfold SandT.first at e
      rw [List.findIdx?_eq_some_iff_getElem] at e
      obtain ⟨h1, _, h3⟩ := e
      have := h3 j hj
      rw [List.getD_eq_getElem?_getD, List.getElem?_eq_getElem (by omega)]
      simpa using this
theorem topple_at (l : List Int) (hl : l.length ≤ 1000) {B : Int} (hB : B ≤ 1000000) (hb : ∀ j, -B ≤ l.getD j 0 ∧ l.getD j 0 ≤ B) (i : Nat) (hi : i < l.length) : impl_topple.f 2000 l (i : Int) = some (SandT.topl l i) := by
  have hR : (l.map (· + 1)).length = l.length := by simp
  have hg : ∀ q, q < l.length → (l.map (· + 1)).getD q 0 = l.getD q 0 + 1 := by
    intro q hq
    simp [List.getD_eq_getElem?_getD, List.getElem?_eq_getElem hq]
  have key : ∀ (d k q : Nat), q + d = l.length → d < k → impl_topple.l0 k (mixed (l.map (· + 1)) l q) (i : Int) (l.length : Int) q = some (SandT.topl l i) := by
    intro d
    induction d with
    | zero =>
      intro k q hd hk
      obtain ⟨k, rfl⟩ := succ_of hk
      obtain rfl : q = l.length := by omega
      have hbi := hb i
      rw [mixed_full hR, impl_topple.l0, if_neg (by omega), if_pos (by omega), if_pos (by omega), rd_nat, hg i hi, Int.toNat_natCast, List.length_map, wrap_id (x := (l.length : Int) + 1) (by omega) (by omega), wrap_id (by omega) (by omega)]
      congr 1
      rw [SandT.topl]
      congr 1
      omega
    | succ d ih =>
      intro k q hd hk
      obtain ⟨k, rfl⟩ := succ_of (Nat.lt_of_le_of_lt (Nat.zero_le _) hk)
      have hq : q < l.length := by omega
      have hbq := hb q
      rw [impl_topple.l0, if_pos (by omega), if_pos (by omega), if_pos (by rw [length_mixed hR]; omega), rd_nat, getD_mixed hR hq, Int.toNat_natCast, wrap_id (x := l.getD q 0 + 1) (by omega) (by omega), set_mixed hR hq (hg q hq), wrap_next (n := l.length) hq (by omega)]
      exact ih k (q + 1) (by omega) (by omega)
  have := key l.length 2000 0 (by omega) (by omega)
  unfold impl_topple.f
  simpa [mixed_zero] using this
theorem settle_go : ∀ (N k : Nat) (c out : List Int), N < k → Mild c → c.sum ≤ N → out.length + N ≤ 2000000 → impl_settle.go k c out = some ((SandT.stab c).1, out ++ asI (SandT.stab c).2) := by
  have stop : ∀ (k : Nat) (c out : List Int), SandT.first c = none → impl_settle.go (k + 1) c out = some ((SandT.stab c).1, out ++ asI (SandT.stab c).2) := by
    intro k c out e
    rw [impl_settle.go, firstUp_eq, firstI, e, if_pos (by simp), SandT.stab_end e]
    simp [asI]
  intro N
  induction N with
  | zero =>
    intro k c out hk h hs ho
    obtain ⟨k, rfl⟩ := succ_of hk
    cases e : SandT.first c with
    | none => exact stop k c out e
    | some i =>
      have hi := SandT.first_some e
      have := SandT.nn_sum (h.topl e).nn
      rw [SandT.sum_topl _ _ hi.1] at this
      omega
  | succ N ih =>
    intro k c out hk h hs ho
    obtain ⟨k, rfl⟩ := succ_of (Nat.lt_of_le_of_lt (Nat.zero_le _) hk)
    cases e : SandT.first c with
    | none => exact stop k c out e
    | some i =>
      have hi := SandT.first_some e
      have hl := h.len
      have fi : firstUp c = (i : Int) := by rw [firstUp_eq, firstI, e]
      rw [impl_settle.go, fi, if_neg (by omega), topple_at c h.len (by omega) h.get i hi.1, Option.bind_some, if_pos (by omega)]
      have := ih k (SandT.topl c i) (out ++ [(i : Int)]) (by omega) (h.topl e) (by rw [SandT.sum_topl _ _ hi.1]; omega) (by simp; omega)
      rw [SandT.stab_step h.nn e, this]
      simp [asI]
theorem settle_eq {c : List Int} (h : Mild c) : impl_settle.f c = some ((SandT.stab c).1, asI (SandT.stab c).2) := by
  have hl := h.len
  have h0 := SandT.nn_sum h.nn
  have h1 := h.sum
  unfold impl_settle.f
  rw [if_pos (by omega), settle_go 1000000 1000002 c [] (by omega) h (by omega) (by simp)]
  simp
def cnt (n : Nat) (s : List Nat) : List Int := (List.range n).map fun j => ((s.count j : Nat) : Int)
theorem rePlus_ev {a b : List Int} (h : a.length = b.length) (hl : a.length ≤ 1000) (ha : ∀ j, -1000000 ≤ a.getD j 0 ∧ a.getD j 0 ≤ 1000000) (hb : ∀ j, -1000000 ≤ b.getD j 0 ∧ b.getD j 0 ≤ 1000000) : Ev (fun k => spec_rePlus.f k a b) (SandT.plus a b) := by
  unfold spec_rePlus.f
  have := Ev.up0 a.length (fun q => (SandT.plus a b).take q) (fun k s q => spec_rePlus.l0 k b s a (a.length : Int) q) (SandT.plus a b) (fun q hq h' => Ev.one h' fun k => ?_) (Ev.end_ fun k => ?_)
  · exact this
  · have hlt : ((SandT.plus a b).take q).length < 17592186044416 := by rw [List.length_take]; omega
    have hg := SandT.get_plus a b q hq
    have := ha q
    have := hb q
    rw [spec_rePlus.l0, if_pos (by omega), if_pos (by omega), if_pos (by omega), if_pos (by omega), if_pos hlt, rd_nat, rd_nat, wrap_id (x := a.getD q 0 + b.getD q 0) (by omega) (by omega), take_snoc (by simpa using hq) hg, wrap_next (n := a.length) hq (by omega)]
  · rw [spec_rePlus.l0, if_neg (by omega), List.take_of_length_le (by simp)]
theorem added_ev {a b : List Int} (h : a.length = b.length) (hl : a.length ≤ 1000) (ha : ∀ j, -1000000 ≤ a.getD j 0 ∧ a.getD j 0 ≤ 1000000) (hb : ∀ j, -1000000 ≤ b.getD j 0 ∧ b.getD j 0 ≤ 1000000) : Ev (fun k => impl_added.f k a b) (SandT.plus a b) := by
  unfold impl_added.f
  simp only [Clone_eq a (by omega), Option.bind_some]
  have hR : (SandT.plus a b).length = a.length := by simp
  have := Ev.up0 b.length (fun q => mixed (SandT.plus a b) a q) (fun k s q => impl_added.l0 k s b (b.length : Int) q) (SandT.plus a b) (fun q hq h' => Ev.one h' fun k => ?_) (Ev.end_ fun k => ?_)
  · simpa [mixed_zero] using this
  · have hq' : q < a.length := by omega
    have hg := SandT.get_plus a b q hq'
    have := ha q
    have := hb q
    rw [impl_added.l0, if_pos (by omega), if_pos (by omega), if_pos (by omega), if_pos (by rw [length_mixed hR]; omega), rd_nat, rd_nat, getD_mixed hR hq', Int.toNat_natCast, wrap_id (x := a.getD q 0 + b.getD q 0) (by omega) (by omega), set_mixed hR hq' hg, wrap_next (n := b.length) hq (by omega)]
  · rw [impl_added.l0, if_neg (by omega), ← h, mixed_full hR]
def addB (a b : List Int) : Bool := sandB a && sandB b && decide (a.length = b.length)
def addV (a b : List Int) : List Int × Bool := if addB a b = true then ((SandT.stab (SandT.plus a b)).1, true) else ([], false)
theorem addB_mild {a b : List Int} (h : addB a b = true) : Mild (SandT.plus a b) ∧ a.length = b.length ∧ Mild a ∧ Mild b ∧ a.length ≤ 8 := by
  simp only [addB, Bool.and_eq_true, decide_eq_true_eq] at h
  obtain ⟨⟨h1, h2⟩, h3⟩ := h
  have := sandB_sum h1
  have := sandB_sum h2
  have := sandB_len h1
  exact ⟨plus_mild (sandB_nn h1) (sandB_nn h2) h3 (by omega) (by omega), h3, sandB_mild h1, sandB_mild h2, by omega⟩
theorem spec_AddSand_ev (a b : List Int) (ha : a.length ≤ 4611686018427387904) (hb : b.length ≤ 4611686018427387904) : Ev (fun k => spec_AddSand.f k a b) (addV a b) := by
  unfold spec_AddSand.f
  refine Ev.bind (reSand_ev a ha) ?_
  by_cases h1 : sandB a = true
  · simp only [h1, if_true]
    refine Ev.bind (reSand_ev b hb) ?_
    by_cases h2 : sandB b = true
    · simp only [h2, if_true]
      by_cases h3 : a.length = b.length
      · have hB : addB a b = true := by simp [addB, h1, h2, h3]
        obtain ⟨m1, _, m2, m3, _⟩ := addB_mild hB
        refine Ev.step (f := fun k => (spec_rePlus.f k a b).bind fun t563 => ((spec_reSettle.f k t563).bind fun bt566 => (some (bt566.1, true)))) (fun k => by rw [spec_AddSand.j0, if_neg (by simp [h3])]) ?_
        refine Ev.bind (rePlus_ev h3 m2.len m2.get m3.get) ?_
        refine Ev.bind (reSettle_ev m1) ?_
        rw [addV, if_pos hB]
        exact Ev.now _
      · have hB : ¬ addB a b = true := by simp [addB, h3]
        rw [addV, if_neg hB]
        exact Ev.end_ fun k => by rw [spec_AddSand.j0, if_pos (by simp; omega)]
    · have hB : ¬ addB a b = true := by simp [addB, h2]
      simp only [h2, Bool.false_eq_true, if_false, addV, hB]
      exact Ev.end_ fun k => by rw [spec_AddSand.j0, if_pos rfl]
  · have hB : ¬ addB a b = true := by simp [addB, h1]
    simp only [h1, Bool.false_eq_true, if_false, addV, hB]
    exact Ev.end_ fun k => by rw [spec_AddSand.j0, if_pos rfl]
theorem impl_AddSand_ev (a b : List Int) : Ev (fun k => impl_AddSand.f k a b) (addV a b) := by
  unfold impl_AddSand.f
  simp only [isSand_eq, Option.bind_some]
  by_cases h1 : sandB a = true
  · simp only [h1, if_true]
    by_cases h2 : sandB b = true
    · simp only [h2, if_true]
      by_cases h3 : a.length = b.length
      · have hB : addB a b = true := by simp [addB, h1, h2, h3]
        obtain ⟨m1, _, m2, m3, _⟩ := addB_mild hB
        refine Ev.step (f := fun k => (impl_added.f k a b).bind fun t580 => ((impl_settle.f t580).bind fun bt583 => (some (bt583.1, true)))) (fun k => by rw [impl_AddSand.j0, if_neg (by simp [h3])]) ?_
        refine Ev.bind (added_ev h3 m2.len m2.get m3.get) ?_
        rw [settle_eq m1, addV, if_pos hB]
        exact Ev.now _
      · have hB : ¬ addB a b = true := by simp [addB, h3]
        rw [addV, if_neg hB]
        exact Ev.end_ fun k => by rw [impl_AddSand.j0, if_pos (by simp; omega)]
    · have hB : ¬ addB a b = true := by simp [addB, h2]
      simp only [h2, Bool.false_eq_true, if_false, addV, hB]
      exact Ev.end_ fun k => by rw [impl_AddSand.j0, if_pos rfl]
  · have hB : ¬ addB a b = true := by simp [addB, h1]
    simp only [h1, Bool.false_eq_true, if_false, addV, hB]
    exact Ev.end_ fun k => by rw [impl_AddSand.j0, if_pos rfl]
theorem addV_len (a b : List Int) : (addV a b).1.length ≤ 8 := by
  unfold addV
  split
  · rename_i h; have := addB_mild h; simp; omega
  · simp
def Bytes (l : List Int) : Prop := ∀ x ∈ l, 0 ≤ x ∧ x ≤ 255
theorem bytes_of {l : List Int} (h : ∀ x ∈ l, (Lit.int .u8 x).wf = true) : Bytes l := by
  intro x hx
  have h2 := h x hx
  simp only [Lit.wf, Bool.and_eq_true, decide_eq_true_eq] at h2
  have e1 : IntKind.u8.min = 0 := by decide
  have e2 : IntKind.u8.max = 255 := by decide
  rw [e1, e2] at h2
  exact h2
theorem Bytes.get {l : List Int} (h : Bytes l) (j : Nat) : 0 ≤ l.getD j 0 ∧ l.getD j 0 ≤ 255 := by
  rcases Nat.lt_or_ge j l.length with hj | hj
  · exact h _ (by rw [List.getD_eq_getElem?_getD, List.getElem?_eq_getElem hj]; exact List.getElem_mem hj)
  · rw [List.getD_eq_getElem?_getD, List.getElem?_eq_none hj]; simp
theorem and255 (x : Int) : 0 ≤ Go.bits .and .u64 x 255 ∧ Go.bits .and .u64 x 255 ≤ 255 := by
  obtain ⟨a, ha⟩ : ∃ a : BitVec 64, a = BitVec.ofInt 64 x := ⟨_, rfl⟩
  have e : Go.bits .and .u64 x 255 = IntKind.u64.wrap ((BitVec.ofInt 64 x &&& BitVec.ofInt 64 255).toNat : Int) := rfl
  have hle : (BitVec.ofInt 64 x &&& BitVec.ofInt 64 255).toNat ≤ 255 := by
    rw [BitVec.toNat_and]
    exact Nat.le_trans Nat.and_le_right (by decide)
  rw [e, IntKind.wrap_u64]
  omega
theorem next_ok {l : List Int} (hb : Bytes l) (p s : Int) (h0 : 0 ≤ p) (h1 : p ≤ 1000000000000000000) : ∃ v s', spec_l1Cur_next.f l p s = some (v, p + 1, s') ∧ 0 ≤ v ∧ v ≤ 255 := by
  have hw : wrap64 (p + 1) = p + 1 := wrap_id (by omega) (by omega)
  have hr : 0 ≤ rd l p ∧ rd l p ≤ 255 := hb.get _
  unfold spec_l1Cur_next.f
  rw [hw]
  by_cases c1 : p < (l.length : Int)
  · rw [if_pos c1, if_pos h0]
    by_cases c2 : p + 1 ≤ (l.length : Int)
    · rw [if_pos c2]
      exact ⟨_, _, rfl, by rw [wrap_id (by omega) (by omega)]; exact hr⟩
    · omega
  · rw [if_neg c1]
    rw [if_neg (by omega)]
    refine ⟨_, _, rfl, ?_⟩
    have := and255 ((IntKind.u64.wrap ((IntKind.u64.wrap (IntKind.u64.wrap (s * 6364136223846793005))) + 1442695040888963407)) / 1099511627776)
    rw [wrap_id (by omega) (by omega)]
    exact this
theorem tmod_ok {v a : Int} (hv : 0 ≤ v) (ha : 0 < a) : 0 ≤ Int.tmod v a ∧ Int.tmod v a < a := by
  rw [Int.tmod_eq_emod_of_nonneg hv]
  exact ⟨Int.emod_nonneg _ (by omega), Int.emod_lt_of_pos _ ha⟩
theorem pick_ok {l : List Int} (hb : Bytes l) (p s a : Int) (h0 : 0 ≤ p) (h1 : p ≤ 100000000000000000) : ∃ r p' s', spec_l1Cur_pick.f l p s a = some (r, p', s') ∧ 0 ≤ r ∧ (r < a ∨ r = 0) ∧ p ≤ p' ∧ p' ≤ p + 2 := by
  unfold spec_l1Cur_pick.f
  by_cases c1 : a ≤ 1
  · rw [if_pos c1]
    exact ⟨0, p, s, rfl, by omega, Or.inr rfl, by omega, by omega⟩
  · rw [if_neg c1]
    obtain ⟨v, s1, e1, b1, b2⟩ := next_ok hb p s h0 (by omega)
    rw [e1, Option.bind_some]
    by_cases c2 : a > 200
    · rw [if_pos c2]
      obtain ⟨v2, s2, e2, b3, b4⟩ := next_ok hb (p + 1) s1 (by omega) (by omega)
      simp only [e2, Option.bind_some]
      rw [if_neg (by omega)]
      have hw : wrap64 (wrap64 (v * 256) + v2) = v * 256 + v2 := by rw [wrap_id (x := v * 256) (by omega) (by omega), wrap_id (by omega) (by omega)]
      have := tmod_ok (v := v * 256 + v2) (a := a) (by omega) (by omega)
      rw [hw]
      exact ⟨_, _, _, rfl, this.1, Or.inl this.2, by omega, by omega⟩
    · rw [if_neg c2, if_neg (by omega)]
      have := tmod_ok (v := v) (a := a) (by omega) (by omega)
      exact ⟨_, _, _, rfl, this.1, Or.inl this.2, by show p ≤ p + 1; omega, by show p + 1 ≤ p + 2; omega⟩
theorem among_ok {l : List Int} (hb : Bytes l) (p s : Int) (q : List Int) (hq : 0 < q.length) (h0 : 0 ≤ p) (h1 : p ≤ 100000000000000000) : ∃ v p' s', spec_l1Cur_among.f l p s q = some (v, p', s') ∧ p ≤ p' ∧ p' ≤ p + 2 := by
  obtain ⟨r, p', s', e, b1, b2, b3, b4⟩ := pick_ok hb p s (q.length : Int) h0 h1
  unfold spec_l1Cur_among.f
  rw [e, Option.bind_some]
  simp only [b1, if_true]
  rw [if_pos (by omega)]
  exact ⟨_, _, _, rfl, b3, b4⟩
theorem one_ok {l : List Int} (hb : Bytes l) (p s a : Int) (h0 : 0 ≤ p) (h1 : p ≤ 100000000000000000) : ∃ v p' s', spec_l1Cur_one.f l p s a = some (v, p', s') ∧ p ≤ p' ∧ p' ≤ p + 2 := by
  obtain ⟨r, p', s', e, b1, b2, b3, b4⟩ := pick_ok hb p s a h0 h1
  unfold spec_l1Cur_one.f
  rw [e, Option.bind_some]
  exact ⟨_, _, _, rfl, b3, b4⟩
theorem grains_l0 {l : List Int} (hb : Bytes l) (n : Nat) (hn : n ≤ 7) : ∀ (d : Nat) (x3 : List Int) (p s : Int), x3.length + d = n → 0 ≤ p → p + 2 * d ≤ 1000000000000000 → ∃ out p' s', Ev (fun k => spec_l1Cur_grains.l0 k x3 (n : Int) l p s) (out, p', s') ∧ out.length ≤ 9 ∧ p ≤ p' ∧ p' ≤ p + 2 * d + 6 := by
  intro d
  induction d with
  | zero =>
    intro x3 p s hd h0 h1
    obtain ⟨r, p1, s1, e1, b1, b2, b3, b4⟩ := pick_ok hb p s 12 h0 (by omega)
    by_cases c0 : r = 0
    · obtain ⟨v, p2, s2, e2, b5, b6⟩ := among_ok hb p1 s1 [-1, 0, 60, 61] (by simp) (by omega) (by omega)
      refine ⟨x3 ++ [v], p2, s2, Ev.end_ fun k => ?_, by simp; omega, by omega, by omega⟩
      rw [spec_l1Cur_grains.l0, if_neg (by omega), e1, Option.bind_some]
      simp only [c0, if_true]
      rw [e2, Option.bind_some, if_pos (by omega)]
    · by_cases c1 : r = 1
      · obtain ⟨v, p2, s2, e2, b5, b6, b7, b8⟩ := pick_ok hb p1 s1 2 (by omega) (by omega)
        have hw : wrap64 (8 + v) = 8 + v := wrap_id (by omega) (by omega)
        refine ⟨(List.replicate (8 + v).toNat 0).set 0 60, p2, s2, Ev.end_ fun k => ?_, by simp; omega, by omega, by omega⟩
        rw [spec_l1Cur_grains.l0, if_neg (by omega), e1, Option.bind_some]
        simp only [c0, c1, if_true, if_false]
        rw [if_neg (by omega), e2, Option.bind_some]
        simp only [hw]
        rw [if_pos (by omega), if_pos (by omega), Option.bind_some, if_pos (by rw [List.length_replicate]; omega)]
        rfl
      · refine ⟨x3, p1, s1, Ev.end_ fun k => ?_, by omega, by omega, by omega⟩
        rw [spec_l1Cur_grains.l0, if_neg (by omega), e1, Option.bind_some]
        simp only [c0, c1, if_false]
  | succ d ih =>
    intro x3 p s hd h0 h1
    obtain ⟨r, p1, s1, e1, b1, b2, b3, b4⟩ := pick_ok hb p s (wrap64 ((n : Int) + 3)) h0 (by omega)
    obtain ⟨out, p', s', he, ho, hp1, hp2⟩ := ih (x3 ++ [r]) p1 s1 (by simp; omega) (by omega) (by omega)
    refine ⟨out, p', s', Ev.one he fun k => ?_, ho, by omega, by omega⟩
    rw [spec_l1Cur_grains.l0, if_pos (by omega), e1, Option.bind_some, if_pos (by omega)]
theorem grains_ok {l : List Int} (hb : Bytes l) (p s : Int) (h0 : 0 ≤ p) (h1 : p ≤ 100000000000000) : ∃ out p' s', Ev (fun k => spec_l1Cur_grains.f k l p s) (out, p', s') ∧ out.length ≤ 9 ∧ p ≤ p' ∧ p' ≤ p + 30 := by
  obtain ⟨r, p1, s1, e1, b1, b2, b3, b4⟩ := pick_ok hb p s 7 h0 (by omega)
  obtain ⟨out, p', s', he, ho, hp1, hp2⟩ := grains_l0 hb r.toNat (by omega) r.toNat [] p1 s1 (by simp) (by omega) (by omega)
  refine ⟨out, p', s', ?_, ho, by omega, by omega⟩
  unfold spec_l1Cur_grains.f
  simp only [e1, Option.bind_some]
  rw [show (r.toNat : Int) = r by omega] at he
  exact he
theorem big_eq (a b : List Int) : ∃ r, laws_big.f a b = some r := by
  unfold laws_big.f
  split
  · exact ⟨_, rfl⟩
  · exact ⟨_, rfl⟩
theorem laws_wSame_l0 (a b : List Int) (hl : a.length = b.length) (hn : a.length ≤ 4611686018427387904) : ∀ (d i : Nat), i + d = a.length → Ev (fun k => laws_wSame.l0 k a b (a.length : Int) i) (decide (a.drop i = b.drop i)) := by
  intro d
  induction d with
  | zero =>
    intro i hd
    refine Ev.end_ fun k => ?_
    rw [laws_wSame.l0, if_neg (by omega), List.drop_eq_nil_of_le (by omega), List.drop_eq_nil_of_le (by omega)]
    simp
  | succ d ih =>
    intro i hd
    have e1 := drop_getD (l := a) (i := i) (by omega)
    have e2 := drop_getD (l := b) (i := i) (by omega)
    by_cases h : a.getD i 0 = b.getD i 0
    · refine Ev.one (f := fun k => laws_wSame.l0 k a b (a.length : Int) ((i + 1 : Nat) : Int)) ?_ fun k => ?_
      · have := ih (i + 1) (by omega)
        have e : decide (a.drop i = b.drop i) = decide (a.drop (i + 1) = b.drop (i + 1)) := by rw [e1, e2, h]; simp
        rw [e]; exact this
      · rw [laws_wSame.l0, if_pos (by omega), if_pos (by omega), if_pos (by omega), if_pos (by omega), rd_nat, rd_nat, if_pos h, wrap_next (n := a.length) (by omega) hn]
    · refine Ev.end_ fun k => ?_
      rw [laws_wSame.l0, if_pos (by omega), if_pos (by omega), if_pos (by omega), if_pos (by omega), rd_nat, rd_nat, if_neg h, e1, e2, decide_eq_false (fun e => h (List.cons.inj e).1)]
theorem laws_wSame_ev (a b : List Int) (hn : a.length ≤ 4611686018427387904) : Ev (fun k => laws_wSame.f k a b) (decide (a = b)) := by
  unfold laws_wSame.f
  by_cases h : a.length = b.length
  · simp only [show ((a.length : Int) = (b.length : Int)) from by omega, if_true]
    have := laws_wSame_l0 a b h hn a.length 0 (by omega)
    simpa [h] using this
  · simp only [show ¬ ((a.length : Int) = (b.length : Int)) from by omega, if_false]
    have e : decide (a = b) = false := decide_eq_false (fun e => h (by rw [e]))
    rw [e]; exact Ev.now _
def turned (l : List Int) : List Int := l.map fun x => (l.length : Int) - 1 - x
theorem turned_len (l : List Int) : (turned l).length = l.length := by simp [turned]
theorem turned_get (l : List Int) {q : Nat} (hq : q < l.length) : (turned l).getD q 0 = (l.length : Int) - 1 - l.getD q 0 := by
  simp [turned, List.getD_eq_getElem?_getD, List.getElem?_eq_getElem hq]
theorem reTurned_ev (l : List Int) (hl : l.length ≤ 1000) (hb : ∀ j, -1000000 ≤ l.getD j 0 ∧ l.getD j 0 ≤ 1000000) : Ev (fun k => spec_reTurned.f k l) (turned l) := by
  unfold spec_reTurned.f
  have := Ev.up0 l.length (fun q => (turned l).take q) (fun k s q => spec_reTurned.l0 k l s l (l.length : Int) q) (turned l) (fun q hq h' => Ev.one h' fun k => ?_) (Ev.end_ fun k => ?_)
  · exact this
  · have hlt : ((turned l).take q).length < 17592186044416 := by rw [List.length_take]; omega
    have hbq := hb q
    rw [spec_reTurned.l0, if_pos (by omega), if_pos (by omega), if_pos (by omega), if_pos hlt, rd_nat, wrap_id (x := (l.length : Int) - 1) (by omega) (by omega), wrap_id (x := (l.length : Int) - 1 - l.getD q 0) (by omega) (by omega), take_snoc (by simpa [turned_len] using hq) (turned_get l hq), wrap_next (n := l.length) hq (by omega)]
  · rw [spec_reTurned.l0, if_neg (by omega), List.take_of_length_le (by simp [turned_len])]
theorem Repeat_eq (x : Int) (n : Nat) (hn : n ≤ 1000000) : slices_Repeat_int_int.f [x] (n : Int) = some (List.replicate n x) := by
  unfold slices_Repeat_int_int.f
  rw [if_pos ⟨rfl, by omega, by omega⟩]
  simp [rd]
theorem get_repl (n : Nat) (x : Int) {j : Nat} (hj : j < n) : (List.replicate n x).getD j 0 = x := by simp [List.getD_eq_getElem?_getD, hj]
theorem get_repl_range (n : Nat) (x : Int) (hx : 0 ≤ x) (j : Nat) : 0 ≤ (List.replicate n x).getD j 0 ∧ (List.replicate n x).getD j 0 ≤ x := by
  rcases Nat.lt_or_ge j n with h | h
  · rw [get_repl n x h]; omega
  · rw [List.getD_eq_getElem?_getD, List.getElem?_eq_none (by simpa using h)]; simpa using hx
theorem mild_of {c : List Int} (hl : c.length ≤ 1000) (h : ∀ j, 0 ≤ c.getD j 0 ∧ c.getD j 0 ≤ 1000) : Mild c := by
  refine ⟨fun j => (h j).1, hl, ?_⟩
  have := sum_le (c := c) (B := 1000) (fun j => (h j).2) (by omega)
  omega
end Go.Proofs.Ytainmahlhhcklaa.G
namespace ParkT
/-- The first free place from a on, of d places. -/
def fwdF (S : Nat → Bool) : Nat → Nat → Option Nat
  | 0, _ => none
  | d + 1, a => if S a = false then some a else fwdF S d (a + 1)
/-- How many of the places a, .., a + d - 1 are taken. -/
def cnt (S : Nat → Bool) : Nat → Nat → Nat
  | 0, _ => 0
  | d + 1, a => (if S a = true then 1 else 0) + cnt S d (a + 1)
def put (S : Nat → Bool) (p : Nat) : Nat → Bool := fun q => decide (q = p) || S q
/-- No more places are taken from any place on. -/
def Dom (N : Nat) (S' S : Nat → Bool) : Prop := ∀ j, j ≤ N → cnt S' (N - j) j ≤ cnt S (N - j) j
theorem Dom.refl (N : Nat) (S : Nat → Bool) : Dom N S S := fun _ _ => Nat.le_refl _
def driveS (N : Nat) : (Nat → Bool) → List Nat → List (Option Nat)
  | _, [] => []
  | S, a :: l => match fwdF S (N - a) a with
    | none => none :: driveS N S l
    | some p => some p :: driveS N (put S p) l
end ParkT
namespace Go.Proofs.Ytainmahlhhcklaa.G
open Go.RowKit Go.Proofs.YtainmahlhhcklaaW.PrintWords Go.Proofs.YtainmahlhhcklaaW.PrintLast Go.Proofs.YtainmahlhhcklaaW.PrintMore
set_option linter.unusedVariables false
set_option linter.unusedSimpArgs false
/-- Every car finds a place. -/
def allP (N : Nat) : (Nat → Bool) → List Nat → Bool
  | _, [] => true
  | S, a :: l => match ParkT.fwdF S (N - a) a with
    | none => false
    | some p => allP N (ParkT.put S p) l
def valP : Option Nat → Int
  | none => -1
  | some p => p
theorem allP_iff {N : Nat} : ∀ (l : List Nat) (S : Nat → Bool), allP N S l = !decide ((-1 : Int) ∈ (ParkT.driveS N S l).map valP)
  | [], _ => by simp [allP, ParkT.driveS]
  | a :: l, S => by
    rw [allP, ParkT.driveS]
    cases e : ParkT.fwdF S (N - a) a with
    | none => simp [valP]
    | some p =>
      simp only [List.map_cons, List.mem_cons, valP, allP_iff l]
      congr 1
      have : ¬ ((-1 : Int) = (p : Int)) := by omega
      simp [this]
def occ (x : List Int) (q : Nat) : Bool := decide ((q : Int) ∈ x)
theorem occ_none (x : List Int) : occ (x ++ [-1]) = occ x := by
  funext q
  unfold occ
  have : ¬ ((q : Int) = -1) := by omega
  simp [this]
theorem occ_some (x : List Int) (p : Nat) : occ (x ++ [(p : Int)]) = ParkT.put (occ x) p := by
  funext q
  unfold occ ParkT.put
  have : ((q : Int) = (p : Int)) ↔ q = p := by omega
  simp [this, Bool.or_comm]
theorem l1Has_l0 (x : List Int) (a : Int) (hn : x.length ≤ 4611686018427387904) : ∀ (d i : Nat), i + d = x.length → Ev (fun k => spec_l1Has.l0 k a x (x.length : Int) i) (decide (a ∈ x.drop i)) := by
  intro d
  induction d with
  | zero =>
    intro i hd
    refine Ev.end_ fun k => ?_
    rw [spec_l1Has.l0, if_neg (by omega), List.drop_eq_nil_of_le (by omega)]
    simp
  | succ d ih =>
    intro i hd
    have e1 := drop_getD (l := x) (i := i) (by omega)
    by_cases h : x.getD i 0 = a
    · refine Ev.end_ fun k => ?_
      rw [spec_l1Has.l0, if_pos (by omega), if_pos (by omega), if_pos (by omega), rd_nat, if_pos h, e1, h, decide_eq_true (List.mem_cons_self)]
    · refine Ev.one (f := fun k => spec_l1Has.l0 k a x (x.length : Int) ((i + 1 : Nat) : Int)) ?_ fun k => ?_
      · have := ih (i + 1) (by omega)
        have e : decide (a ∈ x.drop i) = decide (a ∈ x.drop (i + 1)) := by
          rw [e1]
          have : ¬ a = x.getD i 0 := fun e => h e.symm
          simp only [List.mem_cons, this, false_or]
        rw [e]; exact this
      · rw [spec_l1Has.l0, if_pos (by omega), if_pos (by omega), if_pos (by omega), rd_nat, if_neg h, wrap_next (n := x.length) (by omega) hn]
theorem l1Has_ev (x : List Int) (a : Int) (hn : x.length ≤ 4611686018427387904) : Ev (fun k => spec_l1Has.f k x a) (decide (a ∈ x)) := by
  unfold spec_l1Has.f
  have := l1Has_l0 x a hn x.length 0 (by omega)
  simpa using this
theorem paDrive_l1 (N : Nat) (hN : N ≤ 1000) (x l : List Int) (hx : x.length ≤ 1000) (len : Int) (i : Int) (r : List Int) : ∀ (d a : Nat), a + d = N → Ev (fun k => spec_paDrive.l0 k (N : Int) (x ++ [valP (ParkT.fwdF (occ x) d a)]) l len (wrap64 (i + 1))) r → Ev (fun k => spec_paDrive.l1 k (N : Int) x (a : Int) l len i) r := by
  intro d
  induction d with
  | zero =>
    intro a ha h
    refine Ev.one h fun k => ?_
    rw [spec_paDrive.l1, if_neg (by omega), if_pos (by omega), if_pos (by omega)]
    rfl
  | succ d ih =>
    intro a ha h
    rw [ParkT.fwdF] at h
    refine Ev.step (f := fun k => (spec_l1Has.f k x (a : Int)).bind fun t369 => (if t369 = true then (spec_paDrive.l1 k (N : Int) x ((a + 1 : Nat) : Int) l len i) else (spec_paDrive.l0 k (N : Int) (x ++ [(a : Int)]) l len (wrap64 (i + 1))))) (fun k => by rw [spec_paDrive.l1, if_pos (by omega), wrap_next (n := N) (by omega) (by omega), if_neg (show ¬ ((a : Int) ≥ (N : Int)) by omega), if_pos (by omega)]) ?_
    refine Ev.bind (l1Has_ev x _ (by omega)) ?_
    by_cases hh : occ x a = true
    · rw [if_neg (by rw [hh]; simp)] at h
      have e : decide ((a : Int) ∈ x) = true := hh
      simp only [e, if_true]
      exact ih (a + 1) (by omega) h
    · rw [if_pos (by simpa using hh)] at h
      have e : decide ((a : Int) ∈ x) = false := by simpa [occ] using hh
      simp only [e, Bool.false_eq_true, if_false]
      exact h
def natL (l : List Int) : List Nat := l.map Int.toNat
theorem paDrive_l0 (l : List Int) (N : Nat) (hN : N ≤ 1000) (hl : l.length ≤ 900) (hr : ∀ j, j < l.length → 0 ≤ l.getD j 0 ∧ l.getD j 0 ≤ N) : ∀ (d i : Nat) (x : List Int), i + d = l.length → x.length ≤ i → Ev (fun k => spec_paDrive.l0 k (N : Int) x l (l.length : Int) i) (x ++ (ParkT.driveS N (occ x) (natL (l.drop i))).map valP) := by
  intro d
  induction d with
  | zero =>
    intro i x hd hx
    refine Ev.end_ fun k => ?_
    rw [spec_paDrive.l0, if_neg (by omega), List.drop_eq_nil_of_le (by omega)]
    simp [natL, ParkT.driveS]
  | succ d ih =>
    intro i x hd hx
    have hi : i < l.length := by omega
    have hri := hr i hi
    obtain ⟨a, ha⟩ : ∃ a : Nat, l.getD i 0 = a := ⟨(l.getD i 0).toNat, by omega⟩
    refine Ev.one (f := fun k => spec_paDrive.l1 k (N : Int) x (a : Int) l (l.length : Int) (i : Int)) ?_ fun k => by rw [spec_paDrive.l0, if_pos (by omega), if_pos (by omega), if_pos (by omega), rd_nat, ha]
    refine paDrive_l1 N hN x l (by omega) _ _ _ (N - a) a (by omega) ?_
    rw [wrap_next (n := l.length) hi (by omega)]
    have := ih (i + 1) (x ++ [valP (ParkT.fwdF (occ x) (N - a) a)]) (by omega) (by simp; omega)
    have e : x ++ (ParkT.driveS N (occ x) (natL (l.drop i))).map valP = x ++ [valP (ParkT.fwdF (occ x) (N - a) a)] ++ (ParkT.driveS N (occ (x ++ [valP (ParkT.fwdF (occ x) (N - a) a)])) (natL (l.drop (i + 1)))).map valP := by
      rw [drop_getD hi, ha]
      show x ++ (ParkT.driveS N (occ x) ((a : Int).toNat :: natL (l.drop (i + 1)))).map valP = _
      rw [Int.toNat_natCast, ParkT.driveS]
      cases hf : ParkT.fwdF (occ x) (N - a) a with
      | none => simp [valP, occ_none]
      | some p => simp [valP, occ_some]
    rw [e]
    exact this
def parkB (l : List Int) : Bool := decide (l.length ≤ 8) && (l.all fun x => decide (0 ≤ x ∧ x ≤ (l.length : Int) - 1)) && allP l.length (fun _ => false) (natL l)
theorem all_get {l : List Int} {lo hi : Int} (h : (l.all fun x => decide (lo ≤ x ∧ x ≤ hi)) = true) {j : Nat} (hj : j < l.length) : lo ≤ l.getD j 0 ∧ l.getD j 0 ≤ hi := by
  rw [List.all_eq_true] at h
  have := h l[j] (List.getElem_mem hj)
  rw [List.getD_eq_getElem?_getD, List.getElem?_eq_getElem hj]
  simpa using this
theorem paParking_ev (l : List Int) (hn : l.length ≤ 4611686018427387904) : Ev (fun k => spec_paParking.f k l) (parkB l) := by
  unfold spec_paParking.f parkB
  by_cases h8 : l.length ≤ 8
  · simp only [show ((l.length : Int) ≤ 8) from by omega, if_true]
    rw [decide_eq_true h8, Bool.true_and, wrap_id (x := (l.length : Int) - 1) (by omega) (by omega)]
    refine Ev.bind (l1All_ev l _ _ hn) ?_
    cases ha : (l.all fun x => decide (0 ≤ x ∧ x ≤ (l.length : Int) - 1)) with
    | false => simp only [Bool.false_eq_true, if_false, Bool.false_and]; exact Ev.now _
    | true =>
      simp only [if_true, Bool.true_and]
      unfold spec_paAll.f
      have hd : Ev (fun k => spec_paDrive.f k l (l.length : Int)) ((ParkT.driveS l.length (fun _ => false) (natL l)).map valP) := by
        unfold spec_paDrive.f
        have := paDrive_l0 l l.length (by omega) (by omega) (fun j hj => by have := all_get ha hj; omega) l.length 0 [] (by omega) (by simp)
        have eo : occ [] = fun _ => false := by funext q; simp [occ]
        rw [eo] at this
        simpa using this
      have hlen : ∀ (l : List Nat) (N : Nat) (S : Nat → Bool), (ParkT.driveS N S l).length = l.length := by
        intro l
        induction l with
        | nil => intro N S; rfl
        | cons a l ih =>
          intro N S
          rw [ParkT.driveS]
          cases ParkT.fwdF S (N - a) a <;> simp [ih]
      refine Ev.bind ?_ (Ev.now _)
      refine Ev.bind hd ?_
      refine Ev.bind (l1Has_ev _ _ (by rw [List.length_map, hlen]; simp [natL]; omega)) ?_
      rw [allP_iff]
      exact Ev.now _
  · simp only [show ¬ ((l.length : Int) ≤ 8) from by omega, if_false]
    rw [decide_eq_false h8, Bool.false_and, Bool.false_and]
    exact Ev.now _
def taken (x : List Bool) (q : Nat) : Bool := x.getD q false
theorem parkB_get {l : List Int} (h : parkB l = true) : l.length ≤ 8 ∧ ∀ j, -1000000 ≤ l.getD j 0 ∧ l.getD j 0 ≤ 1000000 := by
  unfold parkB at h
  simp only [Bool.and_eq_true, decide_eq_true_eq] at h
  obtain ⟨⟨h1, h2⟩, _⟩ := h
  refine ⟨h1, fun j => ?_⟩
  rcases Nat.lt_or_ge j l.length with hj | hj
  · have := all_get h2 hj; omega
  · rw [List.getD_eq_getElem?_getD, List.getElem?_eq_none hj]; simp
theorem own_eq (q : List Int) (h : q.length < 17592186044416) : spec_l1Own.f q = some q := by
  unfold spec_l1Own.f
  simp only [Option.bind_some, List.length_nil, Nat.zero_add, h, if_true, List.nil_append]
theorem park_l1 (l : List Int) (p s : Int) : ∀ (d : Nat) (x : List Int), x.length + d = 9 → Ev (fun k => spec_l1Cur_park.l1 k x l p s) (x ++ List.replicate d 0, p, s) := by
  intro d
  induction d with
  | zero =>
    intro x hd
    refine Ev.end_ fun k => ?_
    rw [spec_l1Cur_park.l1, if_neg (by omega)]
    simp
  | succ d ih =>
    intro x hd
    refine Ev.one (f := fun k => spec_l1Cur_park.l1 k (x ++ [0]) l p s) ?_ fun k => by rw [spec_l1Cur_park.l1, if_pos (by omega), if_pos (by omega)]
    have := ih (x ++ [0]) (by simp; omega)
    rw [List.replicate_succ]
    simpa using this
theorem park_l0 {l : List Int} (hb : Bytes l) : ∀ (d : Nat) (x : List Int) (p s : Int), x.length + d ≤ 9 → 0 ≤ p → p + 4 * d ≤ 1000000000000000 → ∃ out p' s', Ev (fun k => spec_l1Cur_park.l0 k x (d : Int) l p s) (out, p', s') ∧ out.length ≤ 10 ∧ p ≤ p' ∧ p' ≤ p + 4 * d + 8 := by
  intro d
  induction d with
  | zero =>
    intro x p s hd h0 h1
    obtain ⟨r, p1, s1, e1, b1, b2, b3, b4⟩ := pick_ok hb p s 20 h0 (by omega)
    by_cases c0 : r = 0
    · obtain ⟨v, p2, s2, e2, b5, b6⟩ := among_ok hb p1 s1 [-1, 0, (x.length : Int), wrap64 ((x.length : Int) + 1), 99, 100] (by simp) (by omega) (by omega)
      refine ⟨x ++ [v], p2, s2, Ev.end_ fun k => ?_, by simp; omega, by omega, by omega⟩
      rw [spec_l1Cur_park.l0, if_neg (by omega), e1, Option.bind_some]
      simp only [c0, if_true]
      rw [e2, Option.bind_some, if_pos (by omega)]
    · by_cases c1 : r = 1
      · by_cases c2 : (x.length : Int) > 0
        · obtain ⟨v, p2, s2, e2, b5, b6, b7, b8⟩ := pick_ok hb p1 s1 (x.length : Int) (by omega) (by omega)
          obtain ⟨u, p3, s3, e3, b9, b10, b11, b12⟩ := pick_ok hb p2 s2 (x.length : Int) (by omega) (by omega)
          refine ⟨x.set v.toNat u, p3, s3, Ev.end_ fun k => ?_, by simp; omega, by omega, by omega⟩
          rw [spec_l1Cur_park.l0, if_neg (by omega), e1, Option.bind_some]
          simp only [c0, c1, c2, if_true, if_false]
          rw [if_neg (by omega), e2, Option.bind_some]
          simp only
          rw [e3, Option.bind_some, if_pos b5, if_pos (by omega)]
        · refine ⟨x, p1, s1, Ev.end_ fun k => ?_, by omega, by omega, by omega⟩
          rw [spec_l1Cur_park.l0, if_neg (by omega), e1, Option.bind_some]
          simp only [c0, c1, c2, if_true, if_false]
          rw [if_neg (by omega)]
      · by_cases c2 : r = 2
        · refine ⟨x ++ List.replicate (9 - x.length) 0, p1, s1, Ev.one (park_l1 l p1 s1 (9 - x.length) x (by omega)) fun k => ?_, by simp; omega, by omega, by omega⟩
          rw [spec_l1Cur_park.l0, if_neg (by omega), e1, Option.bind_some]
          simp only
          rw [if_neg c0, if_neg c1, if_pos c2]
        · refine ⟨x, p1, s1, Ev.end_ fun k => ?_, by omega, by omega, by omega⟩
          rw [spec_l1Cur_park.l0, if_neg (by omega), e1, Option.bind_some]
          simp only
          rw [if_neg c0, if_neg c1, if_neg c2]
  | succ d ih =>
    intro x p s hd h0 h1
    obtain ⟨r, p1, s1, e1, b1, b2, b3, b4⟩ := pick_ok hb p s (wrap64 ((x.length : Int) + 1)) h0 (by omega)
    obtain ⟨u, p2, s2, e2, b5, b6, b7, b8⟩ := pick_ok hb p1 s1 (wrap64 ((x.length : Int) + 1)) (by omega) (by omega)
    rw [wrap_id (x := (x.length : Int) + 1) (by omega) (by omega)] at b6 e1 e2
    obtain ⟨out, p', s', he, ho, hp1, hp2⟩ := ih (x.take u.toNat ++ [r] ++ x.drop u.toNat) p2 s2 (by simp; omega) (by omega) (by omega)
    refine ⟨out, p', s', Ev.one he fun k => ?_, ho, by omega, by omega⟩
    rw [spec_l1Cur_park.l0, if_pos (by omega), wrap_id (x := (x.length : Int) + 1) (by omega) (by omega), e1, Option.bind_some]
    simp only
    rw [e2, Option.bind_some, if_pos b5, if_pos (by omega), own_eq _ (by rw [List.length_take]; omega), Option.bind_some, if_pos (by rw [List.length_take]; omega), Option.bind_some, Option.bind_some, if_pos (by simp; omega), wrap_id (x := ((d + 1 : Nat) : Int) - 1) (by omega) (by omega), show ((d + 1 : Nat) : Int) - 1 = (d : Int) by omega]
theorem park_ok {l : List Int} (hb : Bytes l) (p s : Int) (h0 : 0 ≤ p) (h1 : p ≤ 10000000000000) : ∃ out p' s', Ev (fun k => spec_l1Cur_park.f k l p s 8) (out, p', s') ∧ out.length ≤ 10 ∧ p ≤ p' ∧ p' ≤ p + 60 := by
  obtain ⟨r, p1, s1, e1, b1, b2, b3, b4⟩ := pick_ok hb p s (wrap64 (8 + 1)) h0 (by omega)
  have e9 : wrap64 (8 + 1) = 9 := wrap_id (by omega) (by omega)
  rw [e9] at b2
  obtain ⟨out, p', s', he, ho, hp1, hp2⟩ := park_l0 hb r.toNat [] p1 s1 (by simp; omega) (by omega) (by omega)
  refine ⟨out, p', s', ?_, ho, by omega, by omega⟩
  unfold spec_l1Cur_park.f
  simp only [e1, Option.bind_some]
  rw [show (r.toNat : Int) = r by omega] at he
  exact he
theorem again_ok {l : List Int} (hb : Bytes l) (p s : Int) (h0 : 0 ≤ p) (h1 : p ≤ 1000000000000) : ∃ out p' s', Ev (fun k => spec_l1Cur_again.f k l p s) (out, p', s') ∧ out.length ≤ 10 ∧ p ≤ p' ∧ p' ≤ p + 100 := by
  obtain ⟨x, p1, s1, he, hx, a1, a2⟩ := park_ok hb p s h0 (by omega)
  have rnd : ∀ (p2 s2 : Int), 0 ≤ p2 → p2 ≤ 10000000000000 → p ≤ p2 → p2 ≤ p + 62 → ∃ out p' s', Ev (fun k => spec_l1Cur_again.j0 k x true l p2 s2) (out, p', s') ∧ out.length ≤ 10 ∧ p ≤ p' ∧ p' ≤ p + 100 := by
    intro p2 s2 g0 g1 g2 g3
    obtain ⟨out, p', s', hg, ho, a3, a4⟩ := grains_ok hb p2 s2 g0 (by omega)
    refine ⟨out, p', s', Ev.step (f := fun k => (spec_l1Cur_grains.f k l p2 s2).bind fun bt => some (bt.1, bt.2.1, bt.2.2)) (fun k => by rw [spec_l1Cur_again.j0, if_pos rfl]) ?_, by omega, by omega, by omega⟩
    exact Ev.bind hg (Ev.now _)
  cases hp : parkB x with
  | true =>
    have hg := parkB_get hp
    obtain ⟨b, p2, s2, e2, b5, b6⟩ := one_ok hb p1 s1 6 (by omega) (by omega)
    cases b with
    | true =>
      obtain ⟨out, p', s', h', ho, a3, a4⟩ := rnd p2 s2 (by omega) (by omega) (by omega) (by omega)
      refine ⟨out, p', s', ?_, ho, a3, a4⟩
      unfold spec_l1Cur_again.f
      refine Ev.bind he ?_
      refine Ev.bind (paParking_ev x (by omega)) ?_
      simp only [hp, if_true, e2, Option.bind_some]
      exact h'
    | false =>
      refine ⟨turned x, p2, s2, ?_, by rw [turned_len]; omega, by omega, by omega⟩
      unfold spec_l1Cur_again.f
      refine Ev.bind he ?_
      refine Ev.bind (paParking_ev x (by omega)) ?_
      simp only [hp, if_true, e2, Option.bind_some]
      refine Ev.step (f := fun k => (spec_reTurned.f k x).bind fun t => some (t, p2, s2)) (fun k => by rw [spec_l1Cur_again.j0, if_neg (by simp)]) ?_
      exact Ev.bind (reTurned_ev x (by omega) hg.2) (Ev.now _)
  | false =>
    obtain ⟨out, p', s', h', ho, a3, a4⟩ := rnd p1 s1 (by omega) (by omega) (by omega) (by omega)
    refine ⟨out, p', s', ?_, ho, a3, a4⟩
    unfold spec_l1Cur_again.f
    refine Ev.bind he ?_
    refine Ev.bind (paParking_ev x (by omega)) ?_
    simp only [hp, Bool.false_eq_true, if_false]
    exact h'
theorem sized_ok {l : List Int} (hb : Bytes l) (p s a : Int) (h0 : 0 ≤ p) (h1 : p ≤ 1000000000000) : ∃ v p' s', spec_l1Cur_sized.f l p s a = some (v, p', s') := by
  obtain ⟨b, p1, s1, e1, b1, b2⟩ := one_ok hb p s 6 h0 (by omega)
  unfold spec_l1Cur_sized.f
  rw [e1, Option.bind_some]
  cases b with
  | true =>
    obtain ⟨v, p2, s2, e2, _, _⟩ := among_ok hb p1 s1 [-1, 0, 1, a, wrap64 (a + 1)] (by simp) (by omega) (by omega)
    simp only [if_true, e2, Option.bind_some]
    exact ⟨_, _, _, rfl⟩
  | false =>
    obtain ⟨v, p2, s2, e2, _, _, _, _⟩ := pick_ok hb p1 s1 (wrap64 (a + 1)) (by omega) (by omega)
    simp only [Bool.false_eq_true, if_false, e2, Option.bind_some]
    exact ⟨_, _, _, rfl⟩
theorem DrawRestSand_ok {l : List Int} (hb : Bytes l) : ∃ v, spec_DrawRestSand.f l = some v := by
  obtain ⟨v, p, s, e⟩ := sized_ok hb 0 0 8 (by omega) (by omega)
  unfold spec_DrawRestSand.f
  rw [e, Option.bind_some]
  exact ⟨_, rfl⟩
theorem DrawRepeatSand_ok {l : List Int} (hb : Bytes l) : ∃ out i, Ev (fun k => spec_DrawRepeatSand.f k l) (out, i) ∧ out.length ≤ 10 := by
  obtain ⟨r, p1, s1, e1, b1, b2, b3, b4⟩ := pick_ok hb 0 0 12 (by omega) (by omega)
  obtain ⟨b, p2, s2, e2, b5, b6⟩ := one_ok hb p1 s1 8 (by omega) (by omega)
  cases b with
  | true =>
    obtain ⟨v, p3, s3, e3, b7, b8⟩ := among_ok hb p2 s2 [-1, 0, 1000, 1001] (by simp) (by omega) (by omega)
    obtain ⟨out, p, s, he, ho, _, _⟩ := again_ok hb p3 s3 (by omega) (by omega)
    refine ⟨out, v, ?_, ho⟩
    unfold spec_DrawRepeatSand.f
    simp only [e1, Option.bind_some, e2, if_true, e3]
    exact Ev.bind he (Ev.now _)
  | false =>
    obtain ⟨out, p, s, he, ho, _, _⟩ := again_ok hb p2 s2 (by omega) (by omega)
    refine ⟨out, r, ?_, ho⟩
    unfold spec_DrawRepeatSand.f
    simp only [e1, Option.bind_some, e2, Bool.false_eq_true, if_false]
    exact Ev.bind he (Ev.now _)
theorem DrawAddSand_l0 {l : List Int} (hb : Bytes l) (x : List Int) (hx : x.length ≤ 10) (n : Nat) (hn : n ≤ 10) : ∀ (d i : Nat) (y : List Int) (p s : Int), i + d = n → y.length ≤ i → 0 ≤ p → p + 2 * d ≤ 1000000000000 → ∃ out, Ev (fun k => spec_DrawAddSand.l0 k x y (n : Int) (i : Int) l p s) (x, out) ∧ out.length ≤ 10 := by
  intro d
  induction d with
  | zero =>
    intro i y p s hd hy h0 h1
    obtain ⟨b, p1, s1, e1, b1, b2⟩ := one_ok hb p s 6 h0 (by omega)
    cases b with
    | true =>
      obtain ⟨out, p', s', he, ho, _, _⟩ := grains_ok hb p1 s1 (by omega) (by omega)
      refine ⟨out, Ev.step (f := fun k => (spec_l1Cur_grains.f k l p1 s1).bind fun bt => some (x, bt.1)) (fun k => by rw [spec_DrawAddSand.l0, if_neg (by omega), e1, Option.bind_some, if_pos rfl]) (Ev.bind he (Ev.now _)), by omega⟩
    | false =>
      refine ⟨y, Ev.end_ fun k => ?_, by omega⟩
      rw [spec_DrawAddSand.l0, if_neg (by omega), e1, Option.bind_some, if_neg (by simp)]
  | succ d ih =>
    intro i y p s hd hy h0 h1
    obtain ⟨r, p1, s1, e1, b1, b2, b3, b4⟩ := pick_ok hb p s (wrap64 ((x.length : Int) + 2)) h0 (by omega)
    obtain ⟨out, he, ho⟩ := ih (i + 1) (y ++ [r]) p1 s1 (by omega) (by simp; omega) (by omega) (by omega)
    refine ⟨out, Ev.one he fun k => ?_, ho⟩
    rw [spec_DrawAddSand.l0, if_pos (by omega), e1, Option.bind_some, if_pos (by omega), wrap_next (n := n) (by omega) (by omega)]
theorem DrawAddSand_ok {l : List Int} (hb : Bytes l) : ∃ x y, Ev (fun k => spec_DrawAddSand.f k l) (x, y) ∧ x.length ≤ 10 ∧ y.length ≤ 10 := by
  obtain ⟨x, p, s, he, hx, a1, a2⟩ := again_ok hb 0 0 (by omega) (by omega)
  obtain ⟨y, h, hy⟩ := DrawAddSand_l0 hb x hx x.length hx x.length 0 [] p s (by omega) (by simp) (by omega) (by omega)
  refine ⟨x, y, ?_, hx, hy⟩
  unfold spec_DrawAddSand.f
  exact Ev.bind he h
theorem spec_l1Same_l0 (a b : List Int) (hl : a.length = b.length) (hn : a.length ≤ 4611686018427387904) : ∀ (d i : Nat), i + d = a.length → Ev (fun k => spec_l1Same.l0 k a b (a.length : Int) i) (decide (a.drop i = b.drop i)) := by
  intro d
  induction d with
  | zero =>
    intro i hd
    refine Ev.end_ fun k => ?_
    rw [spec_l1Same.l0, if_neg (by omega), List.drop_eq_nil_of_le (by omega), List.drop_eq_nil_of_le (by omega)]
    simp
  | succ d ih =>
    intro i hd
    have e1 := drop_getD (l := a) (i := i) (by omega)
    have e2 := drop_getD (l := b) (i := i) (by omega)
    by_cases h : a.getD i 0 = b.getD i 0
    · refine Ev.one (f := fun k => spec_l1Same.l0 k a b (a.length : Int) ((i + 1 : Nat) : Int)) ?_ fun k => ?_
      · have := ih (i + 1) (by omega)
        have e : decide (a.drop i = b.drop i) = decide (a.drop (i + 1) = b.drop (i + 1)) := by rw [e1, e2, h]; simp
        rw [e]; exact this
      · rw [spec_l1Same.l0, if_pos (by omega), if_pos (by omega), if_pos (by omega), if_pos (by omega), rd_nat, rd_nat, if_pos h, wrap_next (n := a.length) (by omega) hn]
    · refine Ev.end_ fun k => ?_
      rw [spec_l1Same.l0, if_pos (by omega), if_pos (by omega), if_pos (by omega), if_pos (by omega), rd_nat, rd_nat, if_neg h, e1, e2, decide_eq_false (fun e => h (List.cons.inj e).1)]
theorem spec_l1Same_ev (a b : List Int) (hn : a.length ≤ 4611686018427387904) : Ev (fun k => spec_l1Same.f k a b) (decide (a = b)) := by
  unfold spec_l1Same.f
  by_cases h : a.length = b.length
  · simp only [show ((a.length : Int) = (b.length : Int)) from by omega, if_true]
    have := spec_l1Same_l0 a b h hn a.length 0 (by omega)
    simpa [h] using this
  · simp only [show ¬ ((a.length : Int) = (b.length : Int)) from by omega, if_false]
    have e : decide (a = b) = false := decide_eq_false (fun e => h (by rw [e]))
    rw [e]; exact Ev.now _
theorem slices_Equal_int_int_l0 (a b : List Int) (hl : a.length = b.length) (hn : a.length ≤ 4611686018427387904) : ∀ (d i : Nat), i + d = a.length → Ev (fun k => slices_Equal_int_int.l0 k a b (a.length : Int) i) (decide (a.drop i = b.drop i)) := by
  intro d
  induction d with
  | zero =>
    intro i hd
    refine Ev.end_ fun k => ?_
    rw [slices_Equal_int_int.l0, if_neg (by omega), List.drop_eq_nil_of_le (by omega), List.drop_eq_nil_of_le (by omega)]
    simp
  | succ d ih =>
    intro i hd
    have e1 := drop_getD (l := a) (i := i) (by omega)
    have e2 := drop_getD (l := b) (i := i) (by omega)
    by_cases h : a.getD i 0 = b.getD i 0
    · refine Ev.one (f := fun k => slices_Equal_int_int.l0 k a b (a.length : Int) ((i + 1 : Nat) : Int)) ?_ fun k => ?_
      · have := ih (i + 1) (by omega)
        have e : decide (a.drop i = b.drop i) = decide (a.drop (i + 1) = b.drop (i + 1)) := by rw [e1, e2, h]; simp
        rw [e]; exact this
      · rw [slices_Equal_int_int.l0, if_pos (by omega), if_pos (by omega), if_pos (by omega), if_pos (by omega), rd_nat, rd_nat, if_pos h, wrap_next (n := a.length) (by omega) hn]
    · refine Ev.end_ fun k => ?_
      rw [slices_Equal_int_int.l0, if_pos (by omega), if_pos (by omega), if_pos (by omega), if_pos (by omega), rd_nat, rd_nat, if_neg h, e1, e2, decide_eq_false (fun e => h (List.cons.inj e).1)]
theorem slices_Equal_int_int_ev (a b : List Int) (hn : a.length ≤ 4611686018427387904) : Ev (fun k => slices_Equal_int_int.f k a b) (decide (a = b)) := by
  unfold slices_Equal_int_int.f
  by_cases h : a.length = b.length
  · simp only [show ((a.length : Int) = (b.length : Int)) from by omega, if_true]
    have := slices_Equal_int_int_l0 a b h hn a.length 0 (by omega)
    simpa [h] using this
  · simp only [show ¬ ((a.length : Int) = (b.length : Int)) from by omega, if_false]
    have e : decide (a = b) = false := decide_eq_false (fun e => h (by rw [e]))
    rw [e]; exact Ev.now _
theorem reOnes_ev (n : Nat) (hn : n ≤ 1000) : Ev (fun k => spec_reOnes.f k (n : Int)) (SandT.ones n) := by
  unfold spec_reOnes.f
  have := Ev.up0 n (fun q => List.replicate q (1 : Int)) (fun k s q => spec_reOnes.l0 k (n : Int) s q) (SandT.ones n) (fun q hq h => Ev.one h fun k => ?_) (Ev.end_ fun k => ?_)
  · exact this
  · rw [spec_reOnes.l0, if_pos (by omega), if_pos (by rw [List.length_replicate]; omega), wrap_next (n := n) hq (by omega), ← List.replicate_succ']
  · rw [spec_reOnes.l0, if_neg (by omega)]; rfl
def recB (l : List Int) : Bool := (l.all fun x => decide (x < l.length)) && decide ((SandT.stab (SandT.more l)).1 = l)
theorem more_mild {l : List Int} (h : sandB l = true) : Mild (SandT.more l) := by
  have := sandB_len h
  refine mild_of (by simpa using (by omega : l.length ≤ 1000)) fun j => ?_
  rcases Nat.lt_or_ge j l.length with hj | hj
  · rw [SandT.get_more l j hj]; have := sandB_get h j; omega
  · rw [List.getD_eq_getElem?_getD, List.getElem?_eq_none (by simpa using hj)]; simp
theorem ones_range (n j : Nat) : -1000000 ≤ (SandT.ones n).getD j 0 ∧ (SandT.ones n).getD j 0 ≤ 1000000 := by
  have := get_repl_range n 1 (by omega) j
  unfold SandT.ones; omega
theorem reAgain_ev {l : List Int} (h : sandB l = true) : Ev (fun k => spec_reAgain.f k l) (recB l) := by
  have hl := sandB_len h
  unfold spec_reAgain.f recB
  refine Ev.bind (reOnes_ev l.length (by omega)) ?_
  refine Ev.bind (rePlus_ev (by simp [SandT.ones]) (by omega) (sandB_mild h).get (ones_range _)) ?_
  show Ev (fun k => (spec_reSettle.f k (SandT.more l)).bind _) _
  refine Ev.bind (reSettle_ev (more_mild h)) ?_
  refine Ev.bind (reSand_ev l (by omega)) ?_
  simp only [h, if_true]
  refine Ev.bind (reFirst_ev l (by omega)) ?_
  have e := firstI_neg l
  by_cases hf : firstI l < 0
  · simp only [hf, if_true]
    simp only [hf, decide_true] at e
    rw [← e, Bool.true_and]
    refine Ev.bind (spec_l1Same_ev _ _ (by simp; omega)) ?_
    exact Ev.now _
  · simp only [hf, if_false]
    simp only [hf, decide_false] at e
    rw [← e, Bool.false_and]
    exact Ev.now _
def recV (l : List Int) : Bool × Bool := if sandB l = true then (recB l, true) else (false, false)
theorem burn_ev {l : List Int} (h : sandB l = true) : Ev (fun k => impl_burn.f k l) ((SandT.stab (SandT.more l)).1, asI (SandT.stab (SandT.more l)).2) := by
  have hl := sandB_len h
  unfold impl_burn.f
  simp only [Repeat_eq 1 l.length (by omega), Option.bind_some]
  refine Ev.bind (added_ev (b := SandT.ones l.length) (by simp [SandT.ones]) (by omega) (sandB_mild h).get (ones_range _)) ?_
  show Ev (fun k => (impl_settle.f (SandT.more l)).bind fun bt => some (bt.1, bt.2)) _
  simp only [settle_eq (more_mild h), Option.bind_some]
  exact Ev.now _
theorem isRecurrent_ev (l : List Int) : Ev (fun k => impl_isRecurrent.f k l) (sandB l && recB l) := by
  unfold impl_isRecurrent.f
  simp only [isSand_eq, Option.bind_some]
  by_cases h : sandB l = true
  · have hl := sandB_len h
    simp only [h, if_true, Bool.true_and, impl_isStable.f, Option.bind_some, recB]
    cases hs : (l.all fun x => decide (x < l.length)) with
    | true =>
      refine Ev.step (f := fun k => (impl_burn.f k l).bind fun bt => ((slices_Equal_int_int.f k bt.1 l).bind fun t => some t)) (fun k => by rw [impl_isRecurrent.j0, if_neg (by simp)]) ?_
      refine Ev.bind (burn_ev h) ?_
      refine Ev.bind (slices_Equal_int_int_ev _ _ (by simp; omega)) ?_
      rw [Bool.true_and]
      exact Ev.now _
    | false => exact Ev.end_ fun k => by rw [impl_isRecurrent.j0, if_pos (by simp)]; simp
  · simp only [h, Bool.false_eq_true, if_false, Bool.not_eq_true _ ▸ h]
    have h' : sandB l = false := by simpa using h
    rw [Bool.false_and]
    exact Ev.end_ fun k => by rw [impl_isRecurrent.j0, if_pos rfl]
theorem impl_IsRecurrent_ev (l : List Int) : Ev (fun k => impl_IsRecurrent.f k l) (recV l) := by
  unfold impl_IsRecurrent.f recV
  simp only [isSand_eq, Option.bind_some]
  by_cases h : sandB l = true
  · simp only [h, if_true]
    refine Ev.bind (isRecurrent_ev l) ?_
    rw [h, Bool.true_and]
    exact Ev.now _
  · simp only [h, Bool.false_eq_true, if_false]
    exact Ev.now _
def twice (n : Nat) : List Int := List.replicate n (2 * ((n : Int) - 1))
theorem twice_len (n : Nat) : (twice n).length = n := by simp [twice]
theorem twice_mild {n : Nat} (hn : n ≤ 8) : Mild (twice n) := by
  refine mild_of (by rw [twice_len]; omega) fun j => ?_
  cases n with
  | zero => simp [twice]
  | succ n => have := get_repl_range (n + 1) (2 * (((n + 1 : Nat) : Int) - 1)) (by omega) j; unfold twice; omega
theorem stab_get {c : List Int} (h : SandT.Nonneg c) (j : Nat) : 0 ≤ (SandT.stab c).1.getD j 0 ∧ (SandT.stab c).1.getD j 0 ≤ c.length := by
  refine ⟨SandT.nn_stab h j, ?_⟩
  rcases Nat.lt_or_ge j c.length with hj | hj
  · have := SandT.stab_stable h j (by simpa using hj)
    simp only [SandT.length_stab] at this
    omega
  · rw [List.getD_eq_getElem?_getD, List.getElem?_eq_none (by simpa using hj)]; simp
theorem stab_get' {c : List Int} (h : SandT.Nonneg c) {j : Nat} (hj : j < c.length) : (SandT.stab c).1.getD j 0 ≤ (c.length : Int) - 1 := by
  have := SandT.stab_stable h j (by simpa using hj)
  simp only [SandT.length_stab] at this
  omega
def lessL (a b : List Int) : List Int := a.mapIdx fun i x => x - b.getD i 0
theorem lessL_len (a b : List Int) : (lessL a b).length = a.length := by simp [lessL]
theorem lessL_get (a b : List Int) {j : Nat} (hj : j < a.length) : (lessL a b).getD j 0 = a.getD j 0 - b.getD j 0 := by
  simp [lessL, List.getD_eq_getElem?_getD, List.getElem?_mapIdx, List.getElem?_eq_getElem hj]
def restM (n : Nat) : List Int := lessL (twice n) (SandT.stab (twice n)).1
theorem restM_len (n : Nat) : (restM n).length = n := by simp [restM, lessL_len, twice_len]
theorem restM_mild {n : Nat} (hn : n ≤ 8) : Mild (restM n) := by
  refine mild_of (by rw [restM_len]; omega) fun j => ?_
  rcases Nat.lt_or_ge j n with hj | hj
  · unfold restM
    rw [lessL_get _ _ (by rw [twice_len]; exact hj)]
    have h1 := stab_get (twice_mild hn).nn j
    have h2 := stab_get' (twice_mild hn).nn (j := j) (by rw [twice_len]; exact hj)
    rw [twice_len] at h1 h2
    unfold twice at *
    rw [get_repl n _ hj]
    omega
  · rw [List.getD_eq_getElem?_getD, List.getElem?_eq_none (by rw [restM_len]; exact hj)]; simp
def restL (n : Nat) : List Int := (SandT.stab (restM n)).1
theorem restL_len (n : Nat) : (restL n).length = n := by simp [restL, restM_len]
theorem top_twice (n : Nat) : SandT.plus (List.replicate n ((n : Int) - 1)) (List.replicate n ((n : Int) - 1)) = twice n := by
  apply SandT.ext_getD
  · simp [twice]
  · intro j hj
    have hj' : j < n := by simpa using hj
    rw [SandT.get_plus _ _ _ (by simpa using hj'), get_repl n _ hj', twice, get_repl n _ hj']
    omega
theorem turned_zero (n : Nat) : turned (List.replicate n 0) = List.replicate n ((n : Int) - 1) := by simp [turned]
theorem spec_rest_l0 {n : Nat} (hn : n ≤ 8) : Ev (fun k => spec_reRest.l0 k (SandT.stab (twice n)).1 [] (twice n) ((twice n).length : Int) 0) (restL n) := by
  have hs : (SandT.stab (twice n)).1.length = n := by simp [twice_len]
  have := Ev.up0 n (fun q => (restM n).take q) (fun k s q => spec_reRest.l0 k (SandT.stab (twice n)).1 s (twice n) ((twice n).length : Int) q) (restL n) (fun q hq h' => Ev.one h' fun k => ?_) ?_
  · exact this
  · have hlt : ((restM n).take q).length < 17592186044416 := by rw [List.length_take]; omega
    have hg : (restM n).getD q 0 = (twice n).getD q 0 - (SandT.stab (twice n)).1.getD q 0 := lessL_get _ _ (by rw [twice_len]; exact hq)
    have := (twice_mild hn).get q
    have := (stab_mild (twice_mild hn)).get q
    rw [spec_reRest.l0, if_pos (by rw [twice_len]; omega), if_pos (by omega), if_pos (by rw [twice_len]; omega), if_pos (by rw [hs]; omega), if_pos hlt, rd_nat, rd_nat, wrap_id (x := (twice n).getD q 0 - (SandT.stab (twice n)).1.getD q 0) (by omega) (by omega), take_snoc (by rw [restM_len]; exact hq) hg, wrap_next (n := n) hq (by omega)]
  · rw [List.take_of_length_le (by rw [restM_len]; exact Nat.le_refl _)]
    refine Ev.step (f := fun k => (spec_reSettle.f k (restM n)).bind fun bt => some bt.1) (fun k => by rw [spec_reRest.l0, if_neg (by rw [twice_len]; omega)]) ?_
    refine Ev.bind (reSettle_ev (restM_mild hn)) ?_
    exact Ev.now _
theorem spec_reRest_ev {n : Nat} (hn : n ≤ 8) : Ev (fun k => spec_reRest.f k (n : Int)) (restL n) := by
  unfold spec_reRest.f
  simp only [show (0 : Int) ≤ (n : Int) by omega, Int.toNat_natCast, show n ≤ 35184372088832 by omega, if_true]
  refine Ev.bind (reTurned_ev _ (by simp; omega) (fun j => by have := get_repl_range n 0 (by omega) j; omega)) ?_
  rw [turned_zero]
  have hr : ∀ j, -1000000 ≤ (List.replicate n ((n : Int) - 1)).getD j 0 ∧ (List.replicate n ((n : Int) - 1)).getD j 0 ≤ 1000000 := by
    intro j
    cases n with
    | zero => simp
    | succ n => have := get_repl_range (n + 1) (((n + 1 : Nat) : Int) - 1) (by omega) j; omega
  refine Ev.bind (rePlus_ev rfl (by simp; omega) hr hr) ?_
  rw [top_twice]
  refine Ev.bind (reSettle_ev (twice_mild hn)) ?_
  exact spec_rest_l0 hn
theorem impl_rest_ev {n : Nat} (hn : n ≤ 8) : Ev (fun k => impl_rest.f k (n : Int)) (restL n) := by
  unfold impl_rest.f
  have e1 : wrap64 (2 * wrap64 ((n : Int) - 1)) = 2 * ((n : Int) - 1) := by rw [wrap_id (x := (n : Int) - 1) (by omega) (by omega), wrap_id (by omega) (by omega)]
  rw [e1]
  simp only [Repeat_eq _ n (by omega), Option.bind_some]
  show Ev (fun k => (impl_settle.f (twice n)).bind fun bt => impl_rest.l0 k (twice n) bt.1 (bt.1.length : Int) 0) (restL n)
  simp only [settle_eq (twice_mild hn), Option.bind_some]
  have hs : (SandT.stab (twice n)).1.length = n := by simp [twice_len]
  have hR : (restM n).length = (twice n).length := by rw [restM_len, twice_len]
  have := Ev.up0 n (fun q => mixed (restM n) (twice n) q) (fun k s q => impl_rest.l0 k s (SandT.stab (twice n)).1 ((SandT.stab (twice n)).1.length : Int) q) (restL n) (fun q hq h' => Ev.one h' fun k => ?_) ?_
  · simpa [mixed_zero] using this
  · have hq' : q < (twice n).length := by rw [twice_len]; exact hq
    have hg : (restM n).getD q 0 = (twice n).getD q 0 - (SandT.stab (twice n)).1.getD q 0 := lessL_get _ _ (by rw [twice_len]; exact hq)
    have := (twice_mild hn).get q
    have := (stab_mild (twice_mild hn)).get q
    rw [impl_rest.l0, if_pos (by rw [hs]; omega), if_pos (by omega), if_pos (by rw [hs]; omega), if_pos (by rw [length_mixed hR, twice_len]; omega), rd_nat, rd_nat, getD_mixed hR hq', Int.toNat_natCast, wrap_id (x := (twice n).getD q 0 - (SandT.stab (twice n)).1.getD q 0) (by omega) (by omega), set_mixed hR hq' hg, wrap_next (n := n) hq (by omega)]
  · have e2 : mixed (restM n) (twice n) n = restM n := by have := mixed_full hR; rw [twice_len] at this; exact this
    rw [e2]
    refine Ev.step (f := fun k => (impl_settle.f (restM n)).bind fun bt => some bt.1) (fun k => by rw [impl_rest.l0, if_neg (by rw [hs]; omega)]) ?_
    simp only [settle_eq (restM_mild hn), Option.bind_some]
    exact Ev.now _
def restV (a : Int) : List Int × Bool := if 0 ≤ a ∧ a ≤ 8 then (restL a.toNat, true) else ([], false)
theorem spec_RestSand_ev (a : Int) : Ev (fun k => spec_RestSand.f k a) (restV a) := by
  unfold spec_RestSand.f restV
  simp only [l1In_eq, Option.bind_some]
  by_cases h : 0 ≤ a ∧ a ≤ 8
  · obtain ⟨n, rfl⟩ : ∃ n : Nat, a = n := ⟨a.toNat, by omega⟩
    simp only [h, and_self, decide_true, if_true, Int.toNat_natCast]
    refine Ev.bind (spec_reRest_ev (by omega)) ?_
    exact Ev.now _
  · simp only [h, decide_false, Bool.false_eq_true, if_false]
    exact Ev.now _
theorem impl_RestSand_ev (a : Int) : Ev (fun k => impl_RestSand.f k a) (restV a) := by
  unfold impl_RestSand.f restV impl_isCars.f
  simp only [between_eq, Option.bind_some]
  by_cases h : 0 ≤ a ∧ a ≤ 8
  · obtain ⟨n, rfl⟩ : ∃ n : Nat, a = n := ⟨a.toNat, by omega⟩
    simp only [h, and_self, decide_true, if_true, Int.toNat_natCast]
    refine Ev.bind (impl_rest_ev (by omega)) ?_
    exact Ev.now _
  · simp only [h, decide_false, Bool.false_eq_true, if_false]
    exact Ev.now _
theorem restV_len (a : Int) : (restV a).1.length ≤ 8 := by
  unfold restV
  split
  · rw [restL_len]; omega
  · simp
def itr (l : List Int) : Nat → List Int → List Int
  | 0, e => e
  | m + 1, e => itr l m (SandT.stab (SandT.plus e l)).1
/-- Sand that is stable, of as many places as l. -/
structure Still (l e : List Int) : Prop where
  nn : SandT.Nonneg e
  st : SandT.Stable e
  len : e.length = l.length
theorem Still.get {l e : List Int} (h : Still l e) (hl : l.length ≤ 8) (j : Nat) : 0 ≤ e.getD j 0 ∧ e.getD j 0 ≤ 8 := by
  refine ⟨h.nn j, ?_⟩
  rcases Nat.lt_or_ge j e.length with hj | hj
  · have := h.st j hj; have := h.len; omega
  · rw [List.getD_eq_getElem?_getD, List.getElem?_eq_none hj]; simp
theorem Still.mild {l e : List Int} (h : Still l e) (hs : sandB l = true) : Mild (SandT.plus e l) := by
  have hl := sandB_len hs
  have := sum_le (c := e) (B := 8) (fun j => (h.get hl j).2) (by omega)
  have := sandB_sum hs
  have := h.len
  exact plus_mild h.nn (sandB_nn hs) h.len (by omega) (by omega)
theorem Still.next {l e : List Int} (h : Still l e) (hs : sandB l = true) : Still l (SandT.stab (SandT.plus e l)).1 := by
  have hm := h.mild hs
  exact ⟨SandT.nn_stab hm.nn, SandT.stab_stable hm.nn, by simp [h.len]⟩
theorem Still.wide {l e : List Int} (h : Still l e) (hl : l.length ≤ 8) (j : Nat) : -1000000 ≤ e.getD j 0 ∧ e.getD j 0 ≤ 1000000 := by have := h.get hl j; omega
theorem itr_still {l : List Int} (hs : sandB l = true) : ∀ (m : Nat) {e : List Int}, Still l e → Still l (itr l m e)
  | 0, _, h => h
  | m + 1, _, h => itr_still hs m (h.next hs)
theorem rest_still {l : List Int} (hl : l.length ≤ 8) : Still l (restL l.length) := by
  have hm := restM_mild hl
  exact ⟨SandT.nn_stab hm.nn, SandT.stab_stable hm.nn, restL_len _⟩
theorem spec_repeat_l0 {l : List Int} (hs : sandB l = true) : ∀ (m : Nat) (e : List Int), m ≤ 1000 → Still l e → Ev (fun k => spec_RepeatSand.l0 k l (m : Int) e) (itr l m e, true)
  | 0, e, _, _ => Ev.end_ fun k => by rw [spec_RepeatSand.l0, if_neg (by omega)]; rfl
  | m + 1, e, hm, h => by
    have hl := sandB_len hs
    refine Ev.step (f := fun k => (spec_rePlus.f k e l).bind fun t1062 => ((spec_reSettle.f k t1062).bind fun bt1065 => (spec_RepeatSand.l0 k l (m : Int) bt1065.1))) (fun k => by rw [spec_RepeatSand.l0, if_pos (by omega), wrap_id (x := ((m + 1 : Nat) : Int) - 1) (by omega) (by omega), show ((m + 1 : Nat) : Int) - 1 = (m : Int) by omega]) ?_
    refine Ev.bind (rePlus_ev h.len (by have := h.len; omega) (h.wide hl) (sandB_mild hs).get) ?_
    refine Ev.bind (reSettle_ev (h.mild hs)) ?_
    exact spec_repeat_l0 hs m _ (by omega) (h.next hs)
theorem impl_repeat_l0 {l : List Int} (hs : sandB l = true) (N : Nat) (hN : N ≤ 1000) : ∀ (m i : Nat) (e : List Int), i + m = N → Still l e → Ev (fun k => impl_RepeatSand.l0 k l e (N : Int) (i : Int)) (itr l m e, true)
  | 0, i, e, hi, _ => Ev.end_ fun k => by rw [impl_RepeatSand.l0, if_neg (by omega)]; rfl
  | m + 1, i, e, hi, h => by
    have hl := sandB_len hs
    refine Ev.step (f := fun k => (impl_added.f k e l).bind fun t1076 => ((impl_settle.f t1076).bind fun bt1079 => (impl_RepeatSand.l0 k l bt1079.1 (N : Int) ((i + 1 : Nat) : Int)))) (fun k => by rw [impl_RepeatSand.l0, if_pos (by omega), wrap_next (n := N) (by omega) (by omega)]) ?_
    refine Ev.bind (added_ev h.len (by have := h.len; omega) (h.wide hl) (sandB_mild hs).get) ?_
    simp only [settle_eq (h.mild hs), Option.bind_some]
    exact impl_repeat_l0 hs N hN m (i + 1) _ (by omega) (h.next hs)
def repB (l : List Int) (a : Int) : Bool := sandB l && recB l && decide (0 ≤ a ∧ a ≤ 1000)
def repV (l : List Int) (a : Int) : List Int × Bool := if repB l a = true then (itr l a.toNat (restL l.length), true) else ([], false)
theorem spec_RepeatSand_ev (l : List Int) (hn : l.length ≤ 4611686018427387904) (a : Int) : Ev (fun k => spec_RepeatSand.f k l a) (repV l a) := by
  unfold spec_RepeatSand.f repV repB
  refine Ev.bind (reSand_ev l hn) ?_
  have stop : Ev (fun k => spec_RepeatSand.j0 k l a true) (([] : List Int), false) := Ev.end_ fun k => by rw [spec_RepeatSand.j0, if_pos rfl]
  by_cases h : sandB l = true
  · have hl := sandB_len h
    simp only [h, if_true, Bool.true_and]
    refine Ev.bind (reAgain_ev h) ?_
    cases hr : recB l with
    | true =>
      simp only [if_true, l1In_eq, Option.bind_some, Bool.true_and]
      by_cases ha : 0 ≤ a ∧ a ≤ 1000
      · obtain ⟨m, rfl⟩ : ∃ m : Nat, a = m := ⟨a.toNat, by omega⟩
        simp only [ha, and_self, decide_true, if_true, Bool.not_true, Int.toNat_natCast]
        refine Ev.step (f := fun k => (spec_reRest.f k (l.length : Int)).bind fun t => spec_RepeatSand.l0 k l (m : Int) t) (fun k => by rw [spec_RepeatSand.j0, if_neg (by simp)]) ?_
        refine Ev.bind (spec_reRest_ev hl) ?_
        exact spec_repeat_l0 h m _ (by omega) (rest_still hl)
      · simp only [ha, decide_false, Bool.not_false, Bool.false_eq_true, if_false]
        exact stop
    | false => simp only [Bool.false_and, Bool.false_eq_true, if_false]; exact stop
  · have h' : sandB l = false := by simpa using h
    simp only [h', Bool.false_and, Bool.false_eq_true, if_false]
    exact stop
theorem impl_RepeatSand_ev (l : List Int) (a : Int) : Ev (fun k => impl_RepeatSand.f k l a) (repV l a) := by
  unfold impl_RepeatSand.f repV repB
  refine Ev.bind (isRecurrent_ev l) ?_
  have stop : Ev (fun k => impl_RepeatSand.j0 k l a true) (([] : List Int), false) := Ev.end_ fun k => by rw [impl_RepeatSand.j0, if_pos rfl]
  cases h : (sandB l && recB l) with
  | true =>
    have hs : sandB l = true := by rw [Bool.and_eq_true] at h; exact h.1
    have hl := sandB_len hs
    simp only [if_true, between_eq, Option.bind_some, Bool.true_and]
    by_cases ha : 0 ≤ a ∧ a ≤ 1000
    · obtain ⟨m, rfl⟩ : ∃ m : Nat, a = m := ⟨a.toNat, by omega⟩
      simp only [ha, and_self, decide_true, if_true, Bool.not_true, Int.toNat_natCast]
      refine Ev.step (f := fun k => (impl_rest.f k (l.length : Int)).bind fun t => impl_RepeatSand.l0 k l t (m : Int) 0) (fun k => by rw [impl_RepeatSand.j0, if_neg (by simp)]) ?_
      refine Ev.bind (impl_rest_ev hl) ?_
      exact impl_repeat_l0 hs m (by omega) m 0 _ (by omega) (rest_still hl)
    · simp only [ha, decide_false, Bool.not_false, Bool.false_eq_true, if_false]
      exact stop
  | false => simp only [Bool.false_and, Bool.false_eq_true, if_false]; exact stop
theorem repV_len (l : List Int) (a : Int) : (repV l a).1.length ≤ 8 := by
  unfold repV
  split
  · rename_i h
    simp only [repB, Bool.and_eq_true] at h
    have hl := sandB_len h.1.1
    have := (itr_still h.1.1 a.toNat (rest_still hl)).len
    show (itr l a.toNat (restL l.length)).length ≤ 8
    omega
  · simp
theorem g_all (c : List Int) : (c.all fun x => decide (x < c.length)) = true ↔ SandT.Stable c := by
  rw [List.all_eq_true]
  constructor
  · intro h j hj
    have := h c[j] (List.getElem_mem hj)
    rw [List.getD_eq_getElem?_getD, List.getElem?_eq_getElem hj]
    simpa using this
  · intro h x hx
    obtain ⟨j, hj, rfl⟩ := List.getElem_of_mem hx
    have := h j hj
    rw [List.getD_eq_getElem?_getD, List.getElem?_eq_getElem hj] at this
    simpa using this
theorem g_rec (l : List Int) : recB l = true ↔ SandT.Rec l := by
  unfold recB SandT.Rec
  rw [Bool.and_eq_true, g_all, decide_eq_true_iff]
theorem g_sand {c : List Int} (hl : c.length ≤ 8) (h : ∀ j, j < c.length → 0 ≤ c.getD j 0 ∧ c.getD j 0 ≤ 60) : sandB c = true := by
  unfold sandB
  rw [Bool.and_eq_true]
  refine ⟨decide_eq_true hl, ?_⟩
  rw [List.all_eq_true]
  intro x hx
  obtain ⟨j, hj, rfl⟩ := List.getElem_of_mem hx
  have := h j hj
  rw [List.getD_eq_getElem?_getD, List.getElem?_eq_getElem hj] at this
  simpa using this
theorem g_stab {c : List Int} (hn : SandT.Nonneg c) (hl : c.length ≤ 8) : sandB (SandT.stab c).1 = true := by
  refine g_sand (by simpa using hl) fun j hj => ?_
  have := stab_get hn j
  omega
theorem g_top {n : Nat} (hn : n ≤ 8) : sandB (SandT.top n) = true := by
  refine g_sand (by simpa using hn) fun j hj => ?_
  rw [SandT.length_top] at hj
  rw [SandT.top, SandT.get_const _ _ _ hj]; omega
theorem g_rest (n : Nat) : restL n = SandT.top n := by
  have et : SandT.plus (SandT.top n) (SandT.top n) = twice n := top_twice n
  have e1 : (SandT.stab (twice n)).1 = SandT.top n := by
    rw [← et]
    have := SandT.neutral (SandT.top_rec n) (SandT.nn_top n)
    rw [SandT.length_top] at this
    exact this
  have e2 : restM n = SandT.top n := by
    unfold restM
    rw [e1]
    apply SandT.ext_getD
    · rw [lessL_len, twice_len, SandT.length_top]
    · intro j hj
      rw [lessL_len, twice_len] at hj
      rw [lessL_get _ _ (by rw [twice_len]; exact hj), twice, get_repl n _ hj, SandT.top, SandT.get_const _ _ _ hj]
      omega
  unfold restL
  rw [e2]
  exact SandT.stab_fix (SandT.top_rec n).1
theorem g_itr (l : List Int) : ∀ (m : Nat) (e : List Int), itr l (m + 1) e = (SandT.stab (SandT.plus (itr l m e) l)).1
  | 0, _ => rfl
  | m + 1, e => by rw [itr, g_itr l m]; rfl
theorem g_rep (l : List Int) : ∀ (m : Nat), itr l m (SandT.top l.length) = SandT.rep l m
  | 0 => rfl
  | m + 1 => by rw [g_itr, g_rep l m]; rfl
theorem g_add {a b : List Int} (h1 : sandB a = true) (h2 : sandB b = true) (h3 : a.length = b.length) : addV a b = ((SandT.stab (SandT.plus a b)).1, true) := by
  have hB : addB a b = true := by simp [addB, h1, h2, h3]
  rw [addV, if_pos hB]
theorem g_top_add (n : Nat) (hn : n ≤ 8) : addV (restL n) (restL n) = (restL n, true) := by
  rw [g_rest, g_add (g_top hn) (g_top hn) rfl]
  have := SandT.neutral (SandT.top_rec n) (SandT.nn_top n)
  rw [SandT.length_top] at this
  rw [this]
theorem repB_parts {e : List Int} {n : Int} (h : repB e n = true) : sandB e = true ∧ recB e = true ∧ 0 ≤ n ∧ n ≤ 1000 := by
  simp only [repB, Bool.and_eq_true, decide_eq_true_eq] at h
  exact ⟨h.1.1, h.1.2, h.2.1, h.2.2⟩
theorem group_j4 (a b : List Int) (ha : a.length ≤ 10) (hb : b.length ≤ 10) : Ev (fun k => laws_FnSandIsAGroup.j4 k a b (addV a b).1 (addV a b).2) true := by
  by_cases hB : addB a b = true
  · have h := hB
    simp only [addB, Bool.and_eq_true, decide_eq_true_eq] at h
    obtain ⟨⟨h1, h2⟩, h3⟩ := h
    obtain ⟨hm, _, _, _, hl⟩ := addB_mild hB
    rw [g_add h1 h2 h3]
    have hs : sandB (SandT.stab (SandT.plus a b)).1 = true := g_stab hm.nn (by simpa using hl)
    refine Ev.step (f := fun k => (impl_AddSand.f k b a).bind fun bt1373 => ((impl_IsRecurrent.f k a).bind fun bt1377 => ((impl_IsRecurrent.f k (SandT.stab (SandT.plus a b)).1).bind fun bt1379 => (if bt1373.2 = true then (if bt1377.2 = true then (if bt1379.2 = true then ((laws_wSame.f k bt1373.1 (SandT.stab (SandT.plus a b)).1).bind fun t1381 => (if t1381 = true then (if bt1377.1 = true then (some bt1379.1) else (some true)) else (some false))) else (some false)) else (some false)) else (some false))))) (fun k => by rw [laws_FnSandIsAGroup.j4, if_pos rfl]) ?_
    refine Ev.bind (impl_AddSand_ev b a) ?_
    refine Ev.bind (impl_IsRecurrent_ev a) ?_
    refine Ev.bind (impl_IsRecurrent_ev _) ?_
    rw [g_add h2 h1 h3.symm, SandT.plus_comm h3.symm, recV, if_pos h1, recV, if_pos hs]
    simp only [if_true]
    refine Ev.bind (laws_wSame_ev _ _ (by simp; omega)) ?_
    simp only [decide_true, if_true]
    cases hr : recB a with
    | true =>
      simp only [if_true]
      have := (g_rec _).2 (SandT.rec_plus ((g_rec _).1 hr) (sandB_nn h1) (sandB_nn h2))
      rw [this]
      exact Ev.now _
    | false => simp only [Bool.false_eq_true, if_false]; exact Ev.now _
  · have e : addV a b = ([], false) := by rw [addV, if_neg hB]
    rw [e]
    exact Ev.end_ fun k => by rw [laws_FnSandIsAGroup.j4, if_neg (by simp)]
theorem group_j3 (a b : List Int) (ha : a.length ≤ 10) (hb : b.length ≤ 10) {e : List Int} (h1 : sandB e = true) (h2 : recB e = true) : Ev (fun k => laws_FnSandIsAGroup.j3 k a b (addV a b).1 (addV a b).2 e (restL e.length) false) true := by
  have hl := sandB_len h1
  refine Ev.step (f := fun k => (impl_RepeatSand.f k e (wrap64 ((e.length : Int) + 1))).bind fun bt1368 => (if bt1368.2 = true then ((laws_wSame.f k bt1368.1 (restL e.length)).bind fun t1372 => (if t1372 = true then (laws_FnSandIsAGroup.j4 k a b (addV a b).1 (addV a b).2) else (some false))) else (some false))) (fun k => by rw [laws_FnSandIsAGroup.j3, if_neg (by simp)]) ?_
  rw [wrap_id (x := (e.length : Int) + 1) (by omega) (by omega)]
  refine Ev.bind (impl_RepeatSand_ev e _) ?_
  have hr : repB e ((e.length : Int) + 1) = true := by
    unfold repB
    rw [h1, h2, Bool.true_and, Bool.true_and]
    exact decide_eq_true (by omega)
  have ev : repV e ((e.length : Int) + 1) = (restL e.length, true) := by
    rw [repV, if_pos hr, show ((e.length : Int) + 1).toNat = e.length + 1 by omega, g_rest, g_rep, SandT.rep_round (sandB_nn h1)]
  rw [ev]
  simp only [if_true]
  refine Ev.bind (laws_wSame_ev _ _ (by rw [restL_len]; omega)) ?_
  simp only [decide_true, if_true]
  exact group_j4 a b ha hb
theorem group_j2 (a b : List Int) (ha : a.length ≤ 10) (hb : b.length ≤ 10) (e : List Int) (n : Int) : Ev (fun k => laws_FnSandIsAGroup.j2 k a b (addV a b).1 (addV a b).2 e n (repV e n).1 (repV e n).2) true := by
  by_cases hr : repB e n = true
  · obtain ⟨h1, h2, h3, h4⟩ := repB_parts hr
    have hl := sandB_len h1
    obtain ⟨m, rfl⟩ : ∃ m : Nat, n = m := ⟨n.toNat, by omega⟩
    have ev : repV e (m : Int) = (SandT.rep e m, true) := by rw [repV, if_pos hr, Int.toNat_natCast, g_rest, g_rep]
    have hst : Still e (SandT.rep e m) := by
      have := itr_still h1 m (rest_still hl)
      rw [g_rest, g_rep] at this
      exact this
    have hsr : sandB (SandT.rep e m) = true := g_sand (by rw [SandT.length_rep]; exact hl) (fun j _ => by have := hst.get hl j; omega)
    rw [ev]
    refine Ev.step (f := fun k => (impl_RestSand.f k (e.length : Int)).bind fun bt1349 => ((impl_RepeatSand.f k e (wrap64 ((m : Int) + 1))).bind fun bt1353 => ((impl_AddSand.f k (SandT.rep e m) e).bind fun bt1357 => ((impl_AddSand.f k e bt1349.1).bind fun bt1361 => (if bt1349.2 = true then (if bt1357.2 = true then (if bt1361.2 = true then (if bt1353.2 = true then ((laws_wSame.f k bt1353.1 bt1357.1).bind fun t1365 => (if t1365 = true then ((laws_wSame.f k bt1361.1 e).bind fun t1366 => (laws_FnSandIsAGroup.j3 k a b (addV a b).1 (addV a b).2 e bt1349.1 (!t1366))) else (laws_FnSandIsAGroup.j3 k a b (addV a b).1 (addV a b).2 e bt1349.1 true))) else ((laws_wSame.f k bt1361.1 e).bind fun t1367 => (laws_FnSandIsAGroup.j3 k a b (addV a b).1 (addV a b).2 e bt1349.1 (!t1367)))) else (laws_FnSandIsAGroup.j3 k a b (addV a b).1 (addV a b).2 e bt1349.1 true)) else (laws_FnSandIsAGroup.j3 k a b (addV a b).1 (addV a b).2 e bt1349.1 true)) else (laws_FnSandIsAGroup.j3 k a b (addV a b).1 (addV a b).2 e bt1349.1 true)))))) (fun k => by rw [laws_FnSandIsAGroup.j2, if_pos rfl]) ?_
    have er : restV (e.length : Int) = (restL e.length, true) := by rw [restV, if_pos ⟨by omega, by omega⟩, Int.toNat_natCast]
    have et : addV e (restL e.length) = (e, true) := by
      rw [g_rest, g_add h1 (g_top hl) (by rw [SandT.length_top]), SandT.neutral ((g_rec _).1 h2) (sandB_nn h1)]
    refine Ev.bind (impl_RestSand_ev _) ?_
    rw [wrap_id (x := (m : Int) + 1) (by omega) (by omega)]
    refine Ev.bind (impl_RepeatSand_ev e _) ?_
    refine Ev.bind (impl_AddSand_ev _ _) ?_
    rw [er]
    refine Ev.bind (impl_AddSand_ev _ _) ?_
    rw [et, g_add hsr h1 (SandT.length_rep e m)]
    simp only [if_true]
    by_cases hn : repB e ((m : Int) + 1) = true
    · have ev2 : repV e ((m : Int) + 1) = (SandT.rep e (m + 1), true) := by rw [repV, if_pos hn, show ((m : Int) + 1).toNat = m + 1 by omega, g_rest, g_rep]
      rw [ev2]
      simp only [if_true]
      refine Ev.bind (laws_wSame_ev _ _ (by rw [SandT.length_rep]; omega)) ?_
      rw [decide_eq_true (show SandT.rep e (m + 1) = (SandT.stab (SandT.plus (SandT.rep e m) e)).1 from rfl)]
      simp only [if_true]
      refine Ev.bind (laws_wSame_ev _ _ (by omega)) ?_
      simp only [decide_true, Bool.not_true]
      exact group_j3 a b ha hb h1 h2
    · have ev2 : repV e ((m : Int) + 1) = ([], false) := by rw [repV, if_neg hn]
      rw [ev2]
      simp only [Bool.false_eq_true, if_false]
      refine Ev.bind (laws_wSame_ev _ _ (by omega)) ?_
      simp only [decide_true, Bool.not_true]
      exact group_j3 a b ha hb h1 h2
  · have ev : repV e n = ([], false) := by rw [repV, if_neg hr]
    rw [ev]
    exact Ev.one (group_j4 a b ha hb) fun k => by rw [laws_FnSandIsAGroup.j2, if_neg (by simp)]
theorem group_j1 (a b : List Int) (ha : a.length ≤ 10) (hb : b.length ≤ 10) (e : List Int) (n m : Int) : Ev (fun k => laws_FnSandIsAGroup.j1 k a b (addV a b).1 (addV a b).2 e n (repV e n).1 (repV e n).2 (restV m).1 (restV m).2 false) true := by
  by_cases hm : 0 ≤ m ∧ m ≤ 8
  · have er : restV m = (restL m.toNat, true) := by rw [restV, if_pos hm]
    have hn : m.toNat ≤ 8 := by omega
    rw [er]
    refine Ev.step (f := fun k => (impl_IsRecurrent.f k (restL m.toNat)).bind fun bt1342 => ((impl_AddSand.f k (restL m.toNat) (restL m.toNat)).bind fun bt1344 => (if bt1342.2 = true then (if bt1344.2 = true then (if bt1342.1 = true then ((laws_wSame.f k bt1344.1 (restL m.toNat)).bind fun t1348 => (if t1348 = true then (laws_FnSandIsAGroup.j2 k a b (addV a b).1 (addV a b).2 e n (repV e n).1 (repV e n).2) else (some false))) else (some false)) else (some false)) else (some false)))) (fun k => by rw [laws_FnSandIsAGroup.j1, if_neg (by simp), if_pos rfl]) ?_
    have e1 : recV (restL m.toNat) = (true, true) := by
      rw [g_rest, recV, if_pos (g_top hn), (g_rec _).2 (SandT.top_rec _)]
    refine Ev.bind (impl_IsRecurrent_ev _) ?_
    refine Ev.bind (impl_AddSand_ev _ _) ?_
    rw [e1, g_top_add _ hn]
    simp only [if_true]
    refine Ev.bind (laws_wSame_ev _ _ (by rw [restL_len]; omega)) ?_
    simp only [decide_true, if_true]
    exact group_j2 a b ha hb e n
  · have er : restV m = ([], false) := by rw [restV, if_neg hm]
    rw [er]
    exact Ev.one (group_j2 a b ha hb e n) fun k => by rw [laws_FnSandIsAGroup.j1, if_neg (by simp), if_neg (by simp)]
theorem group_j0 {l1 : List Int} (h1 : Bytes l1) (a b : List Int) (ha : a.length ≤ 10) (hb : b.length ≤ 10) : Ev (fun k => laws_FnSandIsAGroup.j0 k l1 a b (addV a b).1 (addV a b).2 false) true := by
  obtain ⟨e, n, hd, he⟩ := DrawRepeatSand_ok h1
  obtain ⟨m, hm⟩ := DrawRestSand_ok h1
  have hl := repV_len e n
  have hl2 := restV_len m
  refine Ev.step (f := fun k => (spec_DrawRepeatSand.f k l1).bind fun bt1319 => ((impl_RepeatSand.f k bt1319.1 bt1319.2).bind fun bt1323 => ((spec_RepeatSand.f k bt1319.1 bt1319.2).bind fun bt1327 => ((spec_DrawRestSand.f l1).bind fun t1331 => ((impl_RestSand.f k t1331).bind fun bt1332 => ((spec_RestSand.f k t1331).bind fun bt1336 => (if (bt1323.2 != bt1327.2) = true then (laws_FnSandIsAGroup.j1 k a b (addV a b).1 (addV a b).2 bt1319.1 bt1319.2 bt1323.1 bt1323.2 bt1332.1 bt1332.2 true) else ((laws_wSame.f k bt1323.1 bt1327.1).bind fun t1340 => (if t1340 = true then (if (bt1332.2 != bt1336.2) = true then (laws_FnSandIsAGroup.j1 k a b (addV a b).1 (addV a b).2 bt1319.1 bt1319.2 bt1323.1 bt1323.2 bt1332.1 bt1332.2 true) else ((laws_wSame.f k bt1332.1 bt1336.1).bind fun t1341 => (laws_FnSandIsAGroup.j1 k a b (addV a b).1 (addV a b).2 bt1319.1 bt1319.2 bt1323.1 bt1323.2 bt1332.1 bt1332.2 (!t1341)))) else (laws_FnSandIsAGroup.j1 k a b (addV a b).1 (addV a b).2 bt1319.1 bt1319.2 bt1323.1 bt1323.2 bt1332.1 bt1332.2 true)))))))))) (fun k => by rw [laws_FnSandIsAGroup.j0, if_neg (by simp)]) ?_
  refine Ev.bind hd ?_
  refine Ev.bind (impl_RepeatSand_ev e n) ?_
  refine Ev.bind (spec_RepeatSand_ev e (by omega) n) ?_
  simp only [hm, Option.bind_some]
  refine Ev.bind (impl_RestSand_ev m) ?_
  refine Ev.bind (spec_RestSand_ev m) ?_
  simp only [bne_self_eq_false, Bool.false_eq_true, if_false]
  refine Ev.bind (laws_wSame_ev _ _ (by omega)) ?_
  simp only [decide_true, if_true]
  refine Ev.bind (laws_wSame_ev _ _ (by omega)) ?_
  simp only [decide_true, Bool.not_true]
  exact group_j1 a b ha hb e n m
end Go.Proofs.Ytainmahlhhcklaa.G
namespace Go.Proofs.Ytainmahlhhcklaa.Pure
open Go.RowKit Go.Proofs.Ytainmahlhhcklaa.G Go.Proofs.YtainmahlhhcklaaW.PrintWords Go.Proofs.YtainmahlhhcklaaW.PrintLast
set_option linter.unusedVariables false
set_option linter.unusedSimpArgs false
theorem FnSandIsAGroup : laws_FnSandIsAGroup.Pure := by
  intro l0 l1 _ _ hw0 _ _ hw1
  refine Ev.rounds ?_
  have b0 := bytes_of hw0
  have b1 := bytes_of hw1
  obtain ⟨r, hr⟩ := big_eq l0 l1
  unfold laws_FnSandIsAGroup.f
  simp only [hr, Option.bind_some]
  cases r with
  | true => simp only [if_true]; exact Ev.now _
  | false =>
    simp only [Bool.false_eq_true, if_false]
    obtain ⟨a, b, ht, ha, hb⟩ := DrawAddSand_ok b0
    have hv := addV_len a b
    refine Ev.bind ht ?_
    refine Ev.bind (impl_AddSand_ev a b) ?_
    refine Ev.bind (spec_AddSand_ev a b (by omega) (by omega)) ?_
    simp only [bne_self_eq_false, Bool.false_eq_true, if_false]
    refine Ev.bind (laws_wSame_ev _ _ (by omega)) ?_
    simp only [decide_true, Bool.not_true]
    exact group_j0 b1 a b ha hb
end Go.Proofs.Ytainmahlhhcklaa.Pure
namespace Go.Proofs.Ytainmahlhhcklaa.Big
open Go
theorem wordsSigns_split : ∀ (a r : List Char), wordsSigns (a ++ Char.ofNat 32 :: r) = wordsSigns a ++ wordsSigns r
  | [], r => rfl
  | c :: a, r => by
    have ih := wordsSigns_split a r
    by_cases h : c = Char.ofNat 32
    · subst h
      show [] :: wordsSigns (a ++ Char.ofNat 32 :: r) = ([] :: wordsSigns a) ++ wordsSigns r
      rw [ih]; rfl
    · have e : ∀ l, wordsSigns (c :: l) = match wordsSigns l with
        | w :: ws => (c :: w) :: ws
        | [] => [[c]] := by
        intro l
        rw [wordsSigns]
        all_goals first | rfl | exact h | (intro h'; exact h h')
      rw [List.cons_append, e, e, ih]
      cases hw : wordsSigns a with
      | nil =>
        exfalso
        cases a with
        | nil => simp [wordsSigns] at hw
        | cons x a =>
          unfold wordsSigns at hw
          split at hw
          · simp at *
          · simp at *
          · split at hw <;> simp at hw
      | cons w ws => rfl
theorem stripLifts_cut (R : List (List Char)) : stripLifts liftWords ("cut".toList :: R) = ([], "cut".toList :: R) := by rfl
theorem behind_harness (s : List Char) (R : List (List Char)) (hs : isSumSigns s = true) : behindMainWord ("harness".toList :: s :: R) = R := by
  show (if (("harness".toList == "harness".toList || "harness".toList == "ownmain".toList) && isSumSigns s) = true then R else "harness".toList :: s :: R) = R
  rw [hs]; rfl
theorem mayEnter_of (P : Program) (s : List Char) (R : List (List Char)) (h : wordsSigns P.initOrder.toList = "harness".toList :: s :: "cut".toList :: R) (hs : isSumSigns s = true) (h1 : P.laysLater = false) (h2 : P.bearsReflect = false) (h3 : P.doorFits [] = true) : P.mayEnter = true := by
  unfold Program.mayEnter
  rw [h, behind_harness _ _ hs]
  simp only [stripLifts_cut, h1, h2, h3]
  rfl
theorem liftsFinal_of (P : Program) (s : List Char) (R : List (List Char)) (h : wordsSigns P.initOrder.toList = "harness".toList :: s :: "cut".toList :: R) (hs : isSumSigns s = true) : P.liftsFinal = false := by
  unfold Program.liftsFinal Program.headLifts
  rw [h, behind_harness _ _ hs]
  simp only [stripLifts_cut]
  rfl
theorem make_of (P : Program) (s : List Char) (R : List (List Char)) (h : wordsSigns P.initOrder.toList = "harness".toList :: s :: "cut".toList :: R) (hs : isSumSigns s = true) : P.make = some .cut := by
  unfold Program.make
  rw [h, behind_harness _ _ hs]
  rfl
set_option maxRecDepth 1000000 in
def L : { l : List Char // Try.prog.initOrder = String.ofList l } := ⟨_, rfl⟩
theorem ioList : Try.prog.initOrder.toList = L.1 := (congrArg String.toList L.2).trans String.toList_ofList
set_option maxRecDepth 1000000 in
theorem ioHead : ∃ s R, wordsSigns Try.prog.initOrder.toList = "harness".toList :: s :: "cut".toList :: R ∧ isSumSigns s = true := by
  have e : L.1 = L.1.take 76 ++ Char.ofNat 32 :: L.1.drop 77 := by kernel_rfl
  refine ⟨(L.1.take 72).drop 8, wordsSigns (L.1.drop 77), ?_, by kernel_rfl⟩
  rw [ioList]
  refine (congrArg wordsSigns e).trans ((wordsSigns_split _ _).trans ?_)
  have e2 : wordsSigns (L.1.take 76) = "harness".toList :: (L.1.take 72).drop 8 :: "cut".toList :: [] := by kernel_rfl
  rw [e2]; rfl
theorem may : Try.prog.mayEnter = true := by
  obtain ⟨s, R, h, hs⟩ := ioHead
  exact mayEnter_of _ s R h hs (by kernel_rfl) (by kernel_rfl) (by kernel_rfl)
theorem lifts : Try.prog.liftsFinal = false := by
  obtain ⟨s, R, h, hs⟩ := ioHead
  exact liftsFinal_of _ s R h hs
theorem make : Try.prog.make = some .cut := by
  obtain ⟨s, R, h, hs⟩ := ioHead
  exact make_of _ s R h hs
end Go.Proofs.Ytainmahlhhcklaa.Big
namespace Go.Proofs.YtainmahlhhcklaaW.PrintWords
open Go.ChangeShapes Go.WideShapes
theorem sized_ints {H : Type} {enc : TypeId × Value → H} {P : Program} {W : World} {base : Nat} {spare : Nat → Bool} {held : Bool} {t e : TypeId} {k : IntKind} {a : Option Addr} {len cap : Nat} {d : DataW H} {ps : List MemPlace} {ts : List TypeId} {ds : List (DataW H)} {j : Nat}
    (hsz : (DataW.weightsEach P ts ds).all (· ≤ reachBytes) = true) (ht : ts[j]? = some t) (hd : ds[j]? = some d) (hu : P.underlying t = some (.slice e)) (he : P.underlying e = some (.int k)) (hc : P.cellsOf e = 1) {B : Nat} (hB : P.bytesOf e = B)
    (h : DataW.Trod enc P W base spare held t (.slice a len cap) d ps) : len * B ≤ 140737488351232 := by
  obtain ⟨fuel, hf⟩ := h
  rcases open_ints hu he hc hf with ⟨hcs, _⟩ | ⟨x, l, c, zs, hcs, _, hl, _, hz, hx, _, _⟩
  · simp [Value.cells] at hcs
    obtain ⟨rfl, rfl, rfl⟩ := hcs
    simp
  · simp [Value.cells] at hcs
    obtain ⟨rfl, rfl, rfl⟩ := hcs
    obtain ⟨hx, _⟩ := Prod.mk.inj hx
    subst hx
    have z := sized_slice hsz ht hd hu
    rw [hB] at z
    have hl2 : len ≤ zs.length := by
      rw [hz]
      split
      · exact hl
      · exact Nat.le_refl _
    have h1 : (lits (H := H) k (zs.take len)).length + (lits (H := H) k (zs.drop len)).length = zs.length := by
      simp [lits]
      omega
    rw [h1] at z
    exact Nat.le_trans (Nat.mul_le_mul_right _ hl2) z
end Go.Proofs.YtainmahlhhcklaaW.PrintWords
namespace Go.Proofs.Ytainmahlhhcklaa.fnSandIsAGroup
open Go.ChangeShapes Go.WideShapes Go.ChangeAt Go.RowKit
open Go.ChangeMaps (open_string shut_string)
set_option linter.unusedVariables false
theorem own : ownKnob Try.prog.godebug = none := by kernel_rfl
theorem laidOut : laidOutB Try.prog = true := by kernel_rfl
def IsRow (k : IntKind) (w : World) (a : Option Addr) (len cap : Nat) (zs : List Int) : Prop :=
  (a = none ∧ len = 0 ∧ cap = 0 ∧ zs = []) ∨
  ∃ x, a = some x ∧ len ≤ cap ∧ cap ≤ maxLen ∧ zs.length = cap ∧ (∀ i, i < zs.length → w.cell? (x.add i) = some (.int k (zs.getD i 0))) ∧ ∀ n ∈ zs, (Lit.int k n).wf = true
set_option maxRecDepth 100000 in
theorem lifted (os : Os) (started : os.Started) (H : Type) (enc : TypeId × Value → H) :
    ReturnsInHanded {} Try.checked os 19 .any (Rows.fnSandIsAGroupSpec.pre6 enc Try.prog Try.f19 Rows.fnSandIsAGroupRow.domain false) (Rows.fnSandIsAGroupSpec.post enc Try.prog Try.f19 false true false false) := by
  refine returnsInHanded_of_change_sized (C := Try.checked) own started (by kernel_rfl) Try.func19
    (ChangeSpec.witness6 (enc := enc) (C := Try.checked) false ⟨#[], #[.slice none 0 0, .slice none 0 0], []⟩ 8 (by kernel_rfl) (by kernel_rfl) (by kernel_rfl) (by kernel_rfl)) ?_
  intro W base args ds gs before hval0 hW hcnd hsz0 _
  have hsz : (DataW.weightsEach Try.prog (Try.f19.params.toList ++ Rows.fnSandIsAGroupSpec.plain.varTypes Try.prog) (ds ++ gs)).all (· ≤ reachBytes) = true := hsz0
  have hval : ∀ (j : Nat) t v, Try.f19.params[j]? = some t → args[j]? = some v → Value.okWide Try.prog W .any base t v := hval0
  have hW' := hW
  obtain ⟨p, q, hA0, hV, rfl, hfz, hnd⟩ := hW
  have hA : DataW.TrodAll enc Try.prog W 0 (fun _ => true) true Try.f19.params.toList args.toList ds p := hA0
  rw [Try.params19] at hA hval hsz
  obtain ⟨v0, vs0, d0, ds0, p0, q0, hargs, rfl, rfl, h0, r0⟩ := trodAll_cons hA
  obtain ⟨v1, vs1, d1, ds1, p1, q1, rfl, rfl, rfl, h1, r1⟩ := trodAll_cons r0
  obtain ⟨rfl, rfl, rfl⟩ := trodAll_nil r1
  obtain rfl : args = #[v0, v1] := by cases args; simp_all
  obtain ⟨rfl, rfl⟩ := trodVars_none hV
  obtain ⟨a0, len0, cap0, rfl⟩ := okWide_slice Try.underlying46 (hval 0 46 v0 rfl rfl)
  have k0 := h0
  have lt0 : ∀ x ∈ p0, x.block < W.heap.size := by obtain ⟨m, hm⟩ := k0; exact DataW.trod_lt m _ _ _ hm
  obtain ⟨z0, w0⟩ : ∃ zs, IsRow .u8 W a0 len0 cap0 zs := by
    obtain ⟨fuel, hf⟩ := h0
    rcases open_ints Try.underlying46 Try.underlying5 (by kernel_rfl) hf with ⟨hcs, _⟩ | ⟨x, l, c, zs, hcs, _, hl, hm, hz, _, hcell, hwz⟩
    · simp [Value.cells] at hcs
      obtain ⟨rfl, rfl, rfl⟩ := hcs
      exact ⟨[], .inl ⟨rfl, rfl, rfl, rfl⟩⟩
    · simp [Value.cells] at hcs
      obtain ⟨rfl, rfl, rfl⟩ := hcs
      exact ⟨zs, .inr ⟨_, rfl, hl, hm, by simpa using hz, hcell, hwz⟩⟩
  have y0 : len0 * 1 ≤ 140737488351232 := Go.Proofs.YtainmahlhhcklaaW.PrintWords.sized_ints hsz (j := 0) (t := 46) rfl rfl Try.underlying46 Try.underlying5 (by kernel_rfl) (by kernel_rfl) h0
  obtain ⟨a1, len1, cap1, rfl⟩ := okWide_slice Try.underlying46 (hval 1 46 v1 rfl rfl)
  have k1 := h1
  have lt1 : ∀ x ∈ p1, x.block < W.heap.size := by obtain ⟨m, hm⟩ := k1; exact DataW.trod_lt m _ _ _ hm
  obtain ⟨z1, w1⟩ : ∃ zs, IsRow .u8 W a1 len1 cap1 zs := by
    obtain ⟨fuel, hf⟩ := h1
    rcases open_ints Try.underlying46 Try.underlying5 (by kernel_rfl) hf with ⟨hcs, _⟩ | ⟨x, l, c, zs, hcs, _, hl, hm, hz, _, hcell, hwz⟩
    · simp [Value.cells] at hcs
      obtain ⟨rfl, rfl, rfl⟩ := hcs
      exact ⟨[], .inl ⟨rfl, rfl, rfl, rfl⟩⟩
    · simp [Value.cells] at hcs
      obtain ⟨rfl, rfl, rfl⟩ := hcs
      exact ⟨zs, .inr ⟨_, rfl, hl, hm, by simpa using hz, hcell, hwz⟩⟩
  have y1 : len1 * 1 ≤ 140737488351232 := Go.Proofs.YtainmahlhhcklaaW.PrintWords.sized_ints hsz (j := 1) (t := 46) rfl rfl Try.underlying46 Try.underlying5 (by kernel_rfl) (by kernel_rfl) h1
  clear hA0 hval0 hsz0 hsz
  refine (G.laws_FnSandIsAGroup.walk Pure.FnSandIsAGroup a0 len0 cap0 z0 a1 len1 cap1 z1 W w0 y0 w1 y1).mono fun e W' ⟨he, bel⟩ => ?_
  subst he
  exact ⟨_, rfl, _, _, _, [], _, [], hW', trodAll_mk1 (shut_bool Try.underlying4 _), (trodAll_cons_mk (Below.trod laidOut (by kernel_rfl) (of_decide_eq_true (by kernel_rfl)) k0 bel lt0) (trodAll_cons_mk (Below.trod laidOut (by kernel_rfl) (of_decide_eq_true (by kernel_rfl)) k1 bel lt1) trodAll_mk0)), rfl, bel.frame _, fun h => by cases h⟩
theorem over : Rows.fnSandIsAGroupRow.holds Try.pinned (OpenSpec.ofChange Rows.fnSandIsAGroupSpec) :=
  OpenClaim.holds_of_wide 19 Try.f19 rfl rfl rfl rfl rfl rfl rfl ⟨rfl, rfl, rfl, rfl, rfl⟩ rfl rfl rfl rfl rfl (by kernel_rfl) Try.func19 (by show joinedFacts Try.prog _ _ _ _ = true; unfold joinedFacts; rw [Big.may, Big.lifts, Big.make]; kernel_rfl)
    (of_decide_eq_true (by kernel_rfl)) (by unfold Func.isWrapper; first | (rw [if_pos (by decide +kernel)]; kernel_rfl) | (rw [if_neg (by decide +kernel)]; exact ⟨rfl, rfl⟩))
    (fun os started H enc _ => lifted os started H enc)
theorem proved : Rows.FnSandIsAGroupSaid := over
#print axioms proved
end Go.Proofs.Ytainmahlhhcklaa.fnSandIsAGroup
namespace Go.Proofs.Ytainmahlhhcklaa
/-- The row, under a short name, for the claim. -/
theorem fnSandIsAGroup_holds : Rows.FnSandIsAGroupSaid := fnSandIsAGroup.proved
end Go.Proofs.Ytainmahlhhcklaa
