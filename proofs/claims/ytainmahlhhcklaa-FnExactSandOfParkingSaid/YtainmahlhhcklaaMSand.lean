/- The abelian property of toppling on a complete graph with a sink, in lists of whole numbers: plain Lean. -/
namespace SandT

theorem length_le_of_count_le : ∀ (l1 l2 : List Nat), (∀ a, l1.count a ≤ l2.count a) → l1.length ≤ l2.length
  | [], _, _ => by simp
  | a :: l1, l2, h => by
    have h1 : 0 < l2.count a := by have := h a; simp at this; omega
    have hm : a ∈ l2 := List.count_pos_iff.1 h1
    have := length_le_of_count_le l1 (l2.erase a) (fun b => by
      have hb := h b
      rw [List.count_cons] at hb
      rw [List.count_erase]
      by_cases e : a = b
      · subst e; simp at hb ⊢; omega
      · have e1 : (a == b) = false := by simpa using e
        simp [e1] at hb ⊢; omega)
    rw [List.length_erase_of_mem hm] at this
    have hp := List.length_pos_of_mem hm
    simp only [List.length_cons]
    omega

/-- Node i topples. -/
def topl (c : List Int) (i : Nat) : List Int := (c.map (· + 1)).set i (c.getD i 0 - c.length)
@[simp] theorem length_topl (c : List Int) (i : Nat) : (topl c i).length = c.length := by simp [topl]
theorem get_topl (c : List Int) (i j : Nat) (hj : j < c.length) : (topl c i).getD j 0 = if j = i then c.getD j 0 - c.length else c.getD j 0 + 1 := by
  unfold topl
  simp only [List.getD_eq_getElem?_getD, List.getElem?_set, List.getElem?_map, List.length_map]
  by_cases e : i = j
  · subst e; simp [hj]
  · simp only [e, if_false, Ne.symm e]
    rw [List.getElem?_eq_getElem hj]; simp
def run : List Int → List Nat → List Int
  | c, [] => c
  | c, i :: s => run (topl c i) s
@[simp] theorem length_run : ∀ (s : List Nat) (c : List Int), (run c s).length = c.length
  | [], _ => rfl
  | i :: s, c => by simp [run, length_run s]
theorem run_append : ∀ (s t : List Nat) (c : List Int), run c (s ++ t) = run (run c s) t
  | [], _, _ => rfl
  | i :: s, t, c => by simp [run, run_append s t]
theorem get_run : ∀ (s : List Nat) (c : List Int) (j : Nat), j < c.length → (run c s).getD j 0 = c.getD j 0 + s.length - (c.length + 1) * (s.count j : Int)
  | [], c, j, hj => by simp [run]
  | i :: s, c, j, hj => by
    rw [run, get_run s (topl c i) j (by simpa using hj), get_topl c i j hj, length_topl, List.count_cons, List.length_cons]
    by_cases e : j = i
    · subst e
      simp only [if_true, beq_self_eq_true]
      push_cast
      rw [Int.mul_add]
      omega
    · have e1 : (i == j) = false := by simpa using (Ne.symm e)
      simp only [e, if_false, e1, Bool.false_eq_true]
      push_cast
      simp
      omega
/-- Each toppling is of a node that may topple. -/
def Legal : List Int → List Nat → Prop
  | _, [] => True
  | c, i :: s => i < c.length ∧ (c.length : Int) ≤ c.getD i 0 ∧ Legal (topl c i) s
theorem legal_append : ∀ (s t : List Nat) (c : List Int), Legal c (s ++ t) ↔ Legal c s ∧ Legal (run c s) t
  | [], _, _ => by simp [Legal, run]
  | i :: s, t, c => by simp [Legal, run, legal_append s t, and_assoc]
def Stable (c : List Int) : Prop := ∀ j, j < c.length → c.getD j 0 < c.length
theorem legal_lt : ∀ (s : List Nat) (c : List Int), Legal c s → ∀ i ∈ s, i < c.length
  | [], _, _, i, h => by simp at h
  | k :: s, c, h, i, hi => by
    rcases List.mem_cons.1 hi with rfl | hi
    · exact h.1
    · simpa using legal_lt s _ h.2.2 i hi
/-- What is legal topples no node more often than what leads to stable sand. -/
theorem least (c : List Int) (t : List Nat) (ht : Stable (run c t)) : ∀ (s : List Nat), Legal c s → ∀ j, s.count j ≤ t.count j := by
  have key : ∀ (r s : List Nat), s = r.reverse → Legal c s → ∀ j, s.count j ≤ t.count j := by
    intro r
    induction r with
    | nil => intro s hs _ j; subst hs; simp
    | cons i r ih =>
      intro s hs hl j
      have hs' : s = r.reverse ++ [i] := by simpa using hs
      subst hs'
      rw [legal_append] at hl
      have h1 := ih r.reverse rfl hl.1
      rw [List.count_append]
      by_cases e : j = i
      · subst e
        have hlen := length_le_of_count_le _ _ h1
        have hj : j < c.length := by have := hl.2.1; simpa using this
        have hv := hl.2.2.1
        rw [length_run, get_run _ _ _ hj] at hv
        have hst := ht j (by simpa using hj)
        rw [length_run, get_run _ _ _ hj] at hst
        have h1j := h1 j
        simp only [List.count_cons_self, List.count_nil]
        rcases Nat.lt_or_ge (r.reverse.count j) (t.count j) with hlt | hge
        · omega
        · have heq : r.reverse.count j = t.count j := by omega
          rw [heq] at hv
          have : (r.reverse.length : Int) ≤ t.length := by omega
          omega
      · have e1 : (i == j) = false := by simpa using (Ne.symm e)
        have : [i].count j = 0 := by simp [List.count_cons, e1]
        have := h1 j
        omega
  intro s
  exact key s.reverse s (by simp)
theorem ext_getD {a b : List Int} (hl : a.length = b.length) (h : ∀ j, j < a.length → a.getD j 0 = b.getD j 0) : a = b := by
  apply List.ext_getElem hl
  intro i h1 h2
  have := h i h1
  rw [List.getD_eq_getElem?_getD, List.getD_eq_getElem?_getD, List.getElem?_eq_getElem h1, List.getElem?_eq_getElem h2] at this
  simpa using this
/-- Toppling ends alike in any order, each node as often. -/
theorem abelian {c : List Int} {s t : List Nat} (hs : Legal c s) (ht : Legal c t) (hs' : Stable (run c s)) (ht' : Stable (run c t)) : (∀ j, s.count j = t.count j) ∧ s.length = t.length ∧ run c s = run c t := by
  have h1 : ∀ j, s.count j = t.count j := fun j => Nat.le_antisymm (least c t ht' s hs j) (least c s hs' t ht j)
  have h2 : s.length = t.length := Nat.le_antisymm (length_le_of_count_le _ _ fun a => Nat.le_of_eq (h1 a)) (length_le_of_count_le _ _ fun a => Nat.le_of_eq (h1 a).symm)
  refine ⟨h1, h2, ext_getD (by simp) fun j hj => ?_⟩
  have hj' : j < c.length := by simpa using hj
  rw [get_run _ _ _ hj', get_run _ _ _ hj', h1 j, h2]
/-- The sum of two lists as long as the first one. -/
def plus (a b : List Int) : List Int := a.mapIdx fun i x => x + b.getD i 0
@[simp] theorem length_plus (a b : List Int) : (plus a b).length = a.length := by simp [plus]
theorem get_plus (a b : List Int) (j : Nat) (hj : j < a.length) : (plus a b).getD j 0 = a.getD j 0 + b.getD j 0 := by
  simp [plus, List.getD_eq_getElem?_getD, List.getElem?_mapIdx, List.getElem?_eq_getElem hj]
theorem plus_topl (a b : List Int) (i : Nat) : plus (topl a i) b = topl (plus a b) i := by
  apply ext_getD (by simp)
  intro j hj
  have hj' : j < a.length := by simpa using hj
  rw [get_plus _ _ _ (by simpa using hj'), get_topl _ _ _ hj', get_topl _ _ _ (by simpa using hj'), get_plus _ _ _ hj', length_plus]
  split <;> omega
theorem plus_run : ∀ (s : List Nat) (a b : List Int), plus (run a s) b = run (plus a b) s
  | [], _, _ => rfl
  | i :: s, a, b => by rw [run, run, plus_run s, plus_topl]
theorem legal_plus (b : List Int) (hb : ∀ j, 0 ≤ b.getD j 0) : ∀ (s : List Nat) (a : List Int), Legal a s → Legal (plus a b) s
  | [], _, _ => trivial
  | i :: s, a, h => by
    refine ⟨by simpa using h.1, ?_, ?_⟩
    · rw [length_plus, get_plus _ _ _ h.1]; have := hb i; have := h.2.1; omega
    · rw [← plus_topl]; exact legal_plus b hb s _ h.2.2
theorem plus_comm {a b : List Int} (h : a.length = b.length) : plus a b = plus b a := by
  apply ext_getD (by simpa using h)
  intro j hj
  have hj' : j < a.length := by simpa using hj
  rw [get_plus _ _ _ hj', get_plus _ _ _ (by omega)]; omega
theorem plus_assoc {a b c : List Int} (h : a.length ≤ b.length) : plus (plus a b) c = plus a (plus b c) := by
  apply ext_getD (by simp)
  intro j hj
  have hj' : j < a.length := by simpa using hj
  rw [get_plus _ _ _ (by simpa using hj'), get_plus _ _ _ hj', get_plus _ _ _ hj', get_plus _ _ _ (by omega)]; omega

/-! ### Settling: always the least node that can topple -/
def first (c : List Int) : Option Nat := c.findIdx? fun x => decide ((c.length : Int) ≤ x)
theorem first_some {c : List Int} {i : Nat} (h : first c = some i) : i < c.length ∧ (c.length : Int) ≤ c.getD i 0 := by
  unfold first at h
  rw [List.findIdx?_eq_some_iff_getElem] at h
  obtain ⟨h1, h2, _⟩ := h
  refine ⟨h1, ?_⟩
  rw [List.getD_eq_getElem?_getD, List.getElem?_eq_getElem h1]
  simpa using h2
theorem first_none {c : List Int} (h : first c = none) : Stable c := by
  unfold first at h
  rw [List.findIdx?_eq_none_iff] at h
  intro j hj
  have := h c[j] (List.getElem_mem hj)
  rw [List.getD_eq_getElem?_getD, List.getElem?_eq_getElem hj]
  simpa using this
theorem first_of_stable {c : List Int} (h : Stable c) : first c = none := by
  cases e : first c with
  | none => rfl
  | some i => have := first_some e; have := h i this.1; omega
def settle : Nat → List Int → List Int × List Nat
  | 0, c => (c, [])
  | k + 1, c => match first c with
    | none => (c, [])
    | some i => ((settle k (topl c i)).1, i :: (settle k (topl c i)).2)
theorem settle_run : ∀ (k : Nat) (c : List Int), (settle k c).1 = run c (settle k c).2 ∧ Legal c (settle k c).2
  | 0, c => ⟨rfl, trivial⟩
  | k + 1, c => by
    unfold settle
    cases e : first c with
    | none => exact ⟨rfl, trivial⟩
    | some i => obtain ⟨h1, h2⟩ := settle_run k (topl c i); exact ⟨h1, (first_some e).1, (first_some e).2, h2⟩
theorem sum_map_one : ∀ (c : List Int), (c.map (· + 1)).sum = c.sum + c.length
  | [] => rfl
  | x :: c => by simp only [List.map_cons, List.sum_cons, sum_map_one c, List.length_cons]; push_cast; omega
theorem sum_set : ∀ (c : List Int) (i : Nat) (x : Int), i < c.length → (c.set i x).sum = c.sum - c.getD i 0 + x
  | [], i, x, h => by simp at h
  | y :: c, 0, x, h => by simp; omega
  | y :: c, i + 1, x, h => by simp only [List.set_cons_succ, List.sum_cons, sum_set c i x (by simpa using h), List.getD_cons_succ]; omega
theorem sum_topl (c : List Int) (i : Nat) (h : i < c.length) : (topl c i).sum = c.sum - 1 := by
  unfold topl
  rw [sum_set _ _ _ (by simpa using h), sum_map_one]
  rw [List.getD_eq_getElem?_getD, List.getD_eq_getElem?_getD, List.getElem?_map, List.getElem?_eq_getElem h]
  simp; omega
def Nonneg (c : List Int) : Prop := ∀ j, 0 ≤ c.getD j 0
theorem nn_topl {c : List Int} (h : Nonneg c) {i : Nat} (hi : (c.length : Int) ≤ c.getD i 0) : Nonneg (topl c i) := by
  intro j
  by_cases hj : j < c.length
  · rw [get_topl _ _ _ hj]; have := h j; split
    · subst_vars; omega
    · omega
  · rw [List.getD_eq_getElem?_getD, List.getElem?_eq_none (by simpa using hj)]; simp
theorem nn_sum : ∀ {c : List Int}, Nonneg c → 0 ≤ c.sum
  | [], _ => by simp
  | x :: c, h => by
    have h0 := h 0
    have := nn_sum (c := c) (fun j => by simpa using h (j + 1))
    simp at h0 ⊢; omega
theorem settle_stable : ∀ (k : Nat) (c : List Int), Nonneg c → c.sum < k → Stable (settle k c).1
  | 0, c, h, hk => by have := nn_sum h; omega
  | k + 1, c, h, hk => by
    unfold settle
    cases e : first c with
    | none => exact first_none e
    | some i =>
      have hi := first_some e
      exact settle_stable k _ (nn_topl h hi.2) (by rw [sum_topl _ _ hi.1]; omega)
/-- The stable sand, and the nodes in order. -/
def stab (c : List Int) : List Int × List Nat := settle (c.sum.toNat + 1) c
theorem stab_run (c : List Int) : (stab c).1 = run c (stab c).2 := (settle_run _ c).1
theorem stab_legal (c : List Int) : Legal c (stab c).2 := (settle_run _ c).2
theorem stab_stable {c : List Int} (h : Nonneg c) : Stable (stab c).1 := settle_stable _ c h (by have := nn_sum h; omega)
theorem settle_eq : ∀ (k k' : Nat) (c : List Int), Nonneg c → c.sum < k → c.sum < k' → settle k c = settle k' c
  | 0, _, c, h, hk, _ => by have := nn_sum h; omega
  | _, 0, c, h, _, hk => by have := nn_sum h; omega
  | k + 1, k' + 1, c, h, hk, hk' => by
    unfold settle
    cases e : first c with
    | none => rfl
    | some i =>
      have hi := first_some e
      have hs := sum_topl _ _ hi.1
      have := settle_eq k k' (topl c i) (nn_topl h hi.2) (by omega) (by omega)
      simp only [this]
theorem stab_step {c : List Int} (h : Nonneg c) {i : Nat} (e : first c = some i) : stab c = ((stab (topl c i)).1, i :: (stab (topl c i)).2) := by
  have hi := first_some e
  have hs := sum_topl _ _ hi.1
  have h0 := nn_sum h
  have h1 := nn_sum (nn_topl h hi.2)
  unfold stab
  rw [settle, e]
  simp only
  rw [settle_eq c.sum.toNat ((topl c i).sum.toNat + 1) (topl c i) (nn_topl h hi.2) (by omega) (by omega)]
theorem stab_end {c : List Int} (e : first c = none) : stab c = (c, []) := by unfold stab; rw [settle, e]
/-- What is stable and comes of c by legal topplings is what c settles in. -/
theorem stab_unique {c : List Int} (h : Nonneg c) {s : List Nat} (hl : Legal c s) (hs : Stable (run c s)) : (stab c).1 = run c s ∧ (stab c).2.length = s.length ∧ ∀ j, (stab c).2.count j = s.count j := by
  have hst := stab_stable h
  rw [stab_run] at hst ⊢
  obtain ⟨h1, h2, h3⟩ := abelian (stab_legal c) hl hst hs
  exact ⟨h3, h2, h1⟩
theorem stab_fix {c : List Int} (h : Stable c) : (stab c).1 = c := by rw [stab_end (first_of_stable h)]
theorem nn_run : ∀ {s : List Nat} {c : List Int}, Nonneg c → Legal c s → Nonneg (run c s)
  | [], _, h, _ => h
  | i :: s, c, h, hl => by
    rw [run]
    exact nn_run (nn_topl h hl.2.1) hl.2.2
theorem nn_stab {c : List Int} (h : Nonneg c) : Nonneg (stab c).1 := by rw [stab_run]; exact nn_run h (stab_legal c)
theorem nn_plus {a b : List Int} (ha : Nonneg a) (hb : Nonneg b) : Nonneg (plus a b) := by
  intro j
  by_cases hj : j < a.length
  · rw [get_plus _ _ _ hj]; have := ha j; have := hb j; omega
  · rw [List.getD_eq_getElem?_getD, List.getElem?_eq_none (by simpa using hj)]; simp
@[simp] theorem length_stab (c : List Int) : (stab c).1.length = c.length := by rw [stab_run]; simp
/-- Legal topplings first: it settles alike. -/
theorem stab_of_run {c : List Int} (h : Nonneg c) {s : List Nat} (hl : Legal c s) : (stab c).1 = (stab (run c s)).1 := by
  have hn := nn_run h hl
  have := stab_unique h (s := s ++ (stab (run c s)).2) ((legal_append _ _ _).2 ⟨hl, stab_legal _⟩) (by rw [run_append, ← stab_run]; exact stab_stable hn)
  rw [this.1, run_append, ← stab_run]
/-- Settling in between changes nothing. -/
theorem stab_plus {a b : List Int} (ha : Nonneg a) (hb : Nonneg b) : (stab (plus (stab a).1 b)).1 = (stab (plus a b)).1 := by
  rw [stab_run a, plus_run]
  exact (stab_of_run (nn_plus ha hb) (legal_plus b hb _ _ (stab_legal a))).symm

/-! ### Recurrent sand -/
def ones (n : Nat) : List Int := List.replicate n 1
theorem get_ones (n j : Nat) (h : j < n) : (ones n).getD j 0 = 1 := by
  simp [ones, List.getD_eq_getElem?_getD, h]
theorem nn_ones (n : Nat) : Nonneg (ones n) := by
  intro j
  unfold ones
  rw [List.getD_eq_getElem?_getD, List.getElem?_replicate]
  split <;> simp
/-- One grain more on each node. -/
def more (c : List Int) : List Int := plus c (ones c.length)
@[simp] theorem length_more (c : List Int) : (more c).length = c.length := by simp [more]
theorem get_more (c : List Int) (j : Nat) (h : j < c.length) : (more c).getD j 0 = c.getD j 0 + 1 := by rw [more, get_plus _ _ _ h, get_ones _ _ h]
theorem nn_more {c : List Int} (h : Nonneg c) : Nonneg (more c) := nn_plus h (nn_ones _)
theorem count_range (n j : Nat) : (List.range n).count j = if j < n then 1 else 0 := by
  rw [List.Nodup.count List.nodup_range]; simp
theorem run_range {c : List Int} : run (more c) (List.range c.length) = c := by
  apply ext_getD (by simp)
  intro j hj
  have hj' : j < c.length := by simpa using hj
  rw [get_run _ _ _ (by simpa using hj'), get_more _ _ hj', count_range, if_pos hj', length_more, List.length_range]
  push_cast
  omega
/-- No node topples twice. -/
theorem more_once {c : List Int} (hs : Stable c) (j : Nat) : (stab (more c)).2.count j ≤ 1 := by
  have := least (more c) (List.range c.length) (by rw [run_range]; exact hs) _ (stab_legal (more c)) j
  rw [count_range] at this
  split at this <;> omega
theorem sum_count (n : Nat) : ∀ (s : List Nat), (∀ i ∈ s, i < n) → s.length = ((List.range n).map fun j => s.count j).sum
  | [], _ => by
    simp only [List.count_nil, List.length_nil]
    induction n with
    | zero => rfl
    | succ n ih => rw [List.range_succ, List.map_append, List.sum_append, ← ih (fun i hi => by simp at hi)]; simp
  | i :: s, h => by
    have ih := sum_count n s (fun k hk => h k (by simp [hk]))
    have hi := h i (by simp)
    rw [List.length_cons, ih]
    clear ih
    have key : ∀ m, ((List.range m).map fun j => (i :: s).count j).sum = ((List.range m).map fun j => s.count j).sum + if i < m then 1 else 0 := by
      intro m
      induction m with
      | zero => simp
      | succ m ih =>
        rw [List.range_succ, List.map_append, List.map_append, List.sum_append, List.sum_append, ih]
        simp only [List.map_cons, List.map_nil, List.sum_cons, List.sum_nil, List.count_cons]
        by_cases e : i = m
        · subst e; simp; omega
        · have e1 : (i == m) = false := by simpa using e
          rw [e1]
          by_cases h1 : i < m
          · have h2 : i < m + 1 := by omega
            simp only [h1, h2, if_true, Bool.false_eq_true, if_false]; omega
          · have h2 : ¬ i < m + 1 := by omega
            simp only [h1, h2, Bool.false_eq_true, if_false]; omega
    rw [key n, if_pos hi]
/-- All that comes back has toppled just once. -/
theorem back_once {c : List Int} (h : (stab (more c)).1 = c) : (∀ j, j < c.length → (stab (more c)).2.count j = 1) ∧ (stab (more c)).2.length = c.length := by
  have hr := stab_run (more c)
  rw [h] at hr
  have hv : ∀ j, j < c.length → (c.length + 1) * ((stab (more c)).2.count j : Int) = 1 + (stab (more c)).2.length := by
    intro j hj
    have := get_run (stab (more c)).2 (more c) j (by simpa using hj)
    rw [← hr, get_more _ _ hj, length_more] at this
    omega
  have hsum := sum_count c.length (stab (more c)).2 (fun i hi => by have := legal_lt _ _ (stab_legal (more c)) i hi; simpa using this)
  rcases Nat.eq_zero_or_pos c.length with h0 | h0
  · refine ⟨fun j hj => by omega, ?_⟩
    rw [hsum, h0]; rfl
  · obtain ⟨m, hm⟩ : ∃ m, m = (stab (more c)).2.count 0 := ⟨_, rfl⟩
    have e0 := hv 0 h0
    rw [← hm] at e0
    have all : ∀ j, j < c.length → (stab (more c)).2.count j = m := by
      intro j hj
      have ej := hv j hj
      have : ((c.length : Int) + 1) * ((stab (more c)).2.count j : Int) = (c.length + 1) * (m : Int) := by omega
      have := Int.eq_of_mul_eq_mul_left (by omega) this
      omega
    have hlen : (stab (more c)).2.length = c.length * m := by
      rw [hsum]
      have : ∀ k, k ≤ c.length → ((List.range k).map fun j => (stab (more c)).2.count j).sum = k * m := by
        intro k
        induction k with
        | zero => intro _; simp
        | succ k ih => intro hk; rw [List.range_succ, List.map_append, List.sum_append, ih (by omega)]; simp [all k (by omega), Nat.add_mul]
      exact this _ (Nat.le_refl _)
    rw [hlen] at e0
    push_cast at e0
    rw [Int.add_mul] at e0
    have : m = 1 := by omega
    subst this
    exact ⟨all, by rw [hlen]; omega⟩
def Rec (c : List Int) : Prop := Stable c ∧ (stab (more c)).1 = c
def less (m : Int) (c : List Int) : Nat := (c.filter fun x => decide (x < m)).length
/-- Counting nodes by their places. -/
theorem less_places (m : Int) : ∀ (c : List Int), less m c = ((List.range c.length).filter fun j => decide (c.getD j 0 < m)).length
  | [] => rfl
  | x :: c => by
    have ih := less_places m c
    rw [List.length_cons, List.range_succ_eq_map, List.filter_cons, List.filter_map, less, List.filter_cons]
    have e : ((fun j => decide ((x :: c).getD j 0 < m)) ∘ Nat.succ) = fun j => decide (c.getD j 0 < m) := by funext j; simp
    rw [e]
    simp only [List.getD_cons_zero]
    unfold less at ih
    split
    · simp [ih]
    · simp [ih]
theorem length_filter_not {α : Type} (l : List α) (p : α → Bool) : (l.filter p).length + (l.filter fun x => !p x).length = l.length := by
  induction l with
  | nil => rfl
  | cons x l ih =>
    simp only [List.filter_cons, List.length_cons]
    cases p x <;> simp <;> omega
theorem nodup_count_one {l : List Nat} (h : ∀ j, l.count j ≤ 1) : l.Nodup := by
  rw [List.nodup_iff_count]; exact h
/-- DHAR's TEST, by numbers. -/
theorem rec_iff {c : List Int} (hs : Stable c) (hn : Nonneg c) : Rec c ↔ ∀ m : Nat, m ≤ c.length → less m c ≤ m := by
  constructor
  · rintro ⟨_, hb⟩ m hm
    obtain ⟨h1, h2⟩ := back_once hb
    -- the first of those nodes that topples
    rcases Nat.lt_or_ge m (less m c) with hv | hv
    · exfalso
      have hlegal := stab_legal (more c)
      have hlt : ∀ i ∈ (stab (more c)).2, i < c.length := fun i hi => by have := legal_lt _ _ hlegal i hi; simpa using this
      generalize hS : (stab (more c)).2 = s at *
      have hnd : s.Nodup := nodup_count_one (fun j => by
        rcases Nat.lt_or_ge j c.length with h | h
        · rw [h1 j h]; exact Nat.le_refl _
        · rw [List.count_eq_zero.2 (fun hj => by have := hlt j hj; omega)]; omega)
      -- split at the first element with c < m
      have : ∃ a i b, s = a ++ i :: b ∧ (∀ x ∈ a, ¬ c.getD x 0 < m) ∧ c.getD i 0 < m := by
        have hex : ∃ i ∈ s, c.getD i 0 < m := by
          have : 0 < less m c := by omega
          rw [less_places] at this
          obtain ⟨i, hi⟩ := List.exists_mem_of_length_pos this
          rw [List.mem_filter, List.mem_range] at hi
          refine ⟨i, ?_, by simpa using hi.2⟩
          have := h1 i hi.1
          exact List.count_pos_iff.1 (by omega)
        clear h1 h2 hlegal hlt hnd hS
        induction s with
        | nil => obtain ⟨i, hi, _⟩ := hex; simp at hi
        | cons x s ih =>
          by_cases hx : c.getD x 0 < m
          · exact ⟨[], x, s, rfl, fun y hy => by simp at hy, hx⟩
          · obtain ⟨i, hi, hic⟩ := hex
            rcases List.mem_cons.1 hi with rfl | hi
            · exact absurd hic hx
            · obtain ⟨a, k, b, e, ha, hk⟩ := ih ⟨i, hi, hic⟩
              exact ⟨x :: a, k, b, by rw [e]; rfl, (fun y hy => by
                rcases List.mem_cons.1 hy with rfl | hy
                · exact hx
                · exact ha y hy), hk⟩
      obtain ⟨a, i, b, rfl, ha, hi⟩ := this
      rw [legal_append] at hlegal
      have hil := hlt i (by simp)
      have hv2 := hlegal.2.2.1
      rw [length_run, get_run _ _ _ (by simpa using hil), get_more _ _ hil, length_more] at hv2
      have hcnt : a.count i = 0 := by
        rw [List.count_eq_zero]
        intro hmem
        exact ha i hmem hi
      rw [hcnt] at hv2
      -- a is made of other nodes
      have hle : a.length ≤ ((List.range c.length).filter fun j => !decide (c.getD j 0 < m)).length := by
        apply length_le_of_count_le
        intro x
        have hxa : a.count x ≤ 1 := by
          have := (List.nodup_iff_count.1 hnd) x
          rw [List.count_append] at this
          omega
        by_cases hm' : x ∈ a
        · have hx1 : x ∈ (List.range c.length).filter fun j => !decide (c.getD j 0 < m) := by
            rw [List.mem_filter, List.mem_range]
            exact ⟨hlt x (by simp [hm']), by simpa using ha x hm'⟩
          have := List.count_pos_iff.2 hx1
          omega
        · rw [List.count_eq_zero.2 hm']; omega
      have := length_filter_not (List.range c.length) (fun j => decide (c.getD j 0 < m))
      rw [← less_places, List.length_range] at this
      omega
    · exact hv
  · intro hm
    refine ⟨hs, ?_⟩
    have hlegal := stab_legal (more c)
    have hst := stab_stable (nn_more hn)
    have hrun := stab_run (more c)
    rw [hrun] at hst ⊢
    have honce := more_once hs
    have hlt : ∀ i ∈ (stab (more c)).2, i < c.length := fun i hi => by have := legal_lt _ _ hlegal i hi; simpa using this
    generalize (stab (more c)).2 = s at *
    have hnd : s.Nodup := nodup_count_one honce
    have hsl : s.length ≤ c.length := by
      have := length_le_of_count_le s (List.range c.length) (fun x => by
        by_cases hx : x ∈ s
        · have := List.count_pos_iff.2 (show x ∈ List.range c.length by rw [List.mem_range]; exact hlt x hx)
          have := honce x
          omega
        · rw [List.count_eq_zero.2 hx]; omega)
      simpa using this
    have full : s.length = c.length := by
      apply Classical.byContradiction
      intro hne
      have hmm := hm (c.length - 1 - s.length) (by omega)
      rw [less_places] at hmm
      -- all nodes that haven't toppled have less
      have hsub : ((List.range c.length).filter fun j => !decide (j ∈ s)).length ≤ ((List.range c.length).filter fun j => decide (c.getD j 0 < ((c.length - 1 - s.length : Nat) : Int))).length := by
        rw [← List.countP_eq_length_filter, ← List.countP_eq_length_filter]
        apply List.countP_mono_left
        intro j hj hj'
        rw [List.mem_range] at hj
        have hjs : j ∉ s := by simpa using hj'
        have := hst j (by simpa using hj)
        rw [length_run, get_run _ _ _ (by simpa using hj), get_more _ _ hj, List.count_eq_zero.2 hjs, length_more] at this
        simp only [decide_eq_true_eq]
        omega
      have hpart := length_filter_not (List.range c.length) (fun j => decide (j ∈ s))
      have hin : ((List.range c.length).filter fun j => decide (j ∈ s)).length ≤ s.length := by
        apply length_le_of_count_le
        intro x
        by_cases hx : x ∈ (List.range c.length).filter fun j => decide (j ∈ s)
        · have h1 : ((List.range c.length).filter fun j => decide (j ∈ s)).count x ≤ 1 := (List.nodup_iff_count.1 (List.nodup_range.filter _)) x
          rw [List.mem_filter] at hx
          have := List.count_pos_iff.2 (show x ∈ s by simpa using hx.2)
          omega
        · rw [List.count_eq_zero.2 hx]; omega
      rw [List.length_range] at hpart
      omega
    apply ext_getD (by simp)
    intro j hj
    have hj' : j < c.length := by simpa using hj
    have hc1 : s.count j = 1 := by
      have hsum := sum_count c.length s hlt
      apply Classical.byContradiction
      intro hne
      have h0 : s.count j = 0 := by have := honce j; omega
      have hle : ∀ k, k ≤ c.length → ((List.range k).map fun i => s.count i).sum + (if j < k then 1 else 0) ≤ k := by
        intro k
        induction k with
        | zero => intro _; simp
        | succ k ih =>
          intro hk
          have := ih (by omega)
          rw [List.range_succ, List.map_append, List.sum_append]
          simp only [List.map_cons, List.map_nil, List.sum_cons, List.sum_nil]
          have h1 := honce k
          by_cases e : j = k
          · subst e; rw [if_pos (by omega)]; rw [if_neg (by omega)] at this; omega
          · by_cases hjk : j < k
            · rw [if_pos (by omega)]; rw [if_pos hjk] at this; omega
            · rw [if_neg (by omega)]; rw [if_neg hjk] at this; omega
      have := hle c.length (Nat.le_refl _)
      rw [if_pos hj', ← hsum, full] at this
      omega
    rw [get_run _ _ _ (by simpa using hj'), get_more _ _ hj', hc1, full, length_more]
    push_cast
    omega
/-! ### The group -/
theorem plus_zero {a b : List Int} (hb : ∀ j, j < a.length → b.getD j 0 = 0) : plus a b = a := by
  apply ext_getD (by simp)
  intro j hj
  have hj' : j < a.length := by simpa using hj
  rw [get_plus _ _ _ hj', hb j hj']; omega
def const (n : Nat) (k : Int) : List Int := List.replicate n k
theorem get_const (n j : Nat) (k : Int) (h : j < n) : (const n k).getD j 0 = k := by
  simp [const, List.getD_eq_getElem?_getD, h]
theorem nn_const (n : Nat) {k : Int} (hk : 0 ≤ k) : Nonneg (const n k) := by
  intro j
  unfold const
  rw [List.getD_eq_getElem?_getD, List.getElem?_replicate]
  split <;> simp [hk]
/-- Recurrent sand takes the same number of grains on every node. -/
theorem rec_const {c : List Int} (hr : Rec c) (hn : Nonneg c) : ∀ (k : Nat), (stab (plus c (const c.length k))).1 = c
  | 0 => by
    rw [plus_zero (fun j hj => by rw [get_const _ _ _ hj]; rfl)]
    exact stab_fix hr.1
  | k + 1 => by
    have ih := rec_const hr hn k
    have e : plus c (const c.length ((k + 1 : Nat) : Int)) = plus (plus c (const c.length k)) (ones c.length) := by
      apply ext_getD (by simp)
      intro j hj
      have hj' : j < c.length := by simpa using hj
      rw [get_plus _ _ _ hj', get_plus _ _ _ (by simpa using hj'), get_plus _ _ _ hj', get_const _ _ _ hj', get_const _ _ _ hj', get_ones _ _ hj']
      push_cast; omega
    rw [e, ← stab_plus (nn_plus hn (nn_const _ (by omega))) (nn_ones _), ih]
    exact hr.2
/-- With sand added, recurrent sand stays recurrent. -/
theorem rec_plus {c d : List Int} (hr : Rec c) (hn : Nonneg c) (hd : Nonneg d) : Rec (stab (plus c d)).1 := by
  have hcd := nn_plus hn hd
  refine ⟨stab_stable hcd, ?_⟩
  have e : more (stab (plus c d)).1 = plus (stab (plus c d)).1 (ones c.length) := by unfold more; simp
  rw [e, stab_plus hcd (nn_ones _)]
  have e2 : plus (plus c d) (ones c.length) = plus (more c) d := by
    apply ext_getD (by simp)
    intro j hj
    have hj' : j < c.length := by simpa using hj
    rw [get_plus _ _ _ (by simpa using hj'), get_plus _ _ _ hj', get_ones _ _ hj', get_plus _ _ _ (by simpa using hj'), get_more _ _ hj']; omega
  rw [e2, ← stab_plus (nn_more hn) hd, hr.2]
/-- The greatest stable sand is recurrent; it is the neutral one. -/
def top (n : Nat) : List Int := const n ((n : Int) - 1)
theorem top_rec (n : Nat) : Rec (top n) := by
  have hl : (top n).length = n := by simp [top, const]
  have hs : Stable (top n) := by
    intro j hj
    rw [hl] at hj ⊢
    rw [top, get_const _ _ _ hj]; omega
  rcases Nat.eq_zero_or_pos n with h0 | h0
  · subst h0
    refine ⟨hs, ?_⟩
    rfl
  · rw [rec_iff hs (nn_const _ (by omega))]
    intro m hm
    rw [hl] at hm
    unfold less top const
    rw [List.filter_replicate]
    split
    · rename_i h
      simp only [decide_eq_true_eq] at h
      simp; omega
    · simp
theorem neutral {e : List Int} (hr : Rec e) (hn : Nonneg e) : (stab (plus e (top e.length))).1 = e := by
  rcases Nat.eq_zero_or_pos e.length with h0 | h0
  · have : e = [] := List.eq_nil_of_length_eq_zero h0
    subst this; rfl
  · have := rec_const hr hn (e.length - 1)
    unfold top
    have e1 : (((e.length - 1 : Nat) : Int)) = (e.length : Int) - 1 := by omega
    rwa [e1] at this

theorem legal_of_count : ∀ (s : List Nat) (c : List Int), (∀ i ∈ s, i < c.length ∧ (c.length : Int) + (c.length + 1) * ((s.count i : Int) - 1) ≤ c.getD i 0) → Legal c s
  | [], _, _ => trivial
  | i :: s, c, h => by
    have hi := h i (by simp)
    rw [List.count_cons_self] at hi
    push_cast at hi
    refine ⟨hi.1, ?_, ?_⟩
    · have : 0 ≤ ((c.length : Int) + 1) * ((s.count i : Int) + 1 - 1) := Int.mul_nonneg (by omega) (by omega)
      omega
    · apply legal_of_count s
      intro j hj
      have hj' := h j (by simp [hj])
      rw [length_topl, get_topl _ _ _ hj'.1]
      refine ⟨hj'.1, ?_⟩
      rw [List.count_cons] at hj'
      by_cases e : j = i
      · subst e
        simp only [beq_self_eq_true, if_true] at hj' ⊢
        have h2 := hj'.2
        push_cast at h2
        have : ((c.length : Int) + 1) * ((s.count j : Int) + 1 - 1) = (c.length + 1) * ((s.count j : Int) - 1) + (c.length + 1) := by
          rw [show ((s.count j : Int) + 1 - 1) = ((s.count j : Int) - 1) + 1 by omega, Int.mul_add]; omega
        omega
      · have e1 : (i == j) = false := by simpa using (Ne.symm e)
        rw [e1] at hj'
        simp only [Bool.false_eq_true, if_false, Nat.add_zero] at hj'
        rw [if_neg e]
        omega
/-- A list in which i stands as often as f says. -/
def often (f : Nat → Nat) : Nat → List Nat
  | 0 => []
  | n + 1 => often f n ++ List.replicate (f n) n
theorem count_often (f : Nat → Nat) : ∀ (n j : Nat), (often f n).count j = if j < n then f j else 0
  | 0, j => by simp [often]
  | n + 1, j => by
    rw [often, List.count_append, count_often f n j, List.count_replicate]
    by_cases e : n = j
    · subst e; simp
    · have e1 : (n == j) = false := by simpa using e
      rw [e1]
      by_cases h : j < n
      · have h2 : j < n + 1 := by omega
        simp [h, h2]
      · have h2 : ¬ j < n + 1 := by omega
        simp [h, h2]
theorem mem_often {f : Nat → Nat} {n j : Nat} (h : j ∈ often f n) : j < n := by
  have := List.count_pos_iff.2 h
  rw [count_often] at this
  split at this <;> omega
def times (k : Nat) (e : List Int) : List Int := e.map fun x => (k : Int) * x
@[simp] theorem length_times (k : Nat) (e : List Int) : (times k e).length = e.length := by simp [times]
theorem get_times (k : Nat) (e : List Int) (j : Nat) (h : j < e.length) : (times k e).getD j 0 = k * e.getD j 0 := by
  simp [times, List.getD_eq_getElem?_getD, List.getElem?_eq_getElem h]
theorem nn_times (k : Nat) {e : List Int} (h : Nonneg e) : Nonneg (times k e) := by
  intro j
  by_cases hj : j < e.length
  · rw [get_times _ _ _ hj]; exact Int.mul_nonneg (by omega) (h j)
  · rw [List.getD_eq_getElem?_getD, List.getElem?_eq_none (by simpa using hj)]; simp
def rep (e : List Int) : Nat → List Int
  | 0 => top e.length
  | k + 1 => (stab (plus (rep e k) e)).1
@[simp] theorem length_top (n : Nat) : (top n).length = n := by simp [top, const]
@[simp] theorem length_rep (e : List Int) : ∀ k, (rep e k).length = e.length
  | 0 => by simp [rep]
  | k + 1 => by simp [rep, length_rep e k]
theorem nn_top (n : Nat) : Nonneg (top n) := by
  rcases Nat.eq_zero_or_pos n with h | h
  · subst h; intro j; simp [top, const]
  · exact nn_const _ (by omega)
theorem rep_eq {e : List Int} (hn : Nonneg e) : ∀ k, rep e k = (stab (plus (top e.length) (times k e))).1
  | 0 => by
    rw [plus_zero (fun j hj => by rw [get_times _ _ _ (by simpa using hj)]; simp)]
    exact (stab_fix (top_rec _).1).symm
  | k + 1 => by
    rw [rep, rep_eq hn k, stab_plus (nn_plus (nn_top _) (nn_times k hn)) hn]
    congr 2
    apply ext_getD (by simp)
    intro j hj
    have hj' : j < e.length := by simpa using hj
    rw [get_plus _ _ _ (by simpa using hj'), get_plus _ _ _ (by simpa using hj'), get_plus _ _ _ (by simpa using hj'), get_times _ _ _ hj', get_times _ _ _ hj']
    push_cast
    rw [Int.add_mul]; omega
/-- n + 1 repetitions lead back. -/
theorem rep_round {e : List Int} (hn : Nonneg e) : rep e (e.length + 1) = top e.length := by
  rw [rep_eq hn]
  have hc := nn_plus (nn_top e.length) (nn_times (e.length + 1) hn)
  have hcount : ∀ j, j < e.length → ((often (fun j => (e.getD j 0).toNat) e.length).count j : Int) = e.getD j 0 := by
    intro j hj
    rw [count_often, if_pos hj]; have := hn j; omega
  have hget : ∀ j, j < e.length → (plus (top e.length) (times (e.length + 1) e)).getD j 0 = (e.length : Int) - 1 + (e.length + 1) * e.getD j 0 := by
    intro j hj
    rw [get_plus _ _ _ (by simpa using hj), get_times _ _ _ hj, top, get_const _ _ _ hj]
    push_cast; rfl
  have hl : Legal (plus (top e.length) (times (e.length + 1) e)) (often (fun j => (e.getD j 0).toNat) e.length) := by
    apply legal_of_count
    intro i hi
    have hil := mem_often hi
    rw [length_plus, length_top]
    refine ⟨hil, ?_⟩
    rw [hcount i hil, hget i hil, Int.mul_sub]
    omega
  rw [stab_of_run hc hl]
  have e1 : run (plus (top e.length) (times (e.length + 1) e)) (often (fun j => (e.getD j 0).toNat) e.length) = plus (top e.length) (const (top e.length).length (often (fun j => (e.getD j 0).toNat) e.length).length) := by
    apply ext_getD (by simp)
    intro j hj
    have hj' : j < e.length := by simpa using hj
    rw [get_run _ _ _ (by simpa using hj'), hget j hj', hcount j hj', get_plus _ _ _ (by simpa using hj'), length_plus, length_top, get_const _ _ _ hj', top, get_const _ _ _ hj']
    omega
  rw [e1]
  exact rec_const (top_rec _) (nn_top _) _
end SandT
