
/- Tables with linear probing, in lists of whole numbers: where keys go, what they cost, orders of insertion. Plain Lean. -/

namespace TabT

/-- A place on a circle of n, from below 2 n. -/
def cy (n i : Nat) : Nat := if i < n then i else i - n
theorem cy_mod {n i : Nat} (h : i < 2 * n) : i % n = cy n i := by
  unfold cy
  split
  · exact Nat.mod_eq_of_lt ‹_›
  · rw [Nat.mod_eq_sub_mod (by omega), Nat.mod_eq_of_lt (by omega)]
theorem cy_lt {n i : Nat} (h : i < 2 * n) : cy n i < n := by unfold cy; split <;> omega

/-- Is the cell used? -/
def us (t : List Int) (i : Nat) : Bool := decide (0 ≤ t.getD i (-1))
theorem us_lt {t : List Int} {i : Nat} (h : us t i = true) : i < t.length := by
  rcases Nat.lt_or_ge i t.length with h1 | h1
  · exact h1
  · rw [us, List.getD_eq_getElem?_getD, List.getElem?_eq_none h1] at h; simp at h
theorem getD_set (t : List Int) (p i : Nat) (k d : Int) (hp : p < t.length) : (t.set p k).getD i d = if i = p then k else t.getD i d := by
  rw [List.getD_eq_getElem?_getD, List.getElem?_set, List.getD_eq_getElem?_getD]
  by_cases e : p = i
  · subst e; simp [hp]
  · simp [e, Ne.symm e]
theorem us_set (t : List Int) (p i : Nat) (k : Int) (hp : p < t.length) (hk : 0 ≤ k) : us (t.set p k) i = (decide (i = p) || us t i) := by
  unfold us
  rw [getD_set _ _ _ _ _ hp]
  by_cases e : i = p
  · simp [e, hk]
  · simp [e]
theorem us_clear (t : List Int) (p i : Nat) (hp : p < t.length) : us (t.set p (-1)) i = (!decide (i = p) && us t i) := by
  unfold us
  rw [getD_set _ _ _ _ _ hp]
  by_cases e : i = p
  · simp [e]
  · simp [e]
/-- The first free cell from a on: how far it is. -/
def ffFrom (t : List Int) (a : Nat) : Nat → Nat → Nat
  | 0, d => d
  | k + 1, d => if us t (cy t.length (a + d)) = true then ffFrom t a k (d + 1) else d
def ff (t : List Int) (a : Nat) : Nat := ffFrom t a t.length 0
theorem ffFrom_eq (t : List Int) (a : Nat) (e : Nat) (hf : us t (cy t.length (a + e)) = false) :
    ∀ (k d : Nat), d ≤ e → e < d + k → (∀ m, d ≤ m → m < e → us t (cy t.length (a + m)) = true) → ffFrom t a k d = e
  | 0, d, h1, h2, _ => by omega
  | k + 1, d, h1, h2, hu => by
    unfold ffFrom
    by_cases c : d = e
    · subst c; rw [hf]; simp
    · rw [if_pos (hu d (Nat.le_refl _) (by omega))]
      exact ffFrom_eq t a e hf k (d + 1) (by omega) (by omega) (fun m h3 h4 => hu m (by omega) h4)
theorem ff_eq {t : List Int} {a e : Nat} (he : e < t.length) (hf : us t (cy t.length (a + e)) = false) (hu : ∀ m, m < e → us t (cy t.length (a + m)) = true) : ff t a = e :=
  ffFrom_eq t a e hf _ 0 (Nat.zero_le _) (by omega) (fun m _ h => hu m h)
/-- A least number. -/
theorem least_nat {p : Nat → Prop} [DecidablePred p] : ∀ (N : Nat), p N → ∃ e, e ≤ N ∧ p e ∧ ∀ m, m < e → ¬ p m
  | 0, h => ⟨0, Nat.le_refl _, h, fun m hm => absurd hm (Nat.not_lt_zero _)⟩
  | N + 1, h => by
    by_cases hx : ∃ m, m ≤ N ∧ p m
    · obtain ⟨m, hm, hp⟩ := hx
      obtain ⟨e, he, hpe, hle⟩ := least_nat m hp
      exact ⟨e, by omega, hpe, hle⟩
    · exact ⟨N + 1, Nat.le_refl _, h, fun m hm hp => hx ⟨m, by omega, hp⟩⟩
/-- There is a free cell. -/
def Free (t : List Int) : Prop := ∃ i, i < t.length ∧ us t i = false
theorem ff_spec {t : List Int} (hF : Free t) {a : Nat} (ha : a < t.length) :
    ff t a < t.length ∧ us t (cy t.length (a + ff t a)) = false ∧ ∀ m, m < ff t a → us t (cy t.length (a + m)) = true := by
  obtain ⟨i, hi, hu⟩ := hF
  have hx : us t (cy t.length (a + cy t.length (i + t.length - a))) = false := by
    have : cy t.length (a + cy t.length (i + t.length - a)) = i := by unfold cy; split <;> split <;> omega
    rw [this]; exact hu
  obtain ⟨e, he, hpe, hle⟩ := least_nat (p := fun e => us t (cy t.length (a + e)) = false) _ hx
  have hlt : e < t.length := by have : cy t.length (i + t.length - a) < t.length := cy_lt (by omega); omega
  have := ff_eq hlt hpe (fun m hm => by simpa using hle m hm)
  rw [this]
  exact ⟨hlt, hpe, fun m hm => by simpa using hle m hm⟩
/-- A key's own cell. -/
def own (n : Nat) (k : Int) : Nat := (k % (n : Int)).toNat
theorem own_lt {n : Nat} (hn : 0 < n) (k : Int) : own n k < n := by
  unfold own
  have := Int.emod_lt_of_pos k (show (0 : Int) < n by omega)
  have := Int.emod_nonneg k (show (n : Int) ≠ 0 by omega)
  omega
/-- Where a key goes. -/
def pos (t : List Int) (k : Int) : Nat := cy t.length (own t.length k + ff t (own t.length k))
def ins (t : List Int) (k : Int) : List Int := t.set (pos t k) k
@[simp] theorem length_ins (t : List Int) (k : Int) : (ins t k).length = t.length := by simp [ins]
/-- What a key costs in a cell. -/
def cost (n i : Nat) (k : Int) : Nat := cy n (i + n - own n k)
theorem cost_lt {n i : Nat} (hi : i < n) (k : Int) : cost n i k < n := cy_lt (by have := own_lt (n := n) (by omega) k; omega)
theorem own_cost {n i : Nat} (hi : i < n) (k : Int) : cy n (own n k + cost n i k) = i := by
  have := own_lt (n := n) (by omega) k
  unfold cost cy; split <;> split <;> omega
theorem cost_own {n d : Nat} (hd : d < n) (k : Int) : cost n (cy n (own n k + d)) k = d := by
  have := own_lt (n := n) (by omega) k
  unfold cost cy; split <;> split <;> omega
theorem pos_lt {t : List Int} (hF : Free t) (k : Int) : pos t k < t.length := by
  have hn : 0 < t.length := by obtain ⟨i, hi, _⟩ := hF; omega
  have ho := own_lt hn k
  have := (ff_spec hF ho).1
  exact cy_lt (by omega)
theorem pos_free {t : List Int} (hF : Free t) (k : Int) : us t (pos t k) = false := by
  have hn : 0 < t.length := by obtain ⟨i, hi, _⟩ := hF; omega
  exact (ff_spec hF (own_lt hn k)).2.1
/-- The sum of all costs. -/
def costs (t : List Int) : List Nat := t.mapIdx fun i k => if 0 ≤ k then cost t.length i k else 0
def total (t : List Int) : Nat := (costs t).sum
theorem sum_set_nat : ∀ (l : List Nat) (i x : Nat), i < l.length → (l.set i x).sum + l.getD i 0 = l.sum + x
  | [], i, x, h => by simp at h
  | y :: l, 0, x, h => by simp; omega
  | y :: l, i + 1, x, h => by
    have := sum_set_nat l i x (by simpa using h)
    simp only [List.set_cons_succ, List.sum_cons, List.getD_cons_succ]; omega
theorem costs_set (t : List Int) (p : Nat) (k : Int) : costs (t.set p k) = (costs t).set p (if 0 ≤ k then cost t.length p k else 0) := by
  apply List.ext_getElem
  · simp [costs]
  · intro i h1 h2
    simp only [costs, List.length_set, List.getElem_mapIdx, List.getElem_set]
    by_cases e : p = i
    · subst e; simp
    · simp [e]
theorem getD_costs (t : List Int) (i : Nat) (hi : i < t.length) : (costs t).getD i 0 = if 0 ≤ t.getD i (-1) then cost t.length i (t.getD i (-1)) else 0 := by
  simp [costs, List.getD_eq_getElem?_getD, List.getElem?_mapIdx, List.getElem?_eq_getElem hi]
theorem total_set (t : List Int) (p : Nat) (k : Int) (hp : p < t.length) (hk : 0 ≤ k) (hf : us t p = false) : total (t.set p k) = total t + cost t.length p k := by
  have := sum_set_nat (costs t) p (cost t.length p k) (by simpa [costs] using hp)
  rw [getD_costs t p hp, if_neg (by simpa [us] using hf)] at this
  unfold total
  rw [costs_set t p k, if_pos hk]
  omega
theorem total_ins {t : List Int} (hF : Free t) {k : Int} (hk : 0 ≤ k) : total (ins t k) = total t + ff t (own t.length k) := by
  have hn : 0 < t.length := by obtain ⟨i, hi, _⟩ := hF; omega
  rw [ins, total_set _ _ _ (pos_lt hF k) hk (pos_free hF k), pos, cost_own (ff_spec hF (own_lt hn k)).1]
/-- Alike in their used cells. -/
def Alike (t u : List Int) : Prop := t.length = u.length ∧ ∀ i, us t i = us u i
theorem Alike.refl (t : List Int) : Alike t t := ⟨rfl, fun _ => rfl⟩
theorem Alike.symm {t u : List Int} (h : Alike t u) : Alike u t := ⟨h.1.symm, fun i => (h.2 i).symm⟩
theorem Alike.trans {t u v : List Int} (h : Alike t u) (k : Alike u v) : Alike t v := ⟨h.1.trans k.1, fun i => (h.2 i).trans (k.2 i)⟩
theorem Alike.free {t u : List Int} (h : Alike t u) (hF : Free t) : Free u := by
  obtain ⟨i, hi, hu⟩ := hF
  exact ⟨i, by have := h.1; omega, by rw [← h.2]; exact hu⟩
theorem ff_alike {t u : List Int} (h : Alike t u) (hF : Free t) {a : Nat} (ha : a < t.length) : ff u a = ff t a := by
  have := ff_spec hF ha
  apply ff_eq
  · rw [← h.1]; exact this.1
  · rw [← h.2, ← h.1]; exact this.2.1
  · intro m hm; rw [← h.2, ← h.1]; exact this.2.2 m hm
theorem pos_alike {t u : List Int} (h : Alike t u) (hF : Free t) (k : Int) : pos u k = pos t k := by
  have hn : 0 < t.length := by obtain ⟨i, hi, _⟩ := hF; omega
  unfold pos
  rw [← h.1, ff_alike h hF (own_lt hn k)]
theorem ins_alike {t u : List Int} (h : Alike t u) (hF : Free t) {k : Int} (hk : 0 ≤ k) : Alike (ins t k) (ins u k) := by
  refine ⟨by simpa using h.1, fun i => ?_⟩
  rw [ins, ins, us_set _ _ _ _ (pos_lt hF k) hk, us_set _ _ _ _ (pos_lt (h.free hF) k) hk, pos_alike h hF k, h.2]
/-- How many cells are used. -/
def many (t : List Int) : Nat := (t.filter fun k => decide (0 ≤ k)).length
theorem many_le (t : List Int) : many t ≤ t.length := List.length_filter_le _ _
theorem free_of_many : ∀ (t : List Int), many t < t.length → Free t
  | [], h => by simp [many] at h
  | k :: t, h => by
    by_cases hk : 0 ≤ k
    · have : many t < t.length := by simp only [many, List.filter_cons, hk, decide_true, if_true, List.length_cons] at h ⊢; omega
      obtain ⟨i, hi, hu⟩ := free_of_many t this
      exact ⟨i + 1, by simp; omega, by simpa [us] using hu⟩
    · exact ⟨0, by simp, by simp [us]; omega⟩
theorem many_of_free : ∀ {t : List Int}, Free t → many t < t.length
  | [], h => by obtain ⟨i, hi, _⟩ := h; simp at hi
  | k :: t, ⟨i, hi, hu⟩ => by
    have hle := many_le t
    cases i with
    | zero => have : ¬ 0 ≤ k := by simpa [us] using hu
              simp only [many, List.filter_cons, this, decide_false, Bool.false_eq_true, if_false, List.length_cons] at hle ⊢; omega
    | succ i =>
      have := many_of_free (t := t) ⟨i, by simpa using hi, by simpa [us] using hu⟩
      simp only [many, List.filter_cons, List.length_cons] at this ⊢
      split
      · simp only [List.length_cons]; omega
      · omega
theorem many_set : ∀ (t : List Int) (p : Nat) (k : Int), us t p = false → p < t.length → 0 ≤ k → many (t.set p k) = many t + 1
  | [], p, k, _, h, _ => by simp at h
  | x :: t, 0, k, hu, _, hk => by have : ¬ 0 ≤ x := by simpa [us] using hu
                                  simp [many, this, hk]
  | x :: t, p + 1, k, hu, hp, hk => by
    have := many_set t p k (by simpa [us] using hu) (by simpa using hp) hk
    simp only [many, List.set_cons_succ, List.filter_cons] at this ⊢
    split
    · simp only [List.length_cons]; omega
    · omega
theorem many_ins {t : List Int} (hF : Free t) {k : Int} (hk : 0 ≤ k) : many (ins t k) = many t + 1 := many_set _ _ _ (pos_free hF k) (pos_lt hF k) hk
theorem many_alike {t u : List Int} (h : Alike t u) : many t = many u := by
  have key : ∀ (t u : List Int), t.length = u.length → (∀ i, us t i = us u i) → many t = many u := by
    intro t
    induction t with
    | nil => intro u hl _; cases u with
      | nil => rfl
      | cons => simp at hl
    | cons x t ih =>
      intro u hl hu
      cases u with
      | nil => simp at hl
      | cons y u =>
        have h0 := hu 0
        have := ih u (by simpa using hl) (fun i => by simpa [us] using hu (i + 1))
        have h0 : decide (0 ≤ x) = decide (0 ≤ y) := by simpa [us] using h0
        simp only [many, List.filter_cons, h0] at this ⊢
        split <;> simp [this]
  exact key t u h.1 h.2
/-- Two keys in either order: the same cells, the same costs together. -/
theorem ins_swap {t : List Int} {a b : Int} (ha : 0 ≤ a) (hb : 0 ≤ b) (hm : many t + 1 < t.length) : Alike (ins (ins t a) b) (ins (ins t b) a) ∧ total (ins (ins t a) b) = total (ins (ins t b) a) := by
  have hF : Free t := free_of_many t (by omega)
  have hn : 0 < t.length := by omega
  have hFa : Free (ins t a) := free_of_many _ (by rw [many_ins hF ha, length_ins]; exact hm)
  have hFb : Free (ins t b) := free_of_many _ (by rw [many_ins hF hb, length_ins]; exact hm)
  have oa := own_lt hn a
  have ob := own_lt hn b
  have sa := ff_spec hF oa
  have sb := ff_spec hF ob
  have ua : ∀ i, us (ins t a) i = (decide (i = pos t a) || us t i) := fun i => us_set _ _ _ _ (pos_lt hF a) ha
  have ub : ∀ i, us (ins t b) i = (decide (i = pos t b) || us t i) := fun i => us_set _ _ _ _ (pos_lt hF b) hb
  have Ub : ∀ i, us (ins (ins t a) b) i = (decide (i = pos (ins t a) b) || us (ins t a) i) := fun i => us_set _ _ _ _ (pos_lt hFa b) hb
  have Ua : ∀ i, us (ins (ins t b) a) i = (decide (i = pos (ins t b) a) || us (ins t b) i) := fun i => us_set _ _ _ _ (pos_lt hFb a) ha
  have Ta := total_ins hF ha
  have Tb := total_ins hF hb
  have Tab := total_ins hFa hb
  have Tba := total_ins hFb ha
  rw [length_ins] at Tab Tba
  by_cases hp : pos t a = pos t b
  · -- both would have gone to one cell: the later one goes on from there
    have al : Alike (ins t a) (ins t b) := ⟨by simp, fun i => by rw [ua, ub, hp]⟩
    have hF1 := hFa
    have q1 := pos_lt hF a
    have sp := ff_spec hFa (a := pos t a) (by simpa using q1)
    rw [length_ins] at sp
    -- from an own cell: first to the common cell, then on
    have go : ∀ (k : Int), pos t k = pos t a → own t.length k < t.length → ff t (own t.length k) < t.length → (∀ m, m < ff t (own t.length k) → us t (cy t.length (own t.length k + m)) = true) →
        ff (ins t a) (own t.length k) = ff t (own t.length k) + ff (ins t a) (pos t a) := by
      intro k hk ho h1 h2
      have hx := ff_spec hFa (a := own t.length k) (by simpa using ho)
      rw [length_ins] at hx
      have used : ∀ m, m < ff t (own t.length k) + ff (ins t a) (pos t a) → us (ins t a) (cy t.length (own t.length k + m)) = true ∨ t.length ≤ m := by
        intro m hm
        rcases Nat.lt_or_ge m t.length with hmn | hmn
        · left
          rcases Nat.lt_or_ge m (ff t (own t.length k)) with h | h
          · rw [ua, h2 m h]; simp
          · have e := sp.2.2 (m - ff t (own t.length k)) (by omega)
            have : cy t.length (pos t a + (m - ff t (own t.length k))) = cy t.length (own t.length k + m) := by
              rw [← hk]; unfold pos cy; split <;> split <;> split <;> omega
            rw [this] at e
            exact e
        · exact .inr hmn
      -- the first free cell is not before
      have ge : ff t (own t.length k) + ff (ins t a) (pos t a) ≤ ff (ins t a) (own t.length k) := by
        rcases Nat.lt_or_ge (ff (ins t a) (own t.length k)) (ff t (own t.length k) + ff (ins t a) (pos t a)) with h | h
        · rcases used _ h with h' | h'
          · rw [hx.2.1] at h'; cases h'
          · omega
        · exact h
      have hlt : ff t (own t.length k) + ff (ins t a) (pos t a) < t.length := by omega
      have hm := ff_eq (t := ins t a) (a := own t.length k) (e := ff t (own t.length k) + ff (ins t a) (pos t a)) (by simpa using hlt) (by
        rw [length_ins]
        have hP : pos t a = cy t.length (own t.length k + ff t (own t.length k)) := hk.symm
        have : cy t.length (own t.length k + (ff t (own t.length k) + ff (ins t a) (pos t a))) = cy t.length (pos t a + ff (ins t a) (pos t a)) := by
          generalize ff (ins t a) (pos t a) = f at hlt
          rw [hP]; unfold cy; split <;> split <;> split <;> omega
        rw [this]; exact sp.2.1) (by
        intro m hm
        rw [length_ins]
        rcases used m hm with h' | h'
        · exact h'
        · omega)
      exact hm
    have ga := go a rfl oa sa.1 sa.2.2
    have gb := go b hp.symm ob sb.1 sb.2.2
    have ga' : ff (ins t b) (own t.length a) = ff (ins t a) (own t.length a) := ff_alike al hFa (by simpa using oa)
    constructor
    · refine ⟨by simp, fun i => ?_⟩
      rw [Ub, Ua, ua, ub, hp]
      have e1 : pos (ins t a) b = pos (ins t b) a := by
        rw [pos_alike al hFa a]
        unfold pos
        rw [length_ins, ga, gb]
        have hpa : pos t a = cy t.length (own t.length a + ff t (own t.length a)) := rfl
        have hpb : pos t a = cy t.length (own t.length b + ff t (own t.length b)) := hp
        have hxa := ff_spec hFa (a := own t.length a) (by simpa using oa)
        have hxb := ff_spec hFa (a := own t.length b) (by simpa using ob)
        rw [length_ins, ga] at hxa
        rw [length_ins, gb] at hxb
        have h1 := hxa.1
        have h2 := hxb.1
        generalize ff (ins t a) (pos t a) = f at *
        revert hpa hpb
        generalize pos t a = P
        unfold cy
        split <;> split <;> split <;> split <;> omega
      rw [e1]
    · omega
  · -- two cells: each key goes to its own one in either order
    have eb : ff (ins t a) (own t.length b) = ff t (own t.length b) := by
      apply ff_eq
      · simpa using sb.1
      · rw [length_ins, ua, sb.2.1]
        have : ¬ cy t.length (own t.length b + ff t (own t.length b)) = pos t a := fun e => hp e.symm
        simp [this]
      · intro m hm; rw [length_ins, ua, sb.2.2 m hm]; simp
    have ea : ff (ins t b) (own t.length a) = ff t (own t.length a) := by
      apply ff_eq
      · simpa using sa.1
      · rw [length_ins, ub, sa.2.1]
        have : ¬ cy t.length (own t.length a + ff t (own t.length a)) = pos t b := fun e => hp e
        simp [this]
      · intro m hm; rw [length_ins, ub, sa.2.2 m hm]; simp
    have pb : pos (ins t a) b = pos t b := by unfold pos; rw [length_ins, eb]
    have pa : pos (ins t b) a = pos t a := by unfold pos; rw [length_ins, ea]
    constructor
    · refine ⟨by simp, fun i => ?_⟩
      rw [Ub, Ua, ua, ub, pa, pb]
      cases decide (i = pos t a) <;> cases decide (i = pos t b) <;> simp
    · omega
/-- All keys, in order. -/
def insAll (t : List Int) (ks : List Int) : List Int := ks.foldl ins t
@[simp] theorem length_insAll (ks : List Int) : ∀ (t : List Int), (insAll t ks).length = t.length := by
  induction ks with
  | nil => intro t; rfl
  | cons k ks ih => intro t; simp only [insAll, List.foldl_cons] at ih ⊢; rw [ih]; simp
theorem insAll_alike : ∀ (ks t u : List Int), Alike t u → total t = total u → (∀ k ∈ ks, 0 ≤ k) → many t + ks.length < t.length → Alike (insAll t ks) (insAll u ks) ∧ total (insAll t ks) = total (insAll u ks)
  | [], t, u, h, ht, _, _ => ⟨h, ht⟩
  | k :: ks, t, u, h, ht, hk, hm => by
    have hk0 : 0 ≤ k := hk k (by simp)
    have hF : Free t := free_of_many t (by omega)
    have hn : 0 < t.length := by omega
    have := insAll_alike ks (ins t k) (ins u k) (ins_alike h hF hk0) (by rw [total_ins hF hk0, total_ins (h.free hF) hk0, ht, ← h.1, ff_alike h hF (own_lt hn k)]) (fun x hx => hk x (by simp [hx])) (by rw [many_ins hF hk0, length_ins]; simp at hm; omega)
    exact this
/-- THE USED CELLS AND THE SUM OF ALL COSTS DO NOT DEPEND ON THE ORDER. -/
theorem insAll_perm {ks ks' : List Int} (h : ks.Perm ks') : ∀ (t u : List Int), Alike t u → total t = total u → (∀ k ∈ ks, 0 ≤ k) → many t + ks.length < t.length → Alike (insAll t ks) (insAll u ks') ∧ total (insAll t ks) = total (insAll u ks') := by
  induction h with
  | nil => intro t u h ht _ _; exact ⟨h, ht⟩
  | cons k p ih =>
    intro t u h ht hk hm
    have hk0 : 0 ≤ k := hk k (by simp)
    have hF : Free t := free_of_many t (by simp at hm; omega)
    have hn : 0 < t.length := by omega
    exact ih (ins t k) (ins u k) (ins_alike h hF hk0) (by rw [total_ins hF hk0, total_ins (h.free hF) hk0, ht, ← h.1, ff_alike h hF (own_lt hn k)]) (fun x hx => hk x (by simp [hx])) (by rw [many_ins hF hk0, length_ins]; simp at hm; omega)
  | swap a b l =>
    intro t u h ht hk hm
    have ha : 0 ≤ a := hk a (by simp)
    have hb : 0 ≤ b := hk b (by simp)
    have hm' : many t + 1 < t.length := by simp at hm; omega
    have hF : Free t := free_of_many t (by omega)
    have hn : 0 < t.length := by omega
    obtain ⟨s1, s2⟩ := ins_swap (t := t) hb ha hm'
    have hFa : Free (ins t a) := free_of_many _ (by rw [many_ins hF ha, length_ins]; exact hm')
    have e1 := ins_alike h hF ha
    have e2 := ins_alike e1 hFa hb
    have oa := own_lt hn a
    have ob := own_lt hn b
    have e3 : total (ins (ins t a) b) = total (ins (ins u a) b) := by
      rw [total_ins hFa hb, total_ins (e1.free hFa) hb, total_ins hF ha, total_ins (h.free hF) ha, ht, ← h.1, ff_alike h hF oa, length_ins, length_ins, ← h.1, ff_alike e1 hFa (by simpa using ob)]
    exact insAll_alike l _ _ (s1.trans e2) (s2.trans e3) (fun x hx => hk x (by simp [hx])) (by
      have hFb : Free (ins t b) := free_of_many _ (by rw [many_ins hF hb, length_ins]; exact hm')
      rw [many_ins hFb ha, many_ins hF hb]; simp at hm ⊢; omega)
  | trans p q ih1 ih2 =>
    intro t u h ht hk hm
    have a := ih1 t t (Alike.refl t) rfl hk hm
    have b := ih2 t u h ht (fun x hx => hk x (p.mem_iff.2 hx)) (by rw [← p.length_eq]; exact hm)
    exact ⟨a.1.trans b.1, a.2.trans b.2⟩

/-! ### Valid tables; removal -/

structure Valid (t : List Int) : Prop where
  free : Free t
  ge : ∀ i, i < t.length → -1 ≤ t.getD i (-1)
  nodup : ∀ i j, us t i = true → us t j = true → t.getD i (-1) = t.getD j (-1) → i = j
  path : ∀ i, us t i = true → ∀ m, m < cost t.length i (t.getD i (-1)) → us t (cy t.length (own t.length (t.getD i (-1)) + m)) = true

/-- A part of a table. -/
def Part (p t : List Int) : Prop := p.length = t.length ∧ ∀ i, us p i = true → us t i = true ∧ p.getD i (-1) = t.getD i (-1)
/-- The key of a cell may come next. -/
def Ready (t p : List Int) (i : Nat) : Prop := us t i = true ∧ us p i = false ∧ ∀ m, m < cost t.length i (t.getD i (-1)) → us p (cy t.length (own t.length (t.getD i (-1)) + m)) = true

theorem exists_ready {t p : List Int} (hV : Valid t) (hne : ∃ i, us t i = true ∧ us p i = false) : ∃ i, Ready t p i := by
  obtain ⟨g, hg, hgu⟩ := hV.free
  obtain ⟨i0, h1, h2⟩ := hne
  have hi0 := us_lt h1
  have hx : 1 ≤ cy t.length (i0 + t.length - g) ∧ us t (cy t.length (g + cy t.length (i0 + t.length - g))) = true ∧ us p (cy t.length (g + cy t.length (i0 + t.length - g))) = false := by
    have e : cy t.length (g + cy t.length (i0 + t.length - g)) = i0 := by unfold cy; split <;> split <;> omega
    rw [e]
    refine ⟨?_, h1, h2⟩
    have : i0 ≠ g := fun e => by rw [e, hgu] at h1; cases h1
    unfold cy; split <;> omega
  obtain ⟨e, he, ⟨he1, hp1, hp2⟩, hle⟩ := least_nat (p := fun e => 1 ≤ e ∧ us t (cy t.length (g + e)) = true ∧ us p (cy t.length (g + e)) = false) _ hx
  have hen : e < t.length := by have : cy t.length (i0 + t.length - g) < t.length := cy_lt (by omega); omega
  refine ⟨_, hp1, hp2, fun m hm => ?_⟩
  have hi := us_lt hp1
  generalize hk : t.getD (cy t.length (g + e)) (-1) = k at hm ⊢
  have hpath := hV.path _ hp1
  rw [hk] at hpath
  have ho := own_lt (n := t.length) (by omega) k
  have hc := cost_lt hi k
  have hoc := own_cost hi k
  generalize hcc : cost t.length (cy t.length (g + e)) k = c at *
  generalize own t.length k = o at *
  have hce : c < e := by
    rcases Nat.lt_or_ge c e with h | h
    · exact h
    · have := hpath (c - e) (by omega)
      have e1 : cy t.length (o + (c - e)) = g := by revert hoc; unfold cy; split <;> split <;> split <;> omega
      rw [e1, hgu] at this; cases this
  have hu := hpath m hm
  have e2 : cy t.length (o + m) = cy t.length (g + (e - c + m)) := by revert hoc; unfold cy; split <;> split <;> split <;> split <;> omega
  rw [e2] at hu ⊢
  cases hq : us p (cy t.length (g + (e - c + m))) with
  | true => rfl
  | false => exact absurd ⟨by omega, hu, hq⟩ (hle (e - c + m) (by omega))

theorem Part.free {p t : List Int} (hP : Part p t) (hF : Free t) : Free p := by
  obtain ⟨i, hi, hu⟩ := hF
  refine ⟨i, by rw [hP.1]; exact hi, ?_⟩
  cases h : us p i with
  | false => rfl
  | true => rw [(hP.2 i h).1] at hu; cases hu
/-- The key that may come next comes to its cell. -/
theorem ready_pos {t p : List Int} (hP : Part p t) {i : Nat} (hR : Ready t p i) : pos p (t.getD i (-1)) = i := by
  have hi := us_lt hR.1
  have : ff p (own t.length (t.getD i (-1))) = cost t.length i (t.getD i (-1)) := by
    apply ff_eq
    · rw [hP.1]; exact cost_lt hi _
    · rw [hP.1, own_cost hi]; exact hR.2.1
    · intro m hm; rw [hP.1]; exact hR.2.2 m hm
  unfold pos
  rw [hP.1, this, own_cost hi]
theorem Part.set {p t : List Int} (hP : Part p t) {i : Nat} (hu : us t i = true) : Part (p.set i (t.getD i (-1))) t := by
  have hi := us_lt hu
  refine ⟨by simpa using hP.1, fun j hj => ?_⟩
  rw [us_set _ _ _ _ (by rw [hP.1]; exact hi) (by simpa [us] using hu)] at hj
  rw [getD_set _ _ _ _ _ (by rw [hP.1]; exact hi)]
  by_cases e : j = i
  · subst e; simp [hu]
  · simp [e] at hj ⊢; exact hP.2 j hj
/-- A part in which all cells are used that are used in the whole. -/
theorem Part.full {p t : List Int} (hP : Part p t) (hg : ∀ i, i < t.length → -1 ≤ t.getD i (-1)) (hp : ∀ i, i < p.length → -1 ≤ p.getD i (-1)) (h : ∀ i, us t i = true → us p i = true) : p = t := by
  apply List.ext_getElem hP.1
  intro i h1 h2
  have e1 : p.getD i (-1) = p[i] := by rw [List.getD_eq_getElem?_getD, List.getElem?_eq_getElem h1]; rfl
  have e2 : t.getD i (-1) = t[i] := by rw [List.getD_eq_getElem?_getD, List.getElem?_eq_getElem h2]; rfl
  cases hu : us t i with
  | true => rw [← e1, ← e2]; exact (hP.2 i (h i hu)).2
  | false =>
    have hq : us p i = false := by
      cases hq : us p i with
      | false => rfl
      | true => rw [(hP.2 i hq).1] at hu; cases hu
    have a := hg i h2
    have b := hp i h1
    simp only [us, decide_eq_false_iff_not] at hu hq
    omega

/-! ### Removal -/

/-- All but the paths through the hole are as in a table. -/
structure Holed (t : List Int) (h : Nat) : Prop where
  hole : h < t.length ∧ t.getD h (-1) = -1
  other : ∃ g, g < t.length ∧ g ≠ h ∧ us t g = false
  ge : ∀ i, i < t.length → -1 ≤ t.getD i (-1)
  nodup : ∀ i j, us t i = true → us t j = true → t.getD i (-1) = t.getD j (-1) → i = j
  path : ∀ i, us t i = true → ∀ m, m < cost t.length i (t.getD i (-1)) → cy t.length (own t.length (t.getD i (-1)) + m) ≠ h → us t (cy t.length (own t.length (t.getD i (-1)) + m)) = true
theorem Valid.holed {t : List Int} (hV : Valid t) {h : Nat} (hu : us t h = true) : Holed (t.set h (-1)) h := by
  have hh := us_lt hu
  have uc : ∀ i, us (t.set h (-1)) i = (!decide (i = h) && us t i) := fun i => us_clear t h i hh
  refine ⟨⟨by simpa using hh, by rw [getD_set _ _ _ _ _ hh]; simp⟩, ?_, ?_, ?_, ?_⟩
  · obtain ⟨g, hg, hgu⟩ := hV.free
    refine ⟨g, by simpa using hg, (fun e => by rw [e, hu] at hgu; cases hgu), ?_⟩
    rw [uc, hgu]; simp
  · intro i hi
    rw [getD_set _ _ _ _ _ hh]
    split
    · omega
    · exact hV.ge i (by simpa using hi)
  · intro i j hi hj
    rw [uc] at hi hj
    simp at hi hj
    rw [getD_set _ _ _ _ _ hh, getD_set _ _ _ _ _ hh, if_neg hi.1, if_neg hj.1]
    exact hV.nodup i j hi.2 hj.2
  · intro i hi m hm hne
    rw [uc] at hi
    simp at hi
    rw [List.length_set] at hm hne ⊢
    rw [getD_set _ _ _ _ _ hh, if_neg hi.1] at hm hne ⊢
    rw [uc, hV.path i hi.2 m hm]
    simp only [hne, decide_false, Bool.not_false, Bool.and_true]
/-- A key behind the hole with its own cell behind it: its path does not lead through the hole. -/
theorem path_off {n h k c o : Nat} (hk : k < n) (ho : o < n) (hc : c < k) (hoc : cy n (o + c) = cy n (h + k)) : ∀ m, m < c → cy n (o + m) ≠ h := by
  intro m hm e
  revert e hoc; unfold cy; split <;> split <;> split <;> omega
theorem Holed.valid {t : List Int} {h k : Nat} (hH : Holed t h) (hk : k < t.length) (h1 : 1 ≤ k) (hfree : us t (cy t.length (h + k)) = false)
    (hu : ∀ m, 1 ≤ m → m < k → us t (cy t.length (h + m)) = true ∧ cost t.length (cy t.length (h + m)) (t.getD (cy t.length (h + m)) (-1)) < m) : Valid t := by
  have hn : 0 < t.length := by omega
  have hh := hH.hole.1
  refine ⟨⟨h, hh, by rw [us, hH.hole.2]; rfl⟩, hH.ge, hH.nodup, fun i hi m hm => ?_⟩
  by_cases e : cy t.length (own t.length (t.getD i (-1)) + m) = h
  · -- the cell i lies behind the hole, before the free cell
    exfalso
    have hil := us_lt hi
    have ho := own_lt hn (t.getD i (-1))
    have hc := cost_lt hil (t.getD i (-1))
    have hoc := own_cost hil (t.getD i (-1))
    have hpath := hH.path i hi
    generalize hcc : cost t.length i (t.getD i (-1)) = c at *
    generalize own t.length (t.getD i (-1)) = o at *
    -- i = h + (c - m)
    have ei : i = cy t.length (h + (c - m)) := by revert e hoc; unfold cy; split <;> split <;> split <;> omega
    rcases Nat.lt_or_ge (c - m) k with hlt | hge
    · have := (hu (c - m) (by omega) hlt).2
      rw [← ei, hcc] at this
      omega
    · have hne : cy t.length (o + (m + k)) = cy t.length (h + k) := by revert e; unfold cy; split <;> split <;> split <;> omega
      rcases Nat.lt_or_ge (m + k) c with hmk | hmk
      · have := hpath (m + k) hmk (by rw [hne]; unfold cy; split <;> omega)
        rw [hne, hfree] at this; cases this
      · have : c - m = k := by omega
        rw [this] at ei
        rw [ei, hfree] at hi; cases hi
  · exact hH.path i hi m hm e
/-- A key goes back into the hole. -/
theorem Holed.move {t : List Int} {h k : Nat} (hH : Holed t h) (hk : k < t.length) (h1 : 1 ≤ k) (hu : us t (cy t.length (h + k)) = true)
    (hc : k ≤ cost t.length (cy t.length (h + k)) (t.getD (cy t.length (h + k)) (-1))) :
    Holed ((t.set h (t.getD (cy t.length (h + k)) (-1))).set (cy t.length (h + k)) (-1)) (cy t.length (h + k)) := by
  have hn : 0 < t.length := by omega
  have hh := hH.hole.1
  have ha : cy t.length (h + k) < t.length := cy_lt (by omega)
  have hah : cy t.length (h + k) ≠ h := by unfold cy; split <;> omega
  obtain ⟨a, hae⟩ : ∃ a, a = cy t.length (h + k) := ⟨_, rfl⟩
  rw [← hae] at hu hc ha hah ⊢
  obtain ⟨x, hx⟩ : ∃ x, x = t.getD a (-1) := ⟨_, rfl⟩
  rw [← hx] at hc ⊢
  have hx0 : 0 ≤ x := by rw [hx]; simpa [us] using hu
  have gd : ∀ i, ((t.set h x).set a (-1)).getD i (-1) = if i = a then -1 else if i = h then x else t.getD i (-1) := by
    intro i
    rw [getD_set _ _ _ _ _ (by simpa using ha), getD_set _ _ _ _ _ hh]
  have uc : ∀ i, us ((t.set h x).set a (-1)) i = if i = a then false else if i = h then true else us t i := by
    intro i
    unfold us
    rw [gd]
    split
    · simp
    · split
      · simp [hx0]
      · rfl
  refine ⟨⟨by simpa using ha, by rw [gd]; simp⟩, ?_, ?_, ?_, ?_⟩
  · obtain ⟨g, hg, hgh, hgu⟩ := hH.other
    have hga : g ≠ a := fun e => by rw [e, hu] at hgu; cases hgu
    exact ⟨g, by simpa using hg, hga, by rw [uc, if_neg hga, if_neg hgh]; exact hgu⟩
  · intro i hi
    rw [gd]
    split
    · omega
    · split
      · omega
      · exact hH.ge i (by simpa using hi)
  · intro i j hi hj
    rw [uc] at hi hj
    rw [gd, gd]
    by_cases e1 : i = a
    · rw [if_pos e1] at hi; cases hi
    · by_cases e2 : j = a
      · rw [if_pos e2] at hj; cases hj
      · rw [if_neg e1] at hi ⊢
        rw [if_neg e2] at hj ⊢
        by_cases f1 : i = h
        · by_cases f2 : j = h
          · intro _; rw [f1, f2]
          · rw [if_pos f1, if_neg f2, hx]
            rw [if_neg f2] at hj
            intro e
            exact absurd (hH.nodup a j hu hj e).symm e2
        · by_cases f2 : j = h
          · rw [if_neg f1, if_pos f2, hx]
            rw [if_neg f1] at hi
            intro e
            exact absurd (hH.nodup i a hi hu e) e1
          · rw [if_neg f1, if_neg f2]
            rw [if_neg f1] at hi
            rw [if_neg f2] at hj
            exact hH.nodup i j hi hj
  · intro i hi m hm hne
    rw [List.length_set, List.length_set] at hm hne ⊢
    rw [uc] at hi
    rw [gd] at hm hne ⊢
    by_cases e1 : i = a
    · rw [if_pos e1] at hi; cases hi
    · rw [if_neg e1] at hi hm hne ⊢
      rw [uc, if_neg hne]
      by_cases f1 : i = h
      · -- the key that went back
        rw [if_pos f1] at hm hne ⊢
        have ho := own_lt hn x
        have hca := cost_lt ha x
        have hoca := own_cost ha x
        have hcc := cost_lt hh x
        have hocc := own_cost hh x
        have hpath := hH.path a hu
        rw [← hx] at hpath
        rw [f1] at hm
        generalize cost t.length a x = c at *
        generalize cost t.length h x = d at *
        generalize own t.length x = o at *
        have hdc : d + k = c := by revert hoca hocc; rw [hae]; unfold cy; split <;> split <;> split <;> omega
        by_cases f2 : cy t.length (o + m) = h
        · rw [if_pos f2]
        · rw [if_neg f2]
          exact hpath m (by omega) f2
      · rw [if_neg f1] at hi hm hne ⊢
        by_cases f2 : cy t.length (own t.length (t.getD i (-1)) + m) = h
        · rw [if_pos f2]
        · rw [if_neg f2]
          exact hH.path i hi m hm f2

/-! ### All keys; each valid table is made by an order of them -/

def keys (t : List Int) : List Int := t.filter fun k => decide (0 ≤ k)
theorem keys_set : ∀ (t : List Int) (p : Nat) (k : Int), p < t.length → us t p = false → 0 ≤ k → (keys (t.set p k)).Perm (k :: keys t)
  | [], p, k, h, _, _ => by simp at h
  | x :: t, 0, k, _, hu, hk => by
    have : ¬ 0 ≤ x := by simpa [us] using hu
    simp [keys, this, hk]
  | x :: t, p + 1, k, h, hu, hk => by
    have ih := keys_set t p k (by simpa using h) (by simpa [us] using hu) hk
    simp only [keys, List.set_cons_succ, List.filter_cons] at ih ⊢
    split
    · exact (ih.cons x).trans (List.Perm.swap _ _ _)
    · exact ih
theorem mem_keys {t : List Int} {k : Int} : k ∈ keys t ↔ ∃ i, us t i = true ∧ t.getD i (-1) = k := by
  unfold keys
  rw [List.mem_filter, List.mem_iff_getElem]
  constructor
  · rintro ⟨⟨i, hi, rfl⟩, hk⟩
    have e : t.getD i (-1) = t[i] := by rw [List.getD_eq_getElem?_getD, List.getElem?_eq_getElem hi]; rfl
    exact ⟨i, by rw [us, e]; exact hk, e⟩
  · rintro ⟨i, hu, rfl⟩
    have hi := us_lt hu
    have e : t.getD i (-1) = t[i] := by rw [List.getD_eq_getElem?_getD, List.getElem?_eq_getElem hi]; rfl
    exact ⟨⟨i, hi, e.symm⟩, by rw [us] at hu; exact hu⟩
def empty (n : Nat) : List Int := List.replicate n (-1)
theorem us_empty (n i : Nat) : us (empty n) i = false := by
  unfold us empty
  rw [List.getD_eq_getElem?_getD, List.getElem?_replicate]
  split <;> simp
theorem keys_empty (n : Nat) : keys (empty n) = [] := by
  unfold keys empty
  rw [List.filter_eq_nil_iff]
  intro x hx
  rw [List.mem_replicate] at hx
  simp [hx.2]
theorem many_keys (t : List Int) : many t = (keys t).length := rfl
theorem Part.keys_le {p t : List Int} (hP : Part p t) : many p ≤ many t := by
  have key : ∀ (p t : List Int), p.length = t.length → (∀ i, us p i = true → us t i = true) → many p ≤ many t := by
    intro p
    induction p with
    | nil => intro t _ _; simp [many]
    | cons x p ih =>
      intro t hl hu
      cases t with
      | nil => simp at hl
      | cons y t =>
        have h0 := hu 0
        have := ih t (by simpa using hl) (fun i hi => by simpa [us] using hu (i + 1) (by simpa [us] using hi))
        simp [us] at h0
        simp only [many, List.filter_cons] at this ⊢
        by_cases hx : 0 ≤ x
        · have hy := h0 hx
          simp only [hx, hy, decide_true, if_true, List.length_cons]; omega
        · simp only [hx, decide_false, Bool.false_eq_true, if_false]
          split
          · simp only [List.length_cons]; omega
          · omega
  exact key p t hP.1 (fun i hi => (hP.2 i hi).1)
/-- From a part, the keys that are left in an order that makes the table. -/
theorem complete {t : List Int} (hV : Valid t) : ∀ (d : Nat) (p : List Int), Part p t → (∀ i, i < p.length → -1 ≤ p.getD i (-1)) → many t ≤ many p + d → ∃ ks, insAll p ks = t ∧ (keys p ++ ks).Perm (keys t) ∧ many p + ks.length = many t := by
  intro d
  induction d with
  | zero =>
    intro p hP hg hm
    refine ⟨[], ?_, ?_⟩
    · show p = t
      apply Classical.byContradiction
      intro hne
      have : ∃ i, us t i = true ∧ us p i = false := by
        apply Classical.byContradiction
        intro hn
        exact hne (hP.full hV.ge hg fun i hi => by
          cases h : us p i with
          | true => rfl
          | false => exact absurd ⟨i, hi, h⟩ hn)
      obtain ⟨i, hi, hpi⟩ := this
      have := Part.keys_le (hP.set hi)
      rw [many_set p i _ hpi (by rw [hP.1]; exact us_lt hi) (by simpa [us] using hi)] at this
      omega
    · have hle := hP.keys_le
      have : p = t := by
        apply Classical.byContradiction
        intro hne
        have : ∃ i, us t i = true ∧ us p i = false := by
          apply Classical.byContradiction
          intro hn
          exact hne (hP.full hV.ge hg fun i hi => by
            cases h : us p i with
            | true => rfl
            | false => exact absurd ⟨i, hi, h⟩ hn)
        obtain ⟨i, hi, hpi⟩ := this
        have := Part.keys_le (hP.set hi)
        rw [many_set p i _ hpi (by rw [hP.1]; exact us_lt hi) (by simpa [us] using hi)] at this
        omega
      rw [this]; simp
  | succ d ih =>
    intro p hP hg hm
    by_cases hx : ∃ i, us t i = true ∧ us p i = false
    · obtain ⟨i, hR⟩ := exists_ready hV hx
      have hk : 0 ≤ t.getD i (-1) := by have := hR.1; rw [us] at this; exact of_decide_eq_true this
      have hip : i < p.length := by rw [hP.1]; exact us_lt hR.1
      have e : ins p (t.getD i (-1)) = p.set i (t.getD i (-1)) := by rw [ins, ready_pos hP hR]
      obtain ⟨ks, h1, h2, h3⟩ := ih (ins p (t.getD i (-1))) (by rw [e]; exact hP.set hR.1) (by
        intro j hj
        rw [e, getD_set _ _ _ _ _ hip]
        split
        · omega
        · exact hg j (by simpa using hj)) (by rw [e, many_set p i _ hR.2.1 hip hk]; omega)
      rw [e, many_set p i _ hR.2.1 hip hk] at h3
      refine ⟨t.getD i (-1) :: ks, h1, ?_, by simp; omega⟩
      have hp := keys_set p i _ hip hR.2.1 hk
      rw [← e] at hp
      refine List.Perm.trans ?_ h2
      refine List.Perm.trans ?_ (hp.symm.append_right ks)
      rw [List.cons_append]
      exact List.perm_middle
    · have : p = t := hP.full hV.ge hg fun i hi => by
          cases h : us p i with
          | true => rfl
          | false => exact absurd ⟨i, hi, h⟩ hx
      exact ⟨[], by rw [this]; rfl, by rw [this]; simp, by rw [this]; rfl⟩
theorem Part.empty (t : List Int) : Part (empty t.length) t := ⟨by simp [TabT.empty], fun i hi => by rw [us_empty] at hi; cases hi⟩
theorem ge_empty (n : Nat) : ∀ i, i < (empty n).length → -1 ≤ (empty n).getD i (-1) := by
  intro i _
  unfold empty
  rw [List.getD_eq_getElem?_getD, List.getElem?_replicate]
  split <;> simp
theorem Valid.order {t : List Int} (hV : Valid t) : ∃ ks, insAll (empty t.length) ks = t ∧ ks.Perm (keys t) := by
  obtain ⟨ks, h1, h2, _⟩ := complete hV (many t) (empty t.length) (Part.empty t) (ge_empty _) (by omega)
  rw [keys_empty] at h2
  exact ⟨ks, h1, h2⟩
/-- TWO VALID TABLES WITH THE SAME KEYS have the same used cells and the same sum of costs. -/
theorem alike_of_keys {t u : List Int} (ht : Valid t) (hu : Valid u) (hl : t.length = u.length) (hk : (keys t).Perm (keys u)) : Alike t u ∧ total t = total u := by
  obtain ⟨ks, h1, h2⟩ := ht.order
  obtain ⟨ls, h3, h4⟩ := hu.order
  have hp : ks.Perm ls := h2.trans (hk.trans h4.symm)
  have := insAll_perm hp (empty t.length) (empty u.length) (by rw [hl]; exact Alike.refl _) (by rw [hl]) (fun k hkm => by
      have := h2.mem_iff.1 hkm
      obtain ⟨i, hi, rfl⟩ := mem_keys.1 this
      rw [us] at hi; exact of_decide_eq_true hi) (by
      have : many (empty t.length) = 0 := by rw [many_keys, keys_empty]; rfl
      rw [this, h2.length_eq, ← many_keys]
      have := many_of_free ht.free
      simp [empty]; omega)
  rw [h1, h3] at this
  exact this

/-! ### Robin hood order -/

/-- A key in a cell comes ahead of another one in the next cell. -/
def Bef (n i : Nat) (x y : Int) : Prop := cost n (cy n (i + 1)) y < cost n i x + 1 ∨ cost n (cy n (i + 1)) y = cost n i x + 1 ∧ y < x
structure Robin (t : List Int) : Prop where
  valid : Valid t
  sorted : ∀ i, us t i = true → us t (cy t.length (i + 1)) = true → Bef t.length i (t.getD i (-1)) (t.getD (cy t.length (i + 1)) (-1))
def Over (n i : Nat) (h o : Int) : Prop := cost n i o < cost n i h ∨ cost n i h = cost n i o ∧ o < h
instance (n i : Nat) (h o : Int) : Decidable (Over n i h o) := by unfold Over; infer_instance
def robGo : Nat → List Int → Int → Nat → List Int
  | 0, t, h, a => t.set a h
  | d + 1, t, h, a => if Over t.length a h (t.getD a (-1)) then robGo d (t.set a h) (t.getD a (-1)) (cy t.length (a + 1)) else robGo d t h (cy t.length (a + 1))
def rob (t : List Int) (k : Int) : List Int := robGo (ff t (own t.length k)) t k (own t.length k)
/-- What holds at a cell, with a key in hand. -/
structure Hand (t : List Int) (h : Int) (a : Nat) : Prop where
  robin : Robin t
  two : 2 ≤ t.length
  at_ : a < t.length
  pos : 0 ≤ h
  new : ∀ i, us t i = true → t.getD i (-1) ≠ h
  path : ∀ m, m < cost t.length a h → us t (cy t.length (own t.length h + m)) = true
  ahead : us t (cy t.length (a + t.length - 1)) = true → Bef t.length (cy t.length (a + t.length - 1)) (t.getD (cy t.length (a + t.length - 1)) (-1)) h
theorem cost_next {n a : Nat} (ha : a < n) (h2 : 2 ≤ n) (h : Int) (hc : cost n a h + 1 < n) : cost n (cy n (a + 1)) h = cost n a h + 1 := by
  have ho := own_lt (n := n) (by omega) h
  revert hc
  unfold cost cy
  generalize own n h = o at *
  split <;> split <;> split <;> omega
theorem prev_next {n a : Nat} (ha : a < n) (h2 : 2 ≤ n) : cy n (cy n (a + 1) + n - 1) = a := by unfold cy; split <;> split <;> omega
theorem next_prev {n a : Nat} (ha : a < n) (h2 : 2 ≤ n) : cy n (cy n (a + n - 1) + 1) = a := by unfold cy; split <;> split <;> omega
theorem next_ne {n a : Nat} (ha : a < n) (h2 : 2 ≤ n) : cy n (a + 1) ≠ a := by unfold cy; split <;> omega
/-- A key whose path is used up to a used cell costs less than n - 1 there. -/
theorem cost_small {t : List Int} (hF : Free t) {a : Nat} {h : Int} (ha : us t a = true) (hp : ∀ m, m < cost t.length a h → us t (cy t.length (own t.length h + m)) = true) : cost t.length a h + 1 < t.length := by
  have hal := us_lt ha
  have hc := cost_lt hal h
  have hoc := own_cost hal h
  have ho := own_lt (n := t.length) (by omega) h
  apply Classical.byContradiction
  intro hn
  obtain ⟨g, hg, hgu⟩ := hF
  have hcn : cost t.length a h = t.length - 1 := by omega
  generalize cost t.length a h = c at *
  generalize own t.length h = o at *
  -- the free cell is some o + m
  have e : cy t.length (o + cy t.length (g + t.length - o)) = g := by unfold cy; split <;> split <;> omega
  have hm : cy t.length (g + t.length - o) < t.length := cy_lt (by omega)
  rcases Nat.lt_or_ge (cy t.length (g + t.length - o)) c with h1 | h1
  · have := hp _ h1
    rw [e, hgu] at this; cases this
  · have : cy t.length (g + t.length - o) = c := by omega
    rw [this, hoc] at e
    rw [← e, ha] at hgu; cases hgu
theorem Hand.pass {t : List Int} {h : Int} {a : Nat} (H : Hand t h a) (hu : us t a = true) (hn : ¬ Over t.length a h (t.getD a (-1))) : Hand t h (cy t.length (a + 1)) := by
  have hs := cost_small H.robin.valid.free hu H.path
  have hcn := cost_next H.at_ H.two h hs
  refine ⟨H.robin, H.two, cy_lt (by have := H.at_; omega), H.pos, H.new, ?_, ?_⟩
  · intro m hm
    rw [hcn] at hm
    rcases Nat.lt_or_ge m (cost t.length a h) with h1 | h1
    · exact H.path m h1
    · have : m = cost t.length a h := by omega
      rw [this, own_cost H.at_]; exact hu
  · rw [prev_next H.at_ H.two]
    intro _
    unfold Bef
    rw [hcn]
    unfold Over at hn
    have := H.new a hu
    omega
theorem us_same {t : List Int} {a : Nat} {h : Int} (ha : us t a = true) (hh : 0 ≤ h) (i : Nat) : us (t.set a h) i = us t i := by
  rw [us_set _ _ _ _ (us_lt ha) hh]
  by_cases e : i = a
  · subst e; simp [ha]
  · simp [e]
theorem Hand.swap {t : List Int} {h : Int} {a : Nat} (H : Hand t h a) (hu : us t a = true) (ho : Over t.length a h (t.getD a (-1))) : Hand (t.set a h) (t.getD a (-1)) (cy t.length (a + 1)) := by
  have hal := H.at_
  have h2 := H.two
  have hV := H.robin.valid
  have us' : ∀ i, us (t.set a h) i = us t i := us_same hu H.pos
  have gd : ∀ i, (t.set a h).getD i (-1) = if i = a then h else t.getD i (-1) := fun i => getD_set _ _ _ _ _ hal
  have hl : (t.set a h).length = t.length := by simp
  obtain ⟨o, hoe⟩ : ∃ o, o = t.getD a (-1) := ⟨_, rfl⟩
  have hpo := hV.path a hu
  rw [← hoe] at ho hpo ⊢
  have ho0 : 0 ≤ o := by rw [us] at hu; rw [hoe]; exact of_decide_eq_true hu
  have hsm := cost_small hV.free hu hpo
  have hcn := cost_next hal h2 o hsm
  have hnew := H.new
  refine ⟨⟨⟨?_, ?_, ?_, ?_⟩, ?_⟩, by rw [hl]; exact h2, by rw [hl]; exact cy_lt (by omega), ho0, ?_, ?_, ?_⟩
  · obtain ⟨g, hg, hgu⟩ := hV.free
    exact ⟨g, by rw [hl]; exact hg, by rw [us']; exact hgu⟩
  · intro i hi
    rw [gd]
    split
    · have := H.pos; omega
    · exact hV.ge i (by rw [hl] at hi; exact hi)
  · intro i j hi hj
    rw [us'] at hi hj
    rw [gd, gd]
    split
    · split
      · intro _; omega
      · intro e; exact absurd e.symm (hnew j hj)
    · split
      · intro e; exact absurd e (hnew i hi)
      · exact hV.nodup i j hi hj
  · intro i hi m hm
    rw [us'] at hi
    rw [gd, hl] at hm ⊢
    rw [us']
    split
    · rename_i e; subst e; rw [if_pos rfl] at hm; exact H.path m hm
    · rename_i e; rw [if_neg e] at hm; exact hV.path i hi m hm
  · intro i hi hi1
    rw [us', hl] at hi1
    rw [us'] at hi
    rw [gd, gd, hl]
    have hil := us_lt hi
    by_cases e1 : i = a
    · subst e1
      rw [if_pos rfl, if_neg (next_ne hal h2)]
      have := H.robin.sorted i hi hi1
      rw [← hoe] at this
      unfold Bef at this ⊢
      unfold Over at ho
      omega
    · rw [if_neg e1]
      by_cases e2 : cy t.length (i + 1) = a
      · rw [if_pos e2]
        have ep : cy t.length (a + t.length - 1) = i := by rw [← e2]; exact prev_next hil h2
        have := H.ahead
        rw [ep] at this
        exact this hi
      · rw [if_neg e2]
        exact H.robin.sorted i hi hi1
  · intro i hi
    rw [us'] at hi
    rw [gd]
    split
    · intro e
      exact hnew a hu (by rw [← hoe, e])
    · rename_i e
      intro e'
      exact e (hV.nodup i a hi hu (by rw [e', hoe]))
  · intro m hm
    rw [hl] at hm ⊢
    rw [us']
    rw [hcn] at hm
    rcases Nat.lt_or_ge m (cost t.length a o) with h1 | h1
    · exact hpo m h1
    · have : m = cost t.length a o := by omega
      rw [this, own_cost hal]; exact hu
  · rw [hl, prev_next hal h2]
    intro _
    rw [gd, if_pos rfl]
    unfold Bef
    rw [hcn]
    unfold Over at ho
    omega
theorem Hand.put {t : List Int} {h : Int} {a : Nat} (H : Hand t h a) (hu : us t a = false) (hm : many t + 1 < t.length) : Robin (t.set a h) := by
  have hal := H.at_
  have h2 := H.two
  have hV := H.robin.valid
  have us' : ∀ i, us (t.set a h) i = (decide (i = a) || us t i) := fun i => us_set _ _ _ _ hal H.pos
  have gd : ∀ i, (t.set a h).getD i (-1) = if i = a then h else t.getD i (-1) := fun i => getD_set _ _ _ _ _ hal
  have hl : (t.set a h).length = t.length := by simp
  have ua : ∀ i, us t i = true → i ≠ a := fun i hi e => by rw [e, hu] at hi; cases hi
  refine ⟨⟨?_, ?_, ?_, ?_⟩, ?_⟩
  · exact free_of_many _ (by rw [many_set t a h hu hal H.pos, hl]; exact hm)
  · intro i hi
    rw [gd]
    split
    · have := H.pos; omega
    · exact hV.ge i (by rw [hl] at hi; exact hi)
  · intro i j hi hj
    rw [us'] at hi hj
    rw [gd, gd]
    by_cases e1 : i = a
    · by_cases e2 : j = a
      · intro _; omega
      · rw [if_pos e1, if_neg e2]
        simp [e2] at hj
        intro e; exact absurd e.symm (H.new j hj)
    · simp [e1] at hi
      by_cases e2 : j = a
      · rw [if_neg e1, if_pos e2]
        intro e; exact absurd e (H.new i hi)
      · simp [e2] at hj
        rw [if_neg e1, if_neg e2]
        exact hV.nodup i j hi hj
  · intro i hi m hm'
    rw [us'] at hi
    rw [gd, hl] at hm' ⊢
    rw [us']
    by_cases e1 : i = a
    · rw [if_pos e1] at hm' ⊢
      subst e1
      rw [H.path m hm']; simp
    · simp [e1] at hi
      rw [if_neg e1] at hm' ⊢
      rw [hV.path i hi m hm']; simp
  · intro i hi hi1
    rw [hl] at hi1 ⊢
    rw [us'] at hi hi1
    rw [gd, gd]
    by_cases e1 : i = a
    · subst e1
      have hne := next_ne hal h2
      rw [if_pos rfl, if_neg hne]
      simp [hne] at hi1
      -- the key behind has its own cell there
      have hil := us_lt hi1
      have hp := hV.path _ hi1
      have hc0 : cost t.length (cy t.length (i + 1)) (t.getD (cy t.length (i + 1)) (-1)) = 0 := by
        have hoc := own_cost hil (t.getD (cy t.length (i + 1)) (-1))
        have hlt := cost_lt hil (t.getD (cy t.length (i + 1)) (-1))
        have ho := own_lt (n := t.length) (by omega) (t.getD (cy t.length (i + 1)) (-1))
        generalize cost t.length (cy t.length (i + 1)) (t.getD (cy t.length (i + 1)) (-1)) = c at *
        generalize own t.length (t.getD (cy t.length (i + 1)) (-1)) = o at *
        rcases Nat.eq_zero_or_pos c with h0 | h0
        · exact h0
        · have := hp (c - 1) (by omega)
          have e : cy t.length (o + (c - 1)) = i := by revert hoc; unfold cy; split <;> split <;> split <;> omega
          rw [e, hu] at this; cases this
      unfold Bef
      rw [hc0]
      omega
    · simp [e1] at hi
      rw [if_neg e1]
      by_cases e2 : cy t.length (i + 1) = a
      · rw [if_pos e2]
        have ep : cy t.length (a + t.length - 1) = i := by rw [← e2]; exact prev_next (us_lt hi) h2
        have := H.ahead
        rw [ep] at this
        exact this hi
      · simp [e2] at hi1
        rw [if_neg e2]
        exact H.robin.sorted i hi hi1

theorem keys_swap : ∀ (t : List Int) (p : Nat) (k : Int), us t p = true → 0 ≤ k → (t.getD p (-1) :: keys (t.set p k)).Perm (k :: keys t)
  | [], p, k, h, _ => by have := us_lt h; simp at this
  | x :: t, 0, k, hu, hk => by
    have : 0 ≤ x := by rw [us] at hu; exact of_decide_eq_true hu
    simp only [keys, List.set_cons_zero, List.filter_cons, this, hk, decide_true, if_true, List.getD_cons_zero]
    exact List.Perm.swap _ _ _
  | x :: t, p + 1, k, hu, hk => by
    have ih := keys_swap t p k (by simpa [us] using hu) hk
    simp only [keys, List.set_cons_succ, List.filter_cons, List.getD_cons_succ] at ih ⊢
    split
    · exact (List.Perm.swap _ _ _).trans ((ih.cons x).trans (List.Perm.swap _ _ _))
    · exact ih
theorem hand_go : ∀ (d : Nat) (t : List Int) (h : Int) (a : Nat), Hand t h a → many t + 1 < t.length → d < t.length → (∀ m, m < d → us t (cy t.length (a + m)) = true) → us t (cy t.length (a + d)) = false →
    Robin (robGo d t h a) ∧ (keys (robGo d t h a)).Perm (h :: keys t) ∧ (robGo d t h a).length = t.length
  | 0, t, h, a, H, hm, hd, _, hf => by
    have e : cy t.length (a + 0) = a := by have := H.at_; unfold cy; split <;> omega
    rw [e] at hf
    exact ⟨H.put hf hm, keys_set t a h H.at_ hf H.pos, by simp [robGo]⟩
  | d + 1, t, h, a, H, hm, hd, hu, hf => by
    have hua : us t a = true := by
      have := hu 0 (by omega)
      have e : cy t.length (a + 0) = a := by have := H.at_; unfold cy; split <;> omega
      rwa [e] at this
    have sh : ∀ m, m + 1 ≤ d + 1 → cy t.length (cy t.length (a + 1) + m) = cy t.length (a + (m + 1)) := by
      intro m hmd
      have := H.at_
      unfold cy; split <;> split <;> split <;> omega
    unfold robGo
    by_cases ho : Over t.length a h (t.getD a (-1))
    · rw [if_pos ho]
      have H' := H.swap hua ho
      have us' : ∀ i, us (t.set a h) i = us t i := us_same hua H.pos
      have al : Alike (t.set a h) t := ⟨by simp, us'⟩
      have := hand_go d (t.set a h) (t.getD a (-1)) (cy t.length (a + 1)) H' (by rw [many_alike al, List.length_set]; exact hm) (by rw [List.length_set]; omega)
        (fun m hmd => by rw [List.length_set, us', sh m (by omega)]; exact hu (m + 1) (by omega)) (by rw [List.length_set, us', sh d (by omega)]; exact hf)
      exact ⟨this.1, this.2.1.trans (keys_swap t a h hua H.pos), by rw [this.2.2]; simp⟩
    · rw [if_neg ho]
      have := hand_go d t h (cy t.length (a + 1)) (H.pass hua ho) hm (by omega) (fun m hmd => by rw [sh m (by omega)]; exact hu (m + 1) (by omega)) (by rw [sh d (by omega)]; exact hf)
      exact this
theorem Robin.hand {t : List Int} (hR : Robin t) (h2 : 2 ≤ t.length) {k : Int} (hk : 0 ≤ k) (hn : k ∉ keys t) : Hand t k (own t.length k) := by
  have ho := own_lt (n := t.length) (by omega) k
  have hc : cost t.length (own t.length k) k = 0 := by unfold cost cy; split <;> omega
  refine ⟨hR, h2, ho, hk, ?_, ?_, ?_⟩
  · intro i hi e
    exact hn (mem_keys.2 ⟨i, hi, e⟩)
  · intro m hm; rw [hc] at hm; omega
  · intro _
    unfold Bef
    rw [next_prev ho h2, hc]
    omega
theorem rob_spec {t : List Int} (hR : Robin t) (h2 : 2 ≤ t.length) {k : Int} (hk : 0 ≤ k) (hn : k ∉ keys t) (hm : many t + 1 < t.length) : Robin (rob t k) ∧ (keys (rob t k)).Perm (k :: keys t) ∧ (rob t k).length = t.length := by
  have hF := hR.valid.free
  have s := ff_spec hF (own_lt (n := t.length) (by omega) k)
  exact hand_go _ t k _ (hR.hand h2 hk hn) hm s.1 s.2.2 s.2.1
theorem Valid.empty {n : Nat} (h : 0 < n) : Valid (empty n) :=
  ⟨⟨0, by simp [TabT.empty, h], us_empty n 0⟩, ge_empty n, fun i j hi => (by rw [us_empty] at hi; cases hi), fun i hi => (by rw [us_empty] at hi; cases hi)⟩
theorem Robin.empty {n : Nat} (h : 0 < n) : Robin (empty n) := ⟨Valid.empty h, fun i hi => (by rw [us_empty] at hi; cases hi)⟩

/-! ### Seen from a free cell -/

/-- How far behind the cell g a key's own cell lies. -/
def off (n g : Nat) (k : Int) : Nat := cy n (own n k + n - g)
theorem off_spec {t : List Int} (hV : Valid t) {g : Nat} (hg : g < t.length) (hgu : us t g = false) {e : Nat} (he : e < t.length) (hu : us t (cy t.length (g + e)) = true) :
    1 ≤ off t.length g (t.getD (cy t.length (g + e)) (-1)) ∧ off t.length g (t.getD (cy t.length (g + e)) (-1)) + cost t.length (cy t.length (g + e)) (t.getD (cy t.length (g + e)) (-1)) = e ∧
      ∀ m, off t.length g (t.getD (cy t.length (g + e)) (-1)) ≤ m → m ≤ e → us t (cy t.length (g + m)) = true := by
  have hil := us_lt hu
  have hp := hV.path _ hu
  have ho := own_lt (n := t.length) (by omega) (t.getD (cy t.length (g + e)) (-1))
  have hoc := own_cost hil (t.getD (cy t.length (g + e)) (-1))
  have hcl := cost_lt hil (t.getD (cy t.length (g + e)) (-1))
  unfold off
  generalize cost t.length (cy t.length (g + e)) (t.getD (cy t.length (g + e)) (-1)) = c at *
  generalize own t.length (t.getD (cy t.length (g + e)) (-1)) = o at *
  have he1 : e ≠ 0 := by
    intro h0
    have : cy t.length (g + e) = g := by rw [h0]; unfold cy; split <;> omega
    rw [this, hgu] at hu; cases hu
  have hce : c < e := by
    rcases Nat.lt_or_ge c e with h | h
    · exact h
    · have := hp (c - e) (by omega)
      have e1 : cy t.length (o + (c - e)) = g := by revert hoc; unfold cy; split <;> split <;> split <;> omega
      rw [e1, hgu] at this; cases this
  have hof : cy t.length (o + t.length - g) = e - c := by revert hoc; unfold cy; split <;> split <;> split <;> omega
  rw [hof]
  refine ⟨by omega, by omega, fun m h1 h2 => ?_⟩
  rcases Nat.lt_or_ge m e with h3 | h3
  · have := hp (m - (e - c)) (by omega)
    have e2 : cy t.length (o + (m - (e - c))) = cy t.length (g + m) := by revert hoc; unfold cy; split <;> split <;> split <;> split <;> omega
    rwa [e2] at this
  · have : m = e := by omega
    rw [this]; exact hu
/-- Along used cells, keys come in one order. -/
def Lt (n g : Nat) (x y : Int) : Prop := off n g x < off n g y ∨ off n g x = off n g y ∧ y < x
theorem Lt.trans {n g : Nat} {x y z : Int} (h : Lt n g x y) (k : Lt n g y z) : Lt n g x z := by unfold Lt at *; omega
theorem Robin.next {t : List Int} (hR : Robin t) {g : Nat} (hg : g < t.length) (hgu : us t g = false) {e : Nat} (he : e + 1 < t.length) (h1 : us t (cy t.length (g + e)) = true) (h2 : us t (cy t.length (g + (e + 1))) = true) :
    Lt t.length g (t.getD (cy t.length (g + e)) (-1)) (t.getD (cy t.length (g + (e + 1))) (-1)) := by
  have s1 := off_spec hR.valid hg hgu (by omega) h1
  have s2 := off_spec hR.valid hg hgu he h2
  have en : cy t.length (cy t.length (g + e) + 1) = cy t.length (g + (e + 1)) := by unfold cy; split <;> split <;> split <;> omega
  have := hR.sorted _ h1
  rw [en] at this
  have := this h2
  unfold Bef at this
  rw [en] at this
  unfold Lt
  omega
theorem Robin.chain {t : List Int} (hR : Robin t) {g : Nat} (hg : g < t.length) (hgu : us t g = false) : ∀ (d e : Nat), e + (d + 1) < t.length → (∀ m, e ≤ m → m ≤ e + (d + 1) → us t (cy t.length (g + m)) = true) →
    Lt t.length g (t.getD (cy t.length (g + e)) (-1)) (t.getD (cy t.length (g + (e + (d + 1)))) (-1))
  | 0, e, he, hu => hR.next hg hgu he (hu e (Nat.le_refl _) (by omega)) (hu (e + 1) (by omega) (Nat.le_refl _))
  | d + 1, e, he, hu => (hR.chain hg hgu d e (by omega) (fun m h1 h2 => hu m h1 (by omega))).trans (hR.next hg hgu (e := e + (d + 1)) (by omega) (hu _ (by omega) (by omega)) (hu _ (by omega) (by omega)))
/-- ROBIN HOOD ORDER IS ONE. -/
theorem Robin.unique {t u : List Int} (ht : Robin t) (hu : Robin u) (hl : t.length = u.length) (hk : (keys t).Perm (keys u)) : t = u := by
  obtain ⟨al, _⟩ := alike_of_keys ht.valid hu.valid hl hk
  obtain ⟨g, hg, hgu⟩ := ht.valid.free
  have hgu' : us u g = false := by rw [← al.2]; exact hgu
  have cell : ∀ {w : List Int}, w.length = t.length → ∀ {k : Int}, k ∈ keys w → ∃ e, e < t.length ∧ us w (cy t.length (g + e)) = true ∧ w.getD (cy t.length (g + e)) (-1) = k := by
    intro w hw k hkm
    obtain ⟨i, hi, hik⟩ := mem_keys.1 hkm
    have hil := us_lt hi
    have e : cy t.length (g + cy t.length (i + t.length - g)) = i := by unfold cy; split <;> split <;> omega
    exact ⟨cy t.length (i + t.length - g), cy_lt (by omega), by rw [e]; exact hi, by rw [e]; exact hik⟩
  have main : ∀ e, e < t.length → us t (cy t.length (g + e)) = true → t.getD (cy t.length (g + e)) (-1) = u.getD (cy t.length (g + e)) (-1) := by
    intro e
    induction e using Nat.strongRecOn with
    | _ e ih =>
      intro he h1
      apply Classical.byContradiction
      intro hne
      have h1' : us u (cy t.length (g + e)) = true := by rw [← al.2]; exact h1
      -- t's key lies behind in u; u's key lies behind in t
      have inj : ∀ e2, e2 < t.length → cy t.length (g + e2) = cy t.length (g + e) → e2 = e := by intro e2 h2; unfold cy; split <;> split <;> omega
      obtain ⟨e2, b1, b2, b3⟩ := cell hl.symm (hk.mem_iff.1 (mem_keys.2 ⟨_, h1, rfl⟩))
      obtain ⟨e3, c1, c2, c3⟩ := cell rfl (hk.mem_iff.2 (mem_keys.2 ⟨_, h1', rfl⟩))
      have b4 : e < e2 := by
        rcases Nat.lt_trichotomy e e2 with h | h | h
        · exact h
        · rw [← h] at b3; exact absurd b3.symm hne
        · have h5 := ih e2 h b1 (by rw [al.2]; exact b2)
          rw [b3] at h5
          exact absurd (inj e2 b1 (ht.valid.nodup _ _ (by rw [al.2]; exact b2) h1 h5)) (by omega)
      have c4 : e < e3 := by
        rcases Nat.lt_trichotomy e e3 with h | h | h
        · exact h
        · rw [← h] at c3; exact absurd c3 hne
        · have h5 := ih e3 h c1 c2
          rw [c3] at h5
          exact absurd (inj e3 c1 (hu.valid.nodup _ _ (by rw [← al.2]; exact c2) h1' h5.symm)) (by omega)
      have s1 := off_spec ht.valid hg hgu he h1
      have s1' := off_spec hu.valid (g := g) (by rw [← hl]; exact hg) hgu' (e := e) (by rw [← hl]; exact he) (by rw [← hl]; exact h1')
      have s2 := off_spec hu.valid (g := g) (by rw [← hl]; exact hg) hgu' (e := e2) (by rw [← hl]; exact b1) (by rw [← hl]; exact b2)
      have s3 := off_spec ht.valid hg hgu c1 c2
      rw [← hl] at s2 s1'
      rw [b3] at s2
      rw [c3] at s3
      have l1 := hu.chain (g := g) (by rw [← hl]; exact hg) hgu' (e2 - e - 1) e (by rw [← hl]; omega) (fun m h2 h3 => by rw [← hl]; exact s2.2.2 m (by omega) (by omega))
      have l2 := ht.chain hg hgu (e3 - e - 1) e (by omega) (fun m h2 h3 => s3.2.2 m (by omega) (by omega))
      rw [← hl] at l1
      have q1 : e + (e2 - e - 1 + 1) = e2 := by omega
      have q2 : e + (e3 - e - 1 + 1) = e3 := by omega
      rw [q1, b3] at l1
      rw [q2, c3] at l2
      unfold Lt at l1 l2
      omega
  apply List.ext_getElem hl
  intro i h1 h2
  have e1 : t.getD i (-1) = t[i] := by rw [List.getD_eq_getElem?_getD, List.getElem?_eq_getElem h1]; rfl
  have e2 : u.getD i (-1) = u[i] := by rw [List.getD_eq_getElem?_getD, List.getElem?_eq_getElem h2]; rfl
  rw [← e1, ← e2]
  have e : cy t.length (g + cy t.length (i + t.length - g)) = i := by unfold cy; split <;> split <;> omega
  cases hq : us t i with
  | true =>
    have := main (cy t.length (i + t.length - g)) (cy_lt (by omega)) (by rw [e]; exact hq)
    rwa [e] at this
  | false =>
    have hq' : us u i = false := by rw [← al.2]; exact hq
    have a := ht.valid.ge i h1
    have b := hu.valid.ge i h2
    simp only [us, decide_eq_false_iff_not] at hq hq'
    omega
theorem nodup_bound : ∀ (l : List Nat) (s e : Nat), l.Nodup → (∀ x ∈ l, s ≤ x ∧ x < e) → l.length ≤ e - s := by
  intro l s e
  induction e generalizing l with
  | zero =>
    intro _ h
    cases l with
    | nil => simp
    | cons x l => have := h x (by simp); omega
  | succ e ih =>
    intro hn h
    have h1 := ih (l.erase e) (hn.erase e) (fun x hx => by
      have hm := List.mem_of_mem_erase hx
      have := h x hm
      have hne : x ≠ e := fun he => by rw [he] at hx; exact (List.Nodup.not_mem_erase hn) hx
      omega)
    by_cases hm : e ∈ l
    · rw [List.length_erase_of_mem hm] at h1
      have := h e hm
      omega
    · rw [List.erase_of_not_mem hm] at h1
      omega
/-- No other order has a less greatest cost. -/
theorem Robin.greatest {t u : List Int} (ht : Robin t) (hu : Valid u) (hl : t.length = u.length) (hk : (keys t).Perm (keys u)) {i : Nat} (hi : us t i = true) :
    ∃ j, us u j = true ∧ cost t.length i (t.getD i (-1)) ≤ cost t.length j (u.getD j (-1)) := by
  obtain ⟨al, _⟩ := alike_of_keys ht.valid hu hl hk
  obtain ⟨g, hg, hgu⟩ := ht.valid.free
  have hgu' : us u g = false := by rw [← al.2]; exact hgu
  have hil := us_lt hi
  obtain ⟨e, hee⟩ : ∃ e, e = cy t.length (i + t.length - g) := ⟨_, rfl⟩
  have ei : cy t.length (g + e) = i := by rw [hee]; unfold cy; split <;> split <;> omega
  have he : e < t.length := by rw [hee]; exact cy_lt (by omega)
  have s0 := off_spec ht.valid hg hgu he (by rw [ei]; exact hi)
  rw [ei] at s0
  -- the run of used cells that ends with this one begins with s
  obtain ⟨s, hs1, hs2, hs3, hs4⟩ : ∃ s, 1 ≤ s ∧ s ≤ e ∧ us t (cy t.length (g + (s - 1))) = false ∧ ∀ m, s ≤ m → m ≤ e → us t (cy t.length (g + m)) = true := by
    have hz : us t (cy t.length (g + (e - e))) = false := by
      rw [Nat.sub_self]
      have : cy t.length (g + 0) = g := by unfold cy; split <;> omega
      rw [this]; exact hgu
    obtain ⟨d, hd1, hd2, hd3⟩ := least_nat (p := fun d => d ≤ e ∧ us t (cy t.length (g + (e - d))) = false) e ⟨Nat.le_refl _, hz⟩
    have hd0 : d ≠ 0 := by
      intro h0
      have := hd2.2
      rw [h0, Nat.sub_zero, ei, hi] at this; cases this
    refine ⟨e - d + 1, by omega, by omega, by rw [Nat.add_sub_cancel]; exact hd2.2, fun m h1 h2 => ?_⟩
    have := hd3 (e - m) (by omega)
    cases hq : us t (cy t.length (g + m)) with
    | true => rfl
    | false => exact absurd ⟨by omega, by rw [show e - (e - m) = m by omega]; exact hq⟩ this
  -- where u has the keys of the run
  have wh : ∀ m, s ≤ m → m ≤ e → ∃ f, s ≤ f ∧ f < t.length ∧ us u (cy t.length (g + f)) = true ∧ u.getD (cy t.length (g + f)) (-1) = t.getD (cy t.length (g + m)) (-1) := by
    intro m h1 h2
    have hum := hs4 m h1 h2
    obtain ⟨j, hj, hjk⟩ := mem_keys.1 (hk.mem_iff.1 (mem_keys.2 ⟨_, hum, rfl⟩))
    have hjl := us_lt hj
    obtain ⟨f, hff⟩ : ∃ f, f = cy t.length (j + t.length - g) := ⟨_, rfl⟩
    have ej : cy t.length (g + f) = j := by rw [hff]; unfold cy; split <;> split <;> omega
    have hf : f < t.length := by rw [hff]; exact cy_lt (by omega)
    refine ⟨f, ?_, hf, by rw [ej]; exact hj, by rw [ej]; exact hjk⟩
    have a1 := off_spec ht.valid hg hgu (e := m) (by omega) hum
    have a2 := off_spec hu (g := g) (by rw [← hl]; exact hg) hgu' (e := f) (by rw [← hl]; exact hf) (by rw [← hl, ej]; exact hj)
    rw [← hl, ej, hjk] at a2
    -- the key's own cell isn't before s
    rcases Nat.lt_or_ge f s with h3 | h3
    · exfalso
      have := a1.2.2 (s - 1) (by omega) (by omega)
      rw [hs3] at this; cases this
    · exact h3
  -- one of them lies at e or behind
  have big : ∃ m f, s ≤ m ∧ m ≤ e ∧ e ≤ f ∧ f < t.length ∧ us u (cy t.length (g + f)) = true ∧ u.getD (cy t.length (g + f)) (-1) = t.getD (cy t.length (g + m)) (-1) := by
    apply Classical.byContradiction
    intro hn
    have wh' : ∀ m, s ≤ m → m ≤ e → ∃ f, s ≤ f ∧ f < e ∧ u.getD (cy t.length (g + f)) (-1) = t.getD (cy t.length (g + m)) (-1) := by
      intro m h1 h2
      obtain ⟨f, q1, q2, q3, q4⟩ := wh m h1 h2
      refine ⟨f, q1, ?_, q4⟩
      rcases Nat.lt_or_ge f e with h3 | h3
      · exact h3
      · exact absurd ⟨m, f, h1, h2, h3, q2, q3, q4⟩ hn
    let F : Nat → Nat := fun m => if h : s ≤ m ∧ m ≤ e then Classical.choose (wh' m h.1 h.2) else 0
    have hF : ∀ m, s ≤ m → m ≤ e → s ≤ F m ∧ F m < e ∧ u.getD (cy t.length (g + F m)) (-1) = t.getD (cy t.length (g + m)) (-1) := by
      intro m h1 h2
      have : F m = Classical.choose (wh' m h1 h2) := dif_pos ⟨h1, h2⟩
      rw [this]
      exact Classical.choose_spec (wh' m h1 h2)
    have := nodup_bound ((List.range' s (e + 1 - s)).map F) s e (by
      rw [List.nodup_iff_pairwise_ne, List.pairwise_map]
      refine List.Pairwise.imp_of_mem ?_ (List.nodup_range' (s := s) (n := e + 1 - s))
      intro a b ha hb hne heq
      rw [List.mem_range'_1] at ha hb
      have fa := hF a ha.1 (by omega)
      have fb := hF b hb.1 (by omega)
      rw [heq, fb.2.2] at fa
      have := ht.valid.nodup _ _ (hs4 b hb.1 (by omega)) (hs4 a ha.1 (by omega)) fa.2.2
      revert this
      unfold cy; split <;> split <;> omega) (by
      intro x hx
      rw [List.mem_map] at hx
      obtain ⟨m, hm, rfl⟩ := hx
      rw [List.mem_range'_1] at hm
      have := hF m hm.1 (by omega)
      omega)
    simp at this
    omega
  obtain ⟨m, f, h1, h2, h3, h4, h5, h6⟩ := big
  refine ⟨_, h5, ?_⟩
  rw [h6]
  have a2 := off_spec hu (g := g) (by rw [← hl]; exact hg) hgu' (e := f) (by rw [← hl]; exact h4) (by rw [← hl]; exact h5)
  rw [← hl, h6] at a2
  have hle : off t.length g (t.getD (cy t.length (g + m)) (-1)) ≤ off t.length g (t.getD i (-1)) := by
    rcases Nat.eq_or_lt_of_le h2 with h7 | h7
    · rw [h7, ei]; exact Nat.le_refl _
    · have := ht.chain hg hgu (e - m - 1) m (by omega) (fun q h8 h9 => hs4 q (by omega) (by omega))
      rw [show m + (e - m - 1 + 1) = e by omega, ei] at this
      unfold Lt at this
      omega
  omega
end TabT
