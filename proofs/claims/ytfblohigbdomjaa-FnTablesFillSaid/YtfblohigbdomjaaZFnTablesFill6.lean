/- The law FnTablesFill: part 6 of the printed functions and the facts on them that its row leans on (merged by this session's slim.py). -/
import Derived.Test.YtfblohigbdomjaaZFnTablesFill5
namespace TabT
theorem ff_spec {t : List Int} (hF : Free t) {a : Nat} (ha : a < t.length) :
    ff t a < t.length ∧ us t (cy t.length (a + ff t a)) = false ∧ ∀ m, m < ff t a → us t (cy t.length (a + m)) = true := by
  obtain ⟨i, hi, hu⟩ := hF
  have hx : us t (cy t.length (a + cy t.length (i + t.length - a))) = false := by
    have : cy t.length (a + cy t.length (i + t.length - a)) = i := by unfold cy; split <;> split <;> omega
    rw [this]; exact hu
  obtain ⟨e, he, hpe, hle⟩ := least_nat (p := fun e => us t (cy t.length (a + e)) = false) _ hx
  have hlt : e < t.length := by have : cy t.length (i + t.length - a) < t.length := cy_lt (by omega); omega
  have := ff_eq hlt hpe (fun m hm => by simpa using hle m hm)
  rw [this]
  exact ⟨hlt, hpe, fun m hm => by simpa using hle m hm⟩
/-- A key's own cell. -/
def own (n : Nat) (k : Int) : Nat := (k % (n : Int)).toNat
theorem own_lt {n : Nat} (hn : 0 < n) (k : Int) : own n k < n := by
  unfold own
  have := Int.emod_lt_of_pos k (show (0 : Int) < n by omega)
  have := Int.emod_nonneg k (show (n : Int) ≠ 0 by omega)
  omega
/-- Where a key goes. -/
def pos (t : List Int) (k : Int) : Nat := cy t.length (own t.length k + ff t (own t.length k))
def ins (t : List Int) (k : Int) : List Int := t.set (pos t k) k
@[simp] theorem length_ins (t : List Int) (k : Int) : (ins t k).length = t.length := by simp [ins]
/-- What a key costs in a cell. -/
def cost (n i : Nat) (k : Int) : Nat := cy n (i + n - own n k)
theorem cost_lt {n i : Nat} (hi : i < n) (k : Int) : cost n i k < n := cy_lt (by have := own_lt (n := n) (by omega) k; omega)
theorem own_cost {n i : Nat} (hi : i < n) (k : Int) : cy n (own n k + cost n i k) = i := by
  have := own_lt (n := n) (by omega) k
  unfold cost cy; split <;> split <;> omega
theorem cost_own {n d : Nat} (hd : d < n) (k : Int) : cost n (cy n (own n k + d)) k = d := by
  have := own_lt (n := n) (by omega) k
  unfold cost cy; split <;> split <;> omega
theorem pos_lt {t : List Int} (hF : Free t) (k : Int) : pos t k < t.length := by
  have hn : 0 < t.length := by obtain ⟨i, hi, _⟩ := hF; omega
  have ho := own_lt hn k
  have := (ff_spec hF ho).1
  exact cy_lt (by omega)
theorem pos_free {t : List Int} (hF : Free t) (k : Int) : us t (pos t k) = false := by
  have hn : 0 < t.length := by obtain ⟨i, hi, _⟩ := hF; omega
  exact (ff_spec hF (own_lt hn k)).2.1
/-- The sum of all costs. -/
def costs (t : List Int) : List Nat := t.mapIdx fun i k => if 0 ≤ k then cost t.length i k else 0
def total (t : List Int) : Nat := (costs t).sum
theorem sum_set_nat : ∀ (l : List Nat) (i x : Nat), i < l.length → (l.set i x).sum + l.getD i 0 = l.sum + x
  | [], i, x, h => by simp at h
  | y :: l, 0, x, h => by simp; omega
  | y :: l, i + 1, x, h => by
    have := sum_set_nat l i x (by simpa using h)
    simp only [List.set_cons_succ, List.sum_cons, List.getD_cons_succ]; omega
theorem costs_set (t : List Int) (p : Nat) (k : Int) : costs (t.set p k) = (costs t).set p (if 0 ≤ k then cost t.length p k else 0) := by
  apply List.ext_getElem
  · simp [costs]
  · intro i h1 h2
    simp only [costs, List.length_set, List.getElem_mapIdx, List.getElem_set]
    by_cases e : p = i
    · subst e; simp
    · simp [e]
theorem getD_costs (t : List Int) (i : Nat) (hi : i < t.length) : (costs t).getD i 0 = if 0 ≤ t.getD i (-1) then cost t.length i (t.getD i (-1)) else 0 := by
  simp [costs, List.getD_eq_getElem?_getD, List.getElem?_mapIdx, List.getElem?_eq_getElem hi]
theorem total_set (t : List Int) (p : Nat) (k : Int) (hp : p < t.length) (hk : 0 ≤ k) (hf : us t p = false) : total (t.set p k) = total t + cost t.length p k := by
  have := sum_set_nat (costs t) p (cost t.length p k) (by simpa [costs] using hp)
  rw [getD_costs t p hp, if_neg (by simpa [us] using hf)] at this
  unfold total
  rw [costs_set t p k, if_pos hk]
  omega
theorem total_ins {t : List Int} (hF : Free t) {k : Int} (hk : 0 ≤ k) : total (ins t k) = total t + ff t (own t.length k) := by
  have hn : 0 < t.length := by obtain ⟨i, hi, _⟩ := hF; omega
  rw [ins, total_set _ _ _ (pos_lt hF k) hk (pos_free hF k), pos, cost_own (ff_spec hF (own_lt hn k)).1]
/-- Alike in their used cells. -/
def Alike (t u : List Int) : Prop := t.length = u.length ∧ ∀ i, us t i = us u i
theorem Alike.refl (t : List Int) : Alike t t := ⟨rfl, fun _ => rfl⟩
theorem Alike.symm {t u : List Int} (h : Alike t u) : Alike u t := ⟨h.1.symm, fun i => (h.2 i).symm⟩
theorem Alike.trans {t u v : List Int} (h : Alike t u) (k : Alike u v) : Alike t v := ⟨h.1.trans k.1, fun i => (h.2 i).trans (k.2 i)⟩
theorem Alike.free {t u : List Int} (h : Alike t u) (hF : Free t) : Free u := by
  obtain ⟨i, hi, hu⟩ := hF
  exact ⟨i, by have := h.1; omega, by rw [← h.2]; exact hu⟩
theorem ff_alike {t u : List Int} (h : Alike t u) (hF : Free t) {a : Nat} (ha : a < t.length) : ff u a = ff t a := by
  have := ff_spec hF ha
  apply ff_eq
  · rw [← h.1]; exact this.1
  · rw [← h.2, ← h.1]; exact this.2.1
  · intro m hm; rw [← h.2, ← h.1]; exact this.2.2 m hm
theorem pos_alike {t u : List Int} (h : Alike t u) (hF : Free t) (k : Int) : pos u k = pos t k := by
  have hn : 0 < t.length := by obtain ⟨i, hi, _⟩ := hF; omega
  unfold pos
  rw [← h.1, ff_alike h hF (own_lt hn k)]
theorem ins_alike {t u : List Int} (h : Alike t u) (hF : Free t) {k : Int} (hk : 0 ≤ k) : Alike (ins t k) (ins u k) := by
  refine ⟨by simpa using h.1, fun i => ?_⟩
  rw [ins, ins, us_set _ _ _ _ (pos_lt hF k) hk, us_set _ _ _ _ (pos_lt (h.free hF) k) hk, pos_alike h hF k, h.2]
/-- How many cells are used. -/
def many (t : List Int) : Nat := (t.filter fun k => decide (0 ≤ k)).length
theorem many_le (t : List Int) : many t ≤ t.length := List.length_filter_le _ _
theorem free_of_many : ∀ (t : List Int), many t < t.length → Free t
  | [], h => by simp [many] at h
  | k :: t, h => by
    by_cases hk : 0 ≤ k
    · have : many t < t.length := by simp only [many, List.filter_cons, hk, decide_true, if_true, List.length_cons] at h ⊢; omega
      obtain ⟨i, hi, hu⟩ := free_of_many t this
      exact ⟨i + 1, by simp; omega, by simpa [us] using hu⟩
    · exact ⟨0, by simp, by simp [us]; omega⟩
theorem many_of_free : ∀ {t : List Int}, Free t → many t < t.length
  | [], h => by obtain ⟨i, hi, _⟩ := h; simp at hi
  | k :: t, ⟨i, hi, hu⟩ => by
    have hle := many_le t
    cases i with
    | zero => have : ¬ 0 ≤ k := by simpa [us] using hu
              simp only [many, List.filter_cons, this, decide_false, Bool.false_eq_true, if_false, List.length_cons] at hle ⊢; omega
    | succ i =>
      have := many_of_free (t := t) ⟨i, by simpa using hi, by simpa [us] using hu⟩
      simp only [many, List.filter_cons, List.length_cons] at this ⊢
      split
      · simp only [List.length_cons]; omega
      · omega
theorem many_set : ∀ (t : List Int) (p : Nat) (k : Int), us t p = false → p < t.length → 0 ≤ k → many (t.set p k) = many t + 1
  | [], p, k, _, h, _ => by simp at h
  | x :: t, 0, k, hu, _, hk => by have : ¬ 0 ≤ x := by simpa [us] using hu
                                  simp [many, this, hk]
  | x :: t, p + 1, k, hu, hp, hk => by
    have := many_set t p k (by simpa [us] using hu) (by simpa using hp) hk
    simp only [many, List.set_cons_succ, List.filter_cons] at this ⊢
    split
    · simp only [List.length_cons]; omega
    · omega
theorem many_ins {t : List Int} (hF : Free t) {k : Int} (hk : 0 ≤ k) : many (ins t k) = many t + 1 := many_set _ _ _ (pos_free hF k) (pos_lt hF k) hk
theorem many_alike {t u : List Int} (h : Alike t u) : many t = many u := by
  have key : ∀ (t u : List Int), t.length = u.length → (∀ i, us t i = us u i) → many t = many u := by
    intro t
    induction t with
    | nil => intro u hl _; cases u with
      | nil => rfl
      | cons => simp at hl
    | cons x t ih =>
      intro u hl hu
      cases u with
      | nil => simp at hl
      | cons y u =>
        have h0 := hu 0
        have := ih u (by simpa using hl) (fun i => by simpa [us] using hu (i + 1))
        have h0 : decide (0 ≤ x) = decide (0 ≤ y) := by simpa [us] using h0
        simp only [many, List.filter_cons, h0] at this ⊢
        split <;> simp [this]
  exact key t u h.1 h.2
/-- Two keys in either order: the same cells, the same costs together. -/
theorem ins_swap {t : List Int} {a b : Int} (ha : 0 ≤ a) (hb : 0 ≤ b) (hm : many t + 1 < t.length) : Alike (ins (ins t a) b) (ins (ins t b) a) ∧ total (ins (ins t a) b) = total (ins (ins t b) a) := by
  have hF : Free t := free_of_many t (by omega)
  have hn : 0 < t.length := by omega
  have hFa : Free (ins t a) := free_of_many _ (by rw [many_ins hF ha, length_ins]; exact hm)
  have hFb : Free (ins t b) := free_of_many _ (by rw [many_ins hF hb, length_ins]; exact hm)
  have oa := own_lt hn a
  have ob := own_lt hn b
  have sa := ff_spec hF oa
  have sb := ff_spec hF ob
  have ua : ∀ i, us (ins t a) i = (decide (i = pos t a) || us t i) := fun i => us_set _ _ _ _ (pos_lt hF a) ha
  have ub : ∀ i, us (ins t b) i = (decide (i = pos t b) || us t i) := fun i => us_set _ _ _ _ (pos_lt hF b) hb
  have Ub : ∀ i, us (ins (ins t a) b) i = (decide (i = pos (ins t a) b) || us (ins t a) i) := fun i => us_set _ _ _ _ (pos_lt hFa b) hb
  have Ua : ∀ i, us (ins (ins t b) a) i = (decide (i = pos (ins t b) a) || us (ins t b) i) := fun i => us_set _ _ _ _ (pos_lt hFb a) ha
  have Ta := total_ins hF ha
  have Tb := total_ins hF hb
  have Tab := total_ins hFa hb
  have Tba := total_ins hFb ha
  rw [length_ins] at Tab Tba
  by_cases hp : pos t a = pos t b
  · -- both would have gone to one cell: the later one goes on from there
    have al : Alike (ins t a) (ins t b) := ⟨by simp, fun i => by rw [ua, ub, hp]⟩
    have hF1 := hFa
    have q1 := pos_lt hF a
    have sp := ff_spec hFa (a := pos t a) (by simpa using q1)
    rw [length_ins] at sp
    -- from an own cell: first to the common cell, then on
    have go : ∀ (k : Int), pos t k = pos t a → own t.length k < t.length → ff t (own t.length k) < t.length → (∀ m, m < ff t (own t.length k) → us t (cy t.length (own t.length k + m)) = true) →
        ff (ins t a) (own t.length k) = ff t (own t.length k) + ff (ins t a) (pos t a) := by
      intro k hk ho h1 h2
      have hx := ff_spec hFa (a := own t.length k) (by simpa using ho)
      rw [length_ins] at hx
      have used : ∀ m, m < ff t (own t.length k) + ff (ins t a) (pos t a) → us (ins t a) (cy t.length (own t.length k + m)) = true ∨ t.length ≤ m := by
        intro m hm
        rcases Nat.lt_or_ge m t.length with hmn | hmn
        · left
          rcases Nat.lt_or_ge m (ff t (own t.length k)) with h | h
          · rw [ua, h2 m h]; simp
          · have e := sp.2.2 (m - ff t (own t.length k)) (by omega)
            have : cy t.length (pos t a + (m - ff t (own t.length k))) = cy t.length (own t.length k + m) := by
              rw [← hk]; unfold pos cy; split <;> split <;> split <;> omega
            rw [this] at e
            exact e
        · exact .inr hmn
      -- the first free cell is not before
      have ge : ff t (own t.length k) + ff (ins t a) (pos t a) ≤ ff (ins t a) (own t.length k) := by
        rcases Nat.lt_or_ge (ff (ins t a) (own t.length k)) (ff t (own t.length k) + ff (ins t a) (pos t a)) with h | h
        · rcases used _ h with h' | h'
          · rw [hx.2.1] at h'; cases h'
          · omega
        · exact h
      have hlt : ff t (own t.length k) + ff (ins t a) (pos t a) < t.length := by omega
      have hm := ff_eq (t := ins t a) (a := own t.length k) (e := ff t (own t.length k) + ff (ins t a) (pos t a)) (by simpa using hlt) (by
        rw [length_ins]
        have hP : pos t a = cy t.length (own t.length k + ff t (own t.length k)) := hk.symm
        have : cy t.length (own t.length k + (ff t (own t.length k) + ff (ins t a) (pos t a))) = cy t.length (pos t a + ff (ins t a) (pos t a)) := by
          generalize ff (ins t a) (pos t a) = f at hlt
          rw [hP]; unfold cy; split <;> split <;> split <;> omega
        rw [this]; exact sp.2.1) (by
        intro m hm
        rw [length_ins]
        rcases used m hm with h' | h'
        · exact h'
        · omega)
      exact hm
    have ga := go a rfl oa sa.1 sa.2.2
    have gb := go b hp.symm ob sb.1 sb.2.2
    have ga' : ff (ins t b) (own t.length a) = ff (ins t a) (own t.length a) := ff_alike al hFa (by simpa using oa)
    constructor
    · refine ⟨by simp, fun i => ?_⟩
      rw [Ub, Ua, ua, ub, hp]
      have e1 : pos (ins t a) b = pos (ins t b) a := by
        rw [pos_alike al hFa a]
        unfold pos
        rw [length_ins, ga, gb]
        have hpa : pos t a = cy t.length (own t.length a + ff t (own t.length a)) := rfl
        have hpb : pos t a = cy t.length (own t.length b + ff t (own t.length b)) := hp
        have hxa := ff_spec hFa (a := own t.length a) (by simpa using oa)
        have hxb := ff_spec hFa (a := own t.length b) (by simpa using ob)
        rw [length_ins, ga] at hxa
        rw [length_ins, gb] at hxb
        have h1 := hxa.1
        have h2 := hxb.1
        generalize ff (ins t a) (pos t a) = f at *
        revert hpa hpb
        generalize pos t a = P
        unfold cy
        split <;> split <;> split <;> split <;> omega
      rw [e1]
    · omega
  · -- two cells: each key goes to its own one in either order
    have eb : ff (ins t a) (own t.length b) = ff t (own t.length b) := by
      apply ff_eq
      · simpa using sb.1
      · rw [length_ins, ua, sb.2.1]
        have : ¬ cy t.length (own t.length b + ff t (own t.length b)) = pos t a := fun e => hp e.symm
        simp [this]
      · intro m hm; rw [length_ins, ua, sb.2.2 m hm]; simp
    have ea : ff (ins t b) (own t.length a) = ff t (own t.length a) := by
      apply ff_eq
      · simpa using sa.1
      · rw [length_ins, ub, sa.2.1]
        have : ¬ cy t.length (own t.length a + ff t (own t.length a)) = pos t b := fun e => hp e
        simp [this]
      · intro m hm; rw [length_ins, ub, sa.2.2 m hm]; simp
    have pb : pos (ins t a) b = pos t b := by unfold pos; rw [length_ins, eb]
    have pa : pos (ins t b) a = pos t a := by unfold pos; rw [length_ins, ea]
    constructor
    · refine ⟨by simp, fun i => ?_⟩
      rw [Ub, Ua, ua, ub, pa, pb]
      cases decide (i = pos t a) <;> cases decide (i = pos t b) <;> simp
    · omega
/-- All keys, in order. -/
def insAll (t : List Int) (ks : List Int) : List Int := ks.foldl ins t
@[simp] theorem length_insAll (ks : List Int) : ∀ (t : List Int), (insAll t ks).length = t.length := by
  induction ks with
  | nil => intro t; rfl
  | cons k ks ih => intro t; simp only [insAll, List.foldl_cons] at ih ⊢; rw [ih]; simp
theorem insAll_alike : ∀ (ks t u : List Int), Alike t u → total t = total u → (∀ k ∈ ks, 0 ≤ k) → many t + ks.length < t.length → Alike (insAll t ks) (insAll u ks) ∧ total (insAll t ks) = total (insAll u ks)
  | [], t, u, h, ht, _, _ => ⟨h, ht⟩
  | k :: ks, t, u, h, ht, hk, hm => by
    have hk0 : 0 ≤ k := hk k (by simp)
    have hF : Free t := free_of_many t (by omega)
    have hn : 0 < t.length := by omega
    have := insAll_alike ks (ins t k) (ins u k) (ins_alike h hF hk0) (by rw [total_ins hF hk0, total_ins (h.free hF) hk0, ht, ← h.1, ff_alike h hF (own_lt hn k)]) (fun x hx => hk x (by simp [hx])) (by rw [many_ins hF hk0, length_ins]; simp at hm; omega)
    exact this
/-- THE USED CELLS AND THE SUM OF ALL COSTS DO NOT DEPEND ON THE ORDER. -/
theorem insAll_perm {ks ks' : List Int} (h : ks.Perm ks') : ∀ (t u : List Int), Alike t u → total t = total u → (∀ k ∈ ks, 0 ≤ k) → many t + ks.length < t.length → Alike (insAll t ks) (insAll u ks') ∧ total (insAll t ks) = total (insAll u ks') := by
  induction h with
  | nil => intro t u h ht _ _; exact ⟨h, ht⟩
  | cons k p ih =>
    intro t u h ht hk hm
    have hk0 : 0 ≤ k := hk k (by simp)
    have hF : Free t := free_of_many t (by simp at hm; omega)
    have hn : 0 < t.length := by omega
    exact ih (ins t k) (ins u k) (ins_alike h hF hk0) (by rw [total_ins hF hk0, total_ins (h.free hF) hk0, ht, ← h.1, ff_alike h hF (own_lt hn k)]) (fun x hx => hk x (by simp [hx])) (by rw [many_ins hF hk0, length_ins]; simp at hm; omega)
  | swap a b l =>
    intro t u h ht hk hm
    have ha : 0 ≤ a := hk a (by simp)
    have hb : 0 ≤ b := hk b (by simp)
    have hm' : many t + 1 < t.length := by simp at hm; omega
    have hF : Free t := free_of_many t (by omega)
    have hn : 0 < t.length := by omega
    obtain ⟨s1, s2⟩ := ins_swap (t := t) hb ha hm'
    have hFa : Free (ins t a) := free_of_many _ (by rw [many_ins hF ha, length_ins]; exact hm')
    have e1 := ins_alike h hF ha
    have e2 := ins_alike e1 hFa hb
    have oa := own_lt hn a
    have ob := own_lt hn b
    have e3 : total (ins (ins t a) b) = total (ins (ins u a) b) := by
      rw [total_ins hFa hb, total_ins (e1.free hFa) hb, total_ins hF ha, total_ins (h.free hF) ha, ht, ← h.1, ff_alike h hF oa, length_ins, length_ins, ← h.1, ff_alike e1 hFa (by simpa using ob)]
    exact insAll_alike l _ _ (s1.trans e2) (s2.trans e3) (fun x hx => hk x (by simp [hx])) (by
      have hFb : Free (ins t b) := free_of_many _ (by rw [many_ins hF hb, length_ins]; exact hm')
      rw [many_ins hFb ha, many_ins hF hb]; simp at hm ⊢; omega)
  | trans p q ih1 ih2 =>
    intro t u h ht hk hm
    have a := ih1 t t (Alike.refl t) rfl hk hm
    have b := ih2 t u h ht (fun x hx => hk x (p.mem_iff.2 hx)) (by rw [← p.length_eq]; exact hm)
    exact ⟨a.1.trans b.1, a.2.trans b.2⟩
structure Valid (t : List Int) : Prop where
  free : Free t
  ge : ∀ i, i < t.length → -1 ≤ t.getD i (-1)
  nodup : ∀ i j, us t i = true → us t j = true → t.getD i (-1) = t.getD j (-1) → i = j
  path : ∀ i, us t i = true → ∀ m, m < cost t.length i (t.getD i (-1)) → us t (cy t.length (own t.length (t.getD i (-1)) + m)) = true
/-- A part of a table. -/
def Part (p t : List Int) : Prop := p.length = t.length ∧ ∀ i, us p i = true → us t i = true ∧ p.getD i (-1) = t.getD i (-1)
/-- The key of a cell may come next. -/
def Ready (t p : List Int) (i : Nat) : Prop := us t i = true ∧ us p i = false ∧ ∀ m, m < cost t.length i (t.getD i (-1)) → us p (cy t.length (own t.length (t.getD i (-1)) + m)) = true
theorem exists_ready {t p : List Int} (hV : Valid t) (hne : ∃ i, us t i = true ∧ us p i = false) : ∃ i, Ready t p i := by
  obtain ⟨g, hg, hgu⟩ := hV.free
  obtain ⟨i0, h1, h2⟩ := hne
  have hi0 := us_lt h1
  have hx : 1 ≤ cy t.length (i0 + t.length - g) ∧ us t (cy t.length (g + cy t.length (i0 + t.length - g))) = true ∧ us p (cy t.length (g + cy t.length (i0 + t.length - g))) = false := by
    have e : cy t.length (g + cy t.length (i0 + t.length - g)) = i0 := by unfold cy; split <;> split <;> omega
    rw [e]
    refine ⟨?_, h1, h2⟩
    have : i0 ≠ g := fun e => by rw [e, hgu] at h1; cases h1
    unfold cy; split <;> omega
  obtain ⟨e, he, ⟨he1, hp1, hp2⟩, hle⟩ := least_nat (p := fun e => 1 ≤ e ∧ us t (cy t.length (g + e)) = true ∧ us p (cy t.length (g + e)) = false) _ hx
  have hen : e < t.length := by have : cy t.length (i0 + t.length - g) < t.length := cy_lt (by omega); omega
  refine ⟨_, hp1, hp2, fun m hm => ?_⟩
  have hi := us_lt hp1
  generalize hk : t.getD (cy t.length (g + e)) (-1) = k at hm ⊢
  have hpath := hV.path _ hp1
  rw [hk] at hpath
  have ho := own_lt (n := t.length) (by omega) k
  have hc := cost_lt hi k
  have hoc := own_cost hi k
  generalize hcc : cost t.length (cy t.length (g + e)) k = c at *
  generalize own t.length k = o at *
  have hce : c < e := by
    rcases Nat.lt_or_ge c e with h | h
    · exact h
    · have := hpath (c - e) (by omega)
      have e1 : cy t.length (o + (c - e)) = g := by revert hoc; unfold cy; split <;> split <;> split <;> omega
      rw [e1, hgu] at this; cases this
  have hu := hpath m hm
  have e2 : cy t.length (o + m) = cy t.length (g + (e - c + m)) := by revert hoc; unfold cy; split <;> split <;> split <;> split <;> omega
  rw [e2] at hu ⊢
  cases hq : us p (cy t.length (g + (e - c + m))) with
  | true => rfl
  | false => exact absurd ⟨by omega, hu, hq⟩ (hle (e - c + m) (by omega))
theorem Part.free {p t : List Int} (hP : Part p t) (hF : Free t) : Free p := by
  obtain ⟨i, hi, hu⟩ := hF
  refine ⟨i, by rw [hP.1]; exact hi, ?_⟩
  cases h : us p i with
  | false => rfl
  | true => rw [(hP.2 i h).1] at hu; cases hu
/-- The key that may come next comes to its cell. -/
theorem ready_pos {t p : List Int} (hP : Part p t) {i : Nat} (hR : Ready t p i) : pos p (t.getD i (-1)) = i := by
  have hi := us_lt hR.1
  have : ff p (own t.length (t.getD i (-1))) = cost t.length i (t.getD i (-1)) := by
    apply ff_eq
    · rw [hP.1]; exact cost_lt hi _
    · rw [hP.1, own_cost hi]; exact hR.2.1
    · intro m hm; rw [hP.1]; exact hR.2.2 m hm
  unfold pos
  rw [hP.1, this, own_cost hi]
theorem Part.set {p t : List Int} (hP : Part p t) {i : Nat} (hu : us t i = true) : Part (p.set i (t.getD i (-1))) t := by
  have hi := us_lt hu
  refine ⟨by simpa using hP.1, fun j hj => ?_⟩
  rw [us_set _ _ _ _ (by rw [hP.1]; exact hi) (by simpa [us] using hu)] at hj
  rw [getD_set _ _ _ _ _ (by rw [hP.1]; exact hi)]
  by_cases e : j = i
  · subst e; simp [hu]
  · simp [e] at hj ⊢; exact hP.2 j hj
/-- A part in which all cells are used that are used in the whole. -/
theorem Part.full {p t : List Int} (hP : Part p t) (hg : ∀ i, i < t.length → -1 ≤ t.getD i (-1)) (hp : ∀ i, i < p.length → -1 ≤ p.getD i (-1)) (h : ∀ i, us t i = true → us p i = true) : p = t := by
  apply List.ext_getElem hP.1
  intro i h1 h2
  have e1 : p.getD i (-1) = p[i] := by rw [List.getD_eq_getElem?_getD, List.getElem?_eq_getElem h1]; rfl
  have e2 : t.getD i (-1) = t[i] := by rw [List.getD_eq_getElem?_getD, List.getElem?_eq_getElem h2]; rfl
  cases hu : us t i with
  | true => rw [← e1, ← e2]; exact (hP.2 i (h i hu)).2
  | false =>
    have hq : us p i = false := by
      cases hq : us p i with
      | false => rfl
      | true => rw [(hP.2 i hq).1] at hu; cases hu
    have a := hg i h2
    have b := hp i h1
    simp only [us, decide_eq_false_iff_not] at hu hq
    omega
/-- All but the paths through the hole are as in a table. -/
structure Holed (t : List Int) (h : Nat) : Prop where
  hole : h < t.length ∧ t.getD h (-1) = -1
  other : ∃ g, g < t.length ∧ g ≠ h ∧ us t g = false
  ge : ∀ i, i < t.length → -1 ≤ t.getD i (-1)
  nodup : ∀ i j, us t i = true → us t j = true → t.getD i (-1) = t.getD j (-1) → i = j
  path : ∀ i, us t i = true → ∀ m, m < cost t.length i (t.getD i (-1)) → cy t.length (own t.length (t.getD i (-1)) + m) ≠ h → us t (cy t.length (own t.length (t.getD i (-1)) + m)) = true
theorem Holed.valid {t : List Int} {h k : Nat} (hH : Holed t h) (hk : k < t.length) (h1 : 1 ≤ k) (hfree : us t (cy t.length (h + k)) = false)
    (hu : ∀ m, 1 ≤ m → m < k → us t (cy t.length (h + m)) = true ∧ cost t.length (cy t.length (h + m)) (t.getD (cy t.length (h + m)) (-1)) < m) : Valid t := by
  have hn : 0 < t.length := by omega
  have hh := hH.hole.1
  refine ⟨⟨h, hh, by rw [us, hH.hole.2]; rfl⟩, hH.ge, hH.nodup, fun i hi m hm => ?_⟩
  by_cases e : cy t.length (own t.length (t.getD i (-1)) + m) = h
  · -- the cell i lies behind the hole, before the free cell
    exfalso
    have hil := us_lt hi
    have ho := own_lt hn (t.getD i (-1))
    have hc := cost_lt hil (t.getD i (-1))
    have hoc := own_cost hil (t.getD i (-1))
    have hpath := hH.path i hi
    generalize hcc : cost t.length i (t.getD i (-1)) = c at *
    generalize own t.length (t.getD i (-1)) = o at *
    -- i = h + (c - m)
    have ei : i = cy t.length (h + (c - m)) := by revert e hoc; unfold cy; split <;> split <;> split <;> omega
    rcases Nat.lt_or_ge (c - m) k with hlt | hge
    · have := (hu (c - m) (by omega) hlt).2
      rw [← ei, hcc] at this
      omega
    · have hne : cy t.length (o + (m + k)) = cy t.length (h + k) := by revert e; unfold cy; split <;> split <;> split <;> omega
      rcases Nat.lt_or_ge (m + k) c with hmk | hmk
      · have := hpath (m + k) hmk (by rw [hne]; unfold cy; split <;> omega)
        rw [hne, hfree] at this; cases this
      · have : c - m = k := by omega
        rw [this] at ei
        rw [ei, hfree] at hi; cases hi
  · exact hH.path i hi m hm e
def keys (t : List Int) : List Int := t.filter fun k => decide (0 ≤ k)
theorem keys_set : ∀ (t : List Int) (p : Nat) (k : Int), p < t.length → us t p = false → 0 ≤ k → (keys (t.set p k)).Perm (k :: keys t)
  | [], p, k, h, _, _ => by simp at h
  | x :: t, 0, k, _, hu, hk => by
    have : ¬ 0 ≤ x := by simpa [us] using hu
    simp [keys, this, hk]
  | x :: t, p + 1, k, h, hu, hk => by
    have ih := keys_set t p k (by simpa using h) (by simpa [us] using hu) hk
    simp only [keys, List.set_cons_succ, List.filter_cons] at ih ⊢
    split
    · exact (ih.cons x).trans (List.Perm.swap _ _ _)
    · exact ih
theorem mem_keys {t : List Int} {k : Int} : k ∈ keys t ↔ ∃ i, us t i = true ∧ t.getD i (-1) = k := by
  unfold keys
  rw [List.mem_filter, List.mem_iff_getElem]
  constructor
  · rintro ⟨⟨i, hi, rfl⟩, hk⟩
    have e : t.getD i (-1) = t[i] := by rw [List.getD_eq_getElem?_getD, List.getElem?_eq_getElem hi]; rfl
    exact ⟨i, by rw [us, e]; exact hk, e⟩
  · rintro ⟨i, hu, rfl⟩
    have hi := us_lt hu
    have e : t.getD i (-1) = t[i] := by rw [List.getD_eq_getElem?_getD, List.getElem?_eq_getElem hi]; rfl
    exact ⟨⟨i, hi, e.symm⟩, by rw [us] at hu; exact hu⟩
def empty (n : Nat) : List Int := List.replicate n (-1)
theorem us_empty (n i : Nat) : us (empty n) i = false := by
  unfold us empty
  rw [List.getD_eq_getElem?_getD, List.getElem?_replicate]
  split <;> simp
theorem keys_empty (n : Nat) : keys (empty n) = [] := by
  unfold keys empty
  rw [List.filter_eq_nil_iff]
  intro x hx
  rw [List.mem_replicate] at hx
  simp [hx.2]
theorem many_keys (t : List Int) : many t = (keys t).length := rfl
theorem Part.keys_le {p t : List Int} (hP : Part p t) : many p ≤ many t := by
  have key : ∀ (p t : List Int), p.length = t.length → (∀ i, us p i = true → us t i = true) → many p ≤ many t := by
    intro p
    induction p with
    | nil => intro t _ _; simp [many]
    | cons x p ih =>
      intro t hl hu
      cases t with
      | nil => simp at hl
      | cons y t =>
        have h0 := hu 0
        have := ih t (by simpa using hl) (fun i hi => by simpa [us] using hu (i + 1) (by simpa [us] using hi))
        simp [us] at h0
        simp only [many, List.filter_cons] at this ⊢
        by_cases hx : 0 ≤ x
        · have hy := h0 hx
          simp only [hx, hy, decide_true, if_true, List.length_cons]; omega
        · simp only [hx, decide_false, Bool.false_eq_true, if_false]
          split
          · simp only [List.length_cons]; omega
          · omega
  exact key p t hP.1 (fun i hi => (hP.2 i hi).1)
/-- From a part, the keys that are left in an order that makes the table. -/
theorem complete {t : List Int} (hV : Valid t) : ∀ (d : Nat) (p : List Int), Part p t → (∀ i, i < p.length → -1 ≤ p.getD i (-1)) → many t ≤ many p + d → ∃ ks, insAll p ks = t ∧ (keys p ++ ks).Perm (keys t) ∧ many p + ks.length = many t := by
  intro d
  induction d with
  | zero =>
    intro p hP hg hm
    refine ⟨[], ?_, ?_⟩
    · show p = t
      apply Classical.byContradiction
      intro hne
      have : ∃ i, us t i = true ∧ us p i = false := by
        apply Classical.byContradiction
        intro hn
        exact hne (hP.full hV.ge hg fun i hi => by
          cases h : us p i with
          | true => rfl
          | false => exact absurd ⟨i, hi, h⟩ hn)
      obtain ⟨i, hi, hpi⟩ := this
      have := Part.keys_le (hP.set hi)
      rw [many_set p i _ hpi (by rw [hP.1]; exact us_lt hi) (by simpa [us] using hi)] at this
      omega
    · have hle := hP.keys_le
      have : p = t := by
        apply Classical.byContradiction
        intro hne
        have : ∃ i, us t i = true ∧ us p i = false := by
          apply Classical.byContradiction
          intro hn
          exact hne (hP.full hV.ge hg fun i hi => by
            cases h : us p i with
            | true => rfl
            | false => exact absurd ⟨i, hi, h⟩ hn)
        obtain ⟨i, hi, hpi⟩ := this
        have := Part.keys_le (hP.set hi)
        rw [many_set p i _ hpi (by rw [hP.1]; exact us_lt hi) (by simpa [us] using hi)] at this
        omega
      rw [this]; simp
  | succ d ih =>
    intro p hP hg hm
    by_cases hx : ∃ i, us t i = true ∧ us p i = false
    · obtain ⟨i, hR⟩ := exists_ready hV hx
      have hk : 0 ≤ t.getD i (-1) := by have := hR.1; rw [us] at this; exact of_decide_eq_true this
      have hip : i < p.length := by rw [hP.1]; exact us_lt hR.1
      have e : ins p (t.getD i (-1)) = p.set i (t.getD i (-1)) := by rw [ins, ready_pos hP hR]
      obtain ⟨ks, h1, h2, h3⟩ := ih (ins p (t.getD i (-1))) (by rw [e]; exact hP.set hR.1) (by
        intro j hj
        rw [e, getD_set _ _ _ _ _ hip]
        split
        · omega
        · exact hg j (by simpa using hj)) (by rw [e, many_set p i _ hR.2.1 hip hk]; omega)
      rw [e, many_set p i _ hR.2.1 hip hk] at h3
      refine ⟨t.getD i (-1) :: ks, h1, ?_, by simp; omega⟩
      have hp := keys_set p i _ hip hR.2.1 hk
      rw [← e] at hp
      refine List.Perm.trans ?_ h2
      refine List.Perm.trans ?_ (hp.symm.append_right ks)
      rw [List.cons_append]
      exact List.perm_middle
    · have : p = t := hP.full hV.ge hg fun i hi => by
          cases h : us p i with
          | true => rfl
          | false => exact absurd ⟨i, hi, h⟩ hx
      exact ⟨[], by rw [this]; rfl, by rw [this]; simp, by rw [this]; rfl⟩
theorem Part.empty (t : List Int) : Part (empty t.length) t := ⟨by simp [TabT.empty], fun i hi => by rw [us_empty] at hi; cases hi⟩
theorem ge_empty (n : Nat) : ∀ i, i < (empty n).length → -1 ≤ (empty n).getD i (-1) := by
  intro i _
  unfold empty
  rw [List.getD_eq_getElem?_getD, List.getElem?_replicate]
  split <;> simp
theorem Valid.order {t : List Int} (hV : Valid t) : ∃ ks, insAll (empty t.length) ks = t ∧ ks.Perm (keys t) := by
  obtain ⟨ks, h1, h2, _⟩ := complete hV (many t) (empty t.length) (Part.empty t) (ge_empty _) (by omega)
  rw [keys_empty] at h2
  exact ⟨ks, h1, h2⟩
/-- TWO VALID TABLES WITH THE SAME KEYS have the same used cells and the same sum of costs. -/
theorem alike_of_keys {t u : List Int} (ht : Valid t) (hu : Valid u) (hl : t.length = u.length) (hk : (keys t).Perm (keys u)) : Alike t u ∧ total t = total u := by
  obtain ⟨ks, h1, h2⟩ := ht.order
  obtain ⟨ls, h3, h4⟩ := hu.order
  have hp : ks.Perm ls := h2.trans (hk.trans h4.symm)
  have := insAll_perm hp (empty t.length) (empty u.length) (by rw [hl]; exact Alike.refl _) (by rw [hl]) (fun k hkm => by
      have := h2.mem_iff.1 hkm
      obtain ⟨i, hi, rfl⟩ := mem_keys.1 this
      rw [us] at hi; exact of_decide_eq_true hi) (by
      have : many (empty t.length) = 0 := by rw [many_keys, keys_empty]; rfl
      rw [this, h2.length_eq, ← many_keys]
      have := many_of_free ht.free
      simp [empty]; omega)
  rw [h1, h3] at this
  exact this
/-- A key in a cell comes ahead of another one in the next cell. -/
def Bef (n i : Nat) (x y : Int) : Prop := cost n (cy n (i + 1)) y < cost n i x + 1 ∨ cost n (cy n (i + 1)) y = cost n i x + 1 ∧ y < x
structure Robin (t : List Int) : Prop where
  valid : Valid t
  sorted : ∀ i, us t i = true → us t (cy t.length (i + 1)) = true → Bef t.length i (t.getD i (-1)) (t.getD (cy t.length (i + 1)) (-1))
def Over (n i : Nat) (h o : Int) : Prop := cost n i o < cost n i h ∨ cost n i h = cost n i o ∧ o < h
instance (n i : Nat) (h o : Int) : Decidable (Over n i h o) := by unfold Over; infer_instance
def robGo : Nat → List Int → Int → Nat → List Int
  | 0, t, h, a => t.set a h
  | d + 1, t, h, a => if Over t.length a h (t.getD a (-1)) then robGo d (t.set a h) (t.getD a (-1)) (cy t.length (a + 1)) else robGo d t h (cy t.length (a + 1))
def rob (t : List Int) (k : Int) : List Int := robGo (ff t (own t.length k)) t k (own t.length k)
/-- What holds at a cell, with a key in hand. -/
structure Hand (t : List Int) (h : Int) (a : Nat) : Prop where
  robin : Robin t
  two : 2 ≤ t.length
  at_ : a < t.length
  pos : 0 ≤ h
  new : ∀ i, us t i = true → t.getD i (-1) ≠ h
  path : ∀ m, m < cost t.length a h → us t (cy t.length (own t.length h + m)) = true
  ahead : us t (cy t.length (a + t.length - 1)) = true → Bef t.length (cy t.length (a + t.length - 1)) (t.getD (cy t.length (a + t.length - 1)) (-1)) h
theorem cost_next {n a : Nat} (ha : a < n) (h2 : 2 ≤ n) (h : Int) (hc : cost n a h + 1 < n) : cost n (cy n (a + 1)) h = cost n a h + 1 := by
  have ho := own_lt (n := n) (by omega) h
  revert hc
  unfold cost cy
  generalize own n h = o at *
  split <;> split <;> split <;> omega
theorem prev_next {n a : Nat} (ha : a < n) (h2 : 2 ≤ n) : cy n (cy n (a + 1) + n - 1) = a := by unfold cy; split <;> split <;> omega
theorem next_prev {n a : Nat} (ha : a < n) (h2 : 2 ≤ n) : cy n (cy n (a + n - 1) + 1) = a := by unfold cy; split <;> split <;> omega
theorem next_ne {n a : Nat} (ha : a < n) (h2 : 2 ≤ n) : cy n (a + 1) ≠ a := by unfold cy; split <;> omega
/-- A key whose path is used up to a used cell costs less than n - 1 there. -/
theorem cost_small {t : List Int} (hF : Free t) {a : Nat} {h : Int} (ha : us t a = true) (hp : ∀ m, m < cost t.length a h → us t (cy t.length (own t.length h + m)) = true) : cost t.length a h + 1 < t.length := by
  have hal := us_lt ha
  have hc := cost_lt hal h
  have hoc := own_cost hal h
  have ho := own_lt (n := t.length) (by omega) h
  apply Classical.byContradiction
  intro hn
  obtain ⟨g, hg, hgu⟩ := hF
  have hcn : cost t.length a h = t.length - 1 := by omega
  generalize cost t.length a h = c at *
  generalize own t.length h = o at *
  -- the free cell is some o + m
  have e : cy t.length (o + cy t.length (g + t.length - o)) = g := by unfold cy; split <;> split <;> omega
  have hm : cy t.length (g + t.length - o) < t.length := cy_lt (by omega)
  rcases Nat.lt_or_ge (cy t.length (g + t.length - o)) c with h1 | h1
  · have := hp _ h1
    rw [e, hgu] at this; cases this
  · have : cy t.length (g + t.length - o) = c := by omega
    rw [this, hoc] at e
    rw [← e, ha] at hgu; cases hgu
theorem Hand.pass {t : List Int} {h : Int} {a : Nat} (H : Hand t h a) (hu : us t a = true) (hn : ¬ Over t.length a h (t.getD a (-1))) : Hand t h (cy t.length (a + 1)) := by
  have hs := cost_small H.robin.valid.free hu H.path
  have hcn := cost_next H.at_ H.two h hs
  refine ⟨H.robin, H.two, cy_lt (by have := H.at_; omega), H.pos, H.new, ?_, ?_⟩
  · intro m hm
    rw [hcn] at hm
    rcases Nat.lt_or_ge m (cost t.length a h) with h1 | h1
    · exact H.path m h1
    · have : m = cost t.length a h := by omega
      rw [this, own_cost H.at_]; exact hu
  · rw [prev_next H.at_ H.two]
    intro _
    unfold Bef
    rw [hcn]
    unfold Over at hn
    have := H.new a hu
    omega
theorem us_same {t : List Int} {a : Nat} {h : Int} (ha : us t a = true) (hh : 0 ≤ h) (i : Nat) : us (t.set a h) i = us t i := by
  rw [us_set _ _ _ _ (us_lt ha) hh]
  by_cases e : i = a
  · subst e; simp [ha]
  · simp [e]
theorem Hand.swap {t : List Int} {h : Int} {a : Nat} (H : Hand t h a) (hu : us t a = true) (ho : Over t.length a h (t.getD a (-1))) : Hand (t.set a h) (t.getD a (-1)) (cy t.length (a + 1)) := by
  have hal := H.at_
  have h2 := H.two
  have hV := H.robin.valid
  have us' : ∀ i, us (t.set a h) i = us t i := us_same hu H.pos
  have gd : ∀ i, (t.set a h).getD i (-1) = if i = a then h else t.getD i (-1) := fun i => getD_set _ _ _ _ _ hal
  have hl : (t.set a h).length = t.length := by simp
  obtain ⟨o, hoe⟩ : ∃ o, o = t.getD a (-1) := ⟨_, rfl⟩
  have hpo := hV.path a hu
  rw [← hoe] at ho hpo ⊢
  have ho0 : 0 ≤ o := by rw [us] at hu; rw [hoe]; exact of_decide_eq_true hu
  have hsm := cost_small hV.free hu hpo
  have hcn := cost_next hal h2 o hsm
  have hnew := H.new
  refine ⟨⟨⟨?_, ?_, ?_, ?_⟩, ?_⟩, by rw [hl]; exact h2, by rw [hl]; exact cy_lt (by omega), ho0, ?_, ?_, ?_⟩
  · obtain ⟨g, hg, hgu⟩ := hV.free
    exact ⟨g, by rw [hl]; exact hg, by rw [us']; exact hgu⟩
  · intro i hi
    rw [gd]
    split
    · have := H.pos; omega
    · exact hV.ge i (by rw [hl] at hi; exact hi)
  · intro i j hi hj
    rw [us'] at hi hj
    rw [gd, gd]
    split
    · split
      · intro _; omega
      · intro e; exact absurd e.symm (hnew j hj)
    · split
      · intro e; exact absurd e (hnew i hi)
      · exact hV.nodup i j hi hj
  · intro i hi m hm
    rw [us'] at hi
    rw [gd, hl] at hm ⊢
    rw [us']
    split
    · rename_i e; subst e; rw [if_pos rfl] at hm; exact H.path m hm
    · rename_i e; rw [if_neg e] at hm; exact hV.path i hi m hm
  · intro i hi hi1
    rw [us', hl] at hi1
    rw [us'] at hi
    rw [gd, gd, hl]
    have hil := us_lt hi
    by_cases e1 : i = a
    · subst e1
      rw [if_pos rfl, if_neg (next_ne hal h2)]
      have := H.robin.sorted i hi hi1
      rw [← hoe] at this
      unfold Bef at this ⊢
      unfold Over at ho
      omega
    · rw [if_neg e1]
      by_cases e2 : cy t.length (i + 1) = a
      · rw [if_pos e2]
        have ep : cy t.length (a + t.length - 1) = i := by rw [← e2]; exact prev_next hil h2
        have := H.ahead
        rw [ep] at this
        exact this hi
      · rw [if_neg e2]
        exact H.robin.sorted i hi hi1
  · intro i hi
    rw [us'] at hi
    rw [gd]
    split
    · intro e
      exact hnew a hu (by rw [← hoe, e])
    · rename_i e
      intro e'
      exact e (hV.nodup i a hi hu (by rw [e', hoe]))
  · intro m hm
    rw [hl] at hm ⊢
    rw [us']
    rw [hcn] at hm
    rcases Nat.lt_or_ge m (cost t.length a o) with h1 | h1
    · exact hpo m h1
    · have : m = cost t.length a o := by omega
      rw [this, own_cost hal]; exact hu
  · rw [hl, prev_next hal h2]
    intro _
    rw [gd, if_pos rfl]
    unfold Bef
    rw [hcn]
    unfold Over at ho
    omega
theorem Hand.put {t : List Int} {h : Int} {a : Nat} (H : Hand t h a) (hu : us t a = false) (hm : many t + 1 < t.length) : Robin (t.set a h) := by
  have hal := H.at_
  have h2 := H.two
  have hV := H.robin.valid
  have us' : ∀ i, us (t.set a h) i = (decide (i = a) || us t i) := fun i => us_set _ _ _ _ hal H.pos
  have gd : ∀ i, (t.set a h).getD i (-1) = if i = a then h else t.getD i (-1) := fun i => getD_set _ _ _ _ _ hal
  have hl : (t.set a h).length = t.length := by simp
  have ua : ∀ i, us t i = true → i ≠ a := fun i hi e => by rw [e, hu] at hi; cases hi
  refine ⟨⟨?_, ?_, ?_, ?_⟩, ?_⟩
  · exact free_of_many _ (by rw [many_set t a h hu hal H.pos, hl]; exact hm)
  · intro i hi
    rw [gd]
    split
    · have := H.pos; omega
    · exact hV.ge i (by rw [hl] at hi; exact hi)
  · intro i j hi hj
    rw [us'] at hi hj
    rw [gd, gd]
    by_cases e1 : i = a
    · by_cases e2 : j = a
      · intro _; omega
      · rw [if_pos e1, if_neg e2]
        simp [e2] at hj
        intro e; exact absurd e.symm (H.new j hj)
    · simp [e1] at hi
      by_cases e2 : j = a
      · rw [if_neg e1, if_pos e2]
        intro e; exact absurd e (H.new i hi)
      · simp [e2] at hj
        rw [if_neg e1, if_neg e2]
        exact hV.nodup i j hi hj
  · intro i hi m hm'
    rw [us'] at hi
    rw [gd, hl] at hm' ⊢
    rw [us']
    by_cases e1 : i = a
    · rw [if_pos e1] at hm' ⊢
      subst e1
      rw [H.path m hm']; simp
    · simp [e1] at hi
      rw [if_neg e1] at hm' ⊢
      rw [hV.path i hi m hm']; simp
  · intro i hi hi1
    rw [hl] at hi1 ⊢
    rw [us'] at hi hi1
    rw [gd, gd]
    by_cases e1 : i = a
    · subst e1
      have hne := next_ne hal h2
      rw [if_pos rfl, if_neg hne]
      simp [hne] at hi1
      -- the key behind has its own cell there
      have hil := us_lt hi1
      have hp := hV.path _ hi1
      have hc0 : cost t.length (cy t.length (i + 1)) (t.getD (cy t.length (i + 1)) (-1)) = 0 := by
        have hoc := own_cost hil (t.getD (cy t.length (i + 1)) (-1))
        have hlt := cost_lt hil (t.getD (cy t.length (i + 1)) (-1))
        have ho := own_lt (n := t.length) (by omega) (t.getD (cy t.length (i + 1)) (-1))
        generalize cost t.length (cy t.length (i + 1)) (t.getD (cy t.length (i + 1)) (-1)) = c at *
        generalize own t.length (t.getD (cy t.length (i + 1)) (-1)) = o at *
        rcases Nat.eq_zero_or_pos c with h0 | h0
        · exact h0
        · have := hp (c - 1) (by omega)
          have e : cy t.length (o + (c - 1)) = i := by revert hoc; unfold cy; split <;> split <;> split <;> omega
          rw [e, hu] at this; cases this
      unfold Bef
      rw [hc0]
      omega
    · simp [e1] at hi
      rw [if_neg e1]
      by_cases e2 : cy t.length (i + 1) = a
      · rw [if_pos e2]
        have ep : cy t.length (a + t.length - 1) = i := by rw [← e2]; exact prev_next (us_lt hi) h2
        have := H.ahead
        rw [ep] at this
        exact this hi
      · simp [e2] at hi1
        rw [if_neg e2]
        exact H.robin.sorted i hi hi1
theorem keys_swap : ∀ (t : List Int) (p : Nat) (k : Int), us t p = true → 0 ≤ k → (t.getD p (-1) :: keys (t.set p k)).Perm (k :: keys t)
  | [], p, k, h, _ => by have := us_lt h; simp at this
  | x :: t, 0, k, hu, hk => by
    have : 0 ≤ x := by rw [us] at hu; exact of_decide_eq_true hu
    simp only [keys, List.set_cons_zero, List.filter_cons, this, hk, decide_true, if_true, List.getD_cons_zero]
    exact List.Perm.swap _ _ _
  | x :: t, p + 1, k, hu, hk => by
    have ih := keys_swap t p k (by simpa [us] using hu) hk
    simp only [keys, List.set_cons_succ, List.filter_cons, List.getD_cons_succ] at ih ⊢
    split
    · exact (List.Perm.swap _ _ _).trans ((ih.cons x).trans (List.Perm.swap _ _ _))
    · exact ih
theorem hand_go : ∀ (d : Nat) (t : List Int) (h : Int) (a : Nat), Hand t h a → many t + 1 < t.length → d < t.length → (∀ m, m < d → us t (cy t.length (a + m)) = true) → us t (cy t.length (a + d)) = false →
    Robin (robGo d t h a) ∧ (keys (robGo d t h a)).Perm (h :: keys t) ∧ (robGo d t h a).length = t.length
  | 0, t, h, a, H, hm, hd, _, hf => by
    have e : cy t.length (a + 0) = a := by have := H.at_; unfold cy; split <;> omega
    rw [e] at hf
    exact ⟨H.put hf hm, keys_set t a h H.at_ hf H.pos, by simp [robGo]⟩
  | d + 1, t, h, a, H, hm, hd, hu, hf => by
    have hua : us t a = true := by
      have := hu 0 (by omega)
      have e : cy t.length (a + 0) = a := by have := H.at_; unfold cy; split <;> omega
      rwa [e] at this
    have sh : ∀ m, m + 1 ≤ d + 1 → cy t.length (cy t.length (a + 1) + m) = cy t.length (a + (m + 1)) := by
      intro m hmd
      have := H.at_
      unfold cy; split <;> split <;> split <;> omega
    unfold robGo
    by_cases ho : Over t.length a h (t.getD a (-1))
    · rw [if_pos ho]
      have H' := H.swap hua ho
      have us' : ∀ i, us (t.set a h) i = us t i := us_same hua H.pos
      have al : Alike (t.set a h) t := ⟨by simp, us'⟩
      have := hand_go d (t.set a h) (t.getD a (-1)) (cy t.length (a + 1)) H' (by rw [many_alike al, List.length_set]; exact hm) (by rw [List.length_set]; omega)
        (fun m hmd => by rw [List.length_set, us', sh m (by omega)]; exact hu (m + 1) (by omega)) (by rw [List.length_set, us', sh d (by omega)]; exact hf)
      exact ⟨this.1, this.2.1.trans (keys_swap t a h hua H.pos), by rw [this.2.2]; simp⟩
    · rw [if_neg ho]
      have := hand_go d t h (cy t.length (a + 1)) (H.pass hua ho) hm (by omega) (fun m hmd => by rw [sh m (by omega)]; exact hu (m + 1) (by omega)) (by rw [sh d (by omega)]; exact hf)
      exact this
theorem Robin.hand {t : List Int} (hR : Robin t) (h2 : 2 ≤ t.length) {k : Int} (hk : 0 ≤ k) (hn : k ∉ keys t) : Hand t k (own t.length k) := by
  have ho := own_lt (n := t.length) (by omega) k
  have hc : cost t.length (own t.length k) k = 0 := by unfold cost cy; split <;> omega
  refine ⟨hR, h2, ho, hk, ?_, ?_, ?_⟩
  · intro i hi e
    exact hn (mem_keys.2 ⟨i, hi, e⟩)
  · intro m hm; rw [hc] at hm; omega
  · intro _
    unfold Bef
    rw [next_prev ho h2, hc]
    omega
theorem rob_spec {t : List Int} (hR : Robin t) (h2 : 2 ≤ t.length) {k : Int} (hk : 0 ≤ k) (hn : k ∉ keys t) (hm : many t + 1 < t.length) : Robin (rob t k) ∧ (keys (rob t k)).Perm (k :: keys t) ∧ (rob t k).length = t.length := by
  have hF := hR.valid.free
  have s := ff_spec hF (own_lt (n := t.length) (by omega) k)
  exact hand_go _ t k _ (hR.hand h2 hk hn) hm s.1 s.2.2 s.2.1
theorem Valid.empty {n : Nat} (h : 0 < n) : Valid (empty n) :=
  ⟨⟨0, by simp [TabT.empty, h], us_empty n 0⟩, ge_empty n, fun i j hi => (by rw [us_empty] at hi; cases hi), fun i hi => (by rw [us_empty] at hi; cases hi)⟩
theorem Robin.empty {n : Nat} (h : 0 < n) : Robin (empty n) := ⟨Valid.empty h, fun i hi => (by rw [us_empty] at hi; cases hi)⟩
/-- How far behind the cell g a key's own cell lies. -/
def off (n g : Nat) (k : Int) : Nat := cy n (own n k + n - g)
theorem off_spec {t : List Int} (hV : Valid t) {g : Nat} (hg : g < t.length) (hgu : us t g = false) {e : Nat} (he : e < t.length) (hu : us t (cy t.length (g + e)) = true) :
    1 ≤ off t.length g (t.getD (cy t.length (g + e)) (-1)) ∧ off t.length g (t.getD (cy t.length (g + e)) (-1)) + cost t.length (cy t.length (g + e)) (t.getD (cy t.length (g + e)) (-1)) = e ∧
      ∀ m, off t.length g (t.getD (cy t.length (g + e)) (-1)) ≤ m → m ≤ e → us t (cy t.length (g + m)) = true := by
  have hil := us_lt hu
  have hp := hV.path _ hu
  have ho := own_lt (n := t.length) (by omega) (t.getD (cy t.length (g + e)) (-1))
  have hoc := own_cost hil (t.getD (cy t.length (g + e)) (-1))
  have hcl := cost_lt hil (t.getD (cy t.length (g + e)) (-1))
  unfold off
  generalize cost t.length (cy t.length (g + e)) (t.getD (cy t.length (g + e)) (-1)) = c at *
  generalize own t.length (t.getD (cy t.length (g + e)) (-1)) = o at *
  have he1 : e ≠ 0 := by
    intro h0
    have : cy t.length (g + e) = g := by rw [h0]; unfold cy; split <;> omega
    rw [this, hgu] at hu; cases hu
  have hce : c < e := by
    rcases Nat.lt_or_ge c e with h | h
    · exact h
    · have := hp (c - e) (by omega)
      have e1 : cy t.length (o + (c - e)) = g := by revert hoc; unfold cy; split <;> split <;> split <;> omega
      rw [e1, hgu] at this; cases this
  have hof : cy t.length (o + t.length - g) = e - c := by revert hoc; unfold cy; split <;> split <;> split <;> omega
  rw [hof]
  refine ⟨by omega, by omega, fun m h1 h2 => ?_⟩
  rcases Nat.lt_or_ge m e with h3 | h3
  · have := hp (m - (e - c)) (by omega)
    have e2 : cy t.length (o + (m - (e - c))) = cy t.length (g + m) := by revert hoc; unfold cy; split <;> split <;> split <;> split <;> omega
    rwa [e2] at this
  · have : m = e := by omega
    rw [this]; exact hu
/-- Along used cells, keys come in one order. -/
def Lt (n g : Nat) (x y : Int) : Prop := off n g x < off n g y ∨ off n g x = off n g y ∧ y < x
theorem Lt.trans {n g : Nat} {x y z : Int} (h : Lt n g x y) (k : Lt n g y z) : Lt n g x z := by unfold Lt at *; omega
theorem Robin.next {t : List Int} (hR : Robin t) {g : Nat} (hg : g < t.length) (hgu : us t g = false) {e : Nat} (he : e + 1 < t.length) (h1 : us t (cy t.length (g + e)) = true) (h2 : us t (cy t.length (g + (e + 1))) = true) :
    Lt t.length g (t.getD (cy t.length (g + e)) (-1)) (t.getD (cy t.length (g + (e + 1))) (-1)) := by
  have s1 := off_spec hR.valid hg hgu (by omega) h1
  have s2 := off_spec hR.valid hg hgu he h2
  have en : cy t.length (cy t.length (g + e) + 1) = cy t.length (g + (e + 1)) := by unfold cy; split <;> split <;> split <;> omega
  have := hR.sorted _ h1
  rw [en] at this
  have := this h2
  unfold Bef at this
  rw [en] at this
  unfold Lt
  omega
end TabT
namespace Go.Proofs.Ytfblohigbdomjaa.G
open Go.RowKit Go.Proofs.YtfblohigbdomjaaW.PrintWords Go.Proofs.YtfblohigbdomjaaW.PrintLast Go.Proofs.YtfblohigbdomjaaW.PrintMore
set_option linter.unusedVariables false
set_option linter.unusedSimpArgs false
set_option linter.unusedSectionVars false
theorem t_g0 {t : List Int} {i : Nat} (h : i < t.length) : t.getD i (-1) = t.getD i 0 := by
  rw [List.getD_eq_getElem?_getD, List.getD_eq_getElem?_getD, List.getElem?_eq_getElem h]; rfl
theorem cy_self {n a : Nat} (h : a < n) : TabT.cy n (a + 0) = a := by unfold TabT.cy; split <;> omega
theorem cy_shift {n a d m : Nat} (ha : a < n) (hd : d + 1 < n) (hm : m ≤ d) : TabT.cy n (TabT.cy n (a + 1) + m) = TabT.cy n (a + (m + 1)) := by
  unfold TabT.cy; split <;> split <;> split <;> omega
theorem step_arith {n a : Nat} (ha : a < n) (hn : n ≤ 1000) : Int.tmod (wrap64 ((a : Int) + 1)) (n : Int) = ((TabT.cy n (a + 1) : Nat) : Int) := by
  rw [wrap_next (n := n) ha (by omega), ← TabT.cy_mod (by omega)]
  rfl
theorem own_arith (key n : Nat) : Int.tmod (key : Int) (n : Int) = ((TabT.own n (key : Int) : Nat) : Int) := by
  unfold TabT.own
  show ((key % n : Nat) : Int) = (((key : Int) % (n : Int)).toNat : Int)
  rw [show ((key : Int) % (n : Int)) = ((key % n : Nat) : Int) from rfl, Int.toNat_natCast]
theorem us_val {t : List Int} {i : Nat} (h : TabT.us t i = true) : 0 ≤ t.getD i 0 := by
  have hi := TabT.us_lt h
  rw [TabT.us, decide_eq_true_eq, t_g0 hi] at h
  exact h
theorem us_free {t : List Int} {i : Nat} (hi : i < t.length) (h : TabT.us t i = false) : t.getD i 0 < 0 := by
  rw [TabT.us, decide_eq_false_iff_not, t_g0 hi] at h
  omega
/-- What the cells of a table may hold. -/
def Cells (t : List Int) : Prop := ∀ i, i < t.length → -1 ≤ t.getD i 0 ∧ t.getD i 0 ≤ 999
theorem Cells.set {t : List Int} (h : Cells t) {p : Nat} {k : Int} (hp : p < t.length) (h0 : 0 ≤ k) (h9 : k ≤ 999) : Cells (t.set p k) := by
  intro i hi
  rw [List.length_set] at hi
  rw [TabT.getD_set _ _ _ _ _ hp]
  split
  · omega
  · exact h i hi
theorem Cells.empty (n : Nat) : Cells (TabT.empty n) := by
  intro i hi
  have hi2 : i < n := by simpa [TabT.empty] using hi
  unfold TabT.empty
  rw [List.getD_eq_getElem?_getD, List.getElem?_replicate, if_pos hi2]
  simp
theorem Cells.ins {t : List Int} (h : Cells t) (hF : TabT.Free t) {k : Int} (h0 : 0 ≤ k) (h9 : k ≤ 999) : Cells (TabT.ins t k) := h.set (TabT.pos_lt hF k) h0 h9
theorem ins_len (t : List Int) (k : Int) : (TabT.ins t k).length = t.length := by simp [TabT.ins]
end Go.Proofs.Ytfblohigbdomjaa.G
namespace Go.Proofs.Ytfblohigbdomjaa.G
open Go.RowKit Go.Proofs.YtfblohigbdomjaaW.PrintWords Go.Proofs.YtfblohigbdomjaaW.PrintLast Go.Proofs.YtfblohigbdomjaaW.PrintMore
set_option linter.unusedVariables false
set_option linter.unusedSimpArgs false
set_option linter.unusedSectionVars false
section
variable (t : List Int) (key : Nat) (hn : 1 ≤ t.length) (hn2 : t.length ≤ 1000) (hc : Cells t) (hk : key ≤ 999)
include hn hn2 hc hk
theorem sp_ins : ∀ (d a : Nat), a < t.length → d < t.length → (∀ m, m < d → TabT.us t (TabT.cy t.length (a + m)) = true) → TabT.us t (TabT.cy t.length (a + d)) = false →
    Ev (fun k => spec_prInsert.l0 k t (key : Int) (a : Int)) (((TabT.cy t.length (a + d) : Nat) : Int), t.set (TabT.cy t.length (a + d)) (key : Int)) := by
  intro d
  induction d with
  | zero =>
    intro a ha hd _ hf
    rw [cy_self ha] at hf ⊢
    have h1 := us_free ha hf
    have h2 := hc a ha
    refine Ev.end_ fun k => ?_
    rw [spec_prInsert.l0, if_pos (by omega), if_pos (by omega), rd_nat, if_pos (by omega), Int.toNat_natCast]
  | succ d ih =>
    intro a ha hd hu hf
    have h0 := hu 0 (by omega)
    rw [cy_self ha] at h0
    have h1 := us_val h0
    have hlt := TabT.cy_lt (n := t.length) (i := a + 1) (by omega)
    have := ih (TabT.cy t.length (a + 1)) hlt (by omega) (fun m hm => by rw [cy_shift ha hd (by omega)]; exact hu (m + 1) (by omega)) (by rw [cy_shift ha hd (Nat.le_refl _)]; exact hf)
    rw [cy_shift ha hd (Nat.le_refl _)] at this
    refine Ev.one this fun k => ?_
    rw [spec_prInsert.l0, if_pos (by omega), if_pos (by omega), rd_nat, if_neg (by omega), if_neg (by omega), step_arith ha hn2]
theorem im_ins : ∀ (d a : Nat), a < t.length → d < t.length → (∀ m, m < d → TabT.us t (TabT.cy t.length (a + m)) = true) → TabT.us t (TabT.cy t.length (a + d)) = false →
    Ev (fun k => impl_Table_insert.l0 k (key : Int) (a : Int) t) (((TabT.cy t.length (a + d) : Nat) : Int), t.set (TabT.cy t.length (a + d)) (key : Int)) := by
  intro d
  induction d with
  | zero =>
    intro a ha hd _ hf
    rw [cy_self ha] at hf ⊢
    have h1 := us_free ha hf
    have h2 := hc a ha
    refine Ev.end_ fun k => ?_
    rw [impl_Table_insert.l0, if_pos (by omega), if_pos (by omega), rd_nat, if_neg (by omega), Int.toNat_natCast]
  | succ d ih =>
    intro a ha hd hu hf
    have h0 := hu 0 (by omega)
    rw [cy_self ha] at h0
    have h1 := us_val h0
    have hlt := TabT.cy_lt (n := t.length) (i := a + 1) (by omega)
    have := ih (TabT.cy t.length (a + 1)) hlt (by omega) (fun m hm => by rw [cy_shift ha hd (by omega)]; exact hu (m + 1) (by omega)) (by rw [cy_shift ha hd (Nat.le_refl _)]; exact hf)
    rw [cy_shift ha hd (Nat.le_refl _)] at this
    refine Ev.one this fun k => ?_
    rw [impl_Table_insert.l0, if_pos (by omega), if_pos (by omega), rd_nat, if_pos (by omega), if_neg (by omega), step_arith ha hn2]
theorem prInsert_nat (hF : TabT.Free t) : Ev (fun k => spec_prInsert.f k t (key : Int)) (((TabT.pos t (key : Int) : Nat) : Int), TabT.ins t (key : Int)) := by
  unfold spec_prInsert.f
  have ho := TabT.own_lt (n := t.length) (by omega) (key : Int)
  have s := TabT.ff_spec hF ho
  have := sp_ins t key hn hn2 hc hk _ _ ho s.1 s.2.2 s.2.1
  have e : ((t.length : Int) = 0) = False := eq_false (by omega)
  simp only [e, if_false, own_arith]
  exact this
theorem tInsert_nat (hF : TabT.Free t) : Ev (fun k => impl_Table_insert.f k t (key : Int)) (((TabT.pos t (key : Int) : Nat) : Int), TabT.ins t (key : Int)) := by
  unfold impl_Table_insert.f
  have ho := TabT.own_lt (n := t.length) (by omega) (key : Int)
  have s := TabT.ff_spec hF ho
  have := im_ins t key hn hn2 hc hk _ _ ho s.1 s.2.2 s.2.1
  have e : ((t.length : Int) = 0) = False := eq_false (by omega)
  simp only [e, if_false, own_arith]
  exact this
end
end Go.Proofs.Ytfblohigbdomjaa.G
namespace Go.Proofs.Ytfblohigbdomjaa.G
open Go.RowKit Go.Proofs.YtfblohigbdomjaaW.PrintWords Go.Proofs.YtfblohigbdomjaaW.PrintLast Go.Proofs.YtfblohigbdomjaaW.PrintMore
set_option linter.unusedVariables false
set_option linter.unusedSimpArgs false
set_option linter.unusedSectionVars false
theorem prInsert_ev (t : List Int) (key : Int) (hn : 1 ≤ t.length) (hn2 : t.length ≤ 1000) (hc : Cells t) (hF : TabT.Free t) (h0 : 0 ≤ key) (h9 : key ≤ 999) : Ev (fun k => spec_prInsert.f k t key) (((TabT.pos t key : Nat) : Int), TabT.ins t key) := by
  obtain ⟨m, rfl⟩ : ∃ m : Nat, key = m := ⟨key.toNat, by omega⟩
  exact prInsert_nat t m hn hn2 hc (by omega) hF
theorem tInsert_ev (t : List Int) (key : Int) (hn : 1 ≤ t.length) (hn2 : t.length ≤ 1000) (hc : Cells t) (hF : TabT.Free t) (h0 : 0 ≤ key) (h9 : key ≤ 999) : Ev (fun k => impl_Table_insert.f k t key) (((TabT.pos t key : Nat) : Int), TabT.ins t key) := by
  obtain ⟨m, rfl⟩ : ∃ m : Nat, key = m := ⟨key.toNat, by omega⟩
  exact tInsert_nat t m hn hn2 hc (by omega) hF
theorem t_prEmpty_ev (n : Nat) (hn : n ≤ 1000) : Ev (fun k => spec_prEmpty.f k (n : Int)) (TabT.empty n) := by
  unfold spec_prEmpty.f TabT.empty
  refine Ev.up0 n (fun q => List.replicate q (-1 : Int)) (fun k s q => spec_prEmpty.l0 k (n : Int) q s) (List.replicate n (-1)) (fun q hq h => Ev.one h fun k => ?_) (Ev.end_ fun k => ?_)
  · rw [spec_prEmpty.l0, if_pos (by omega), if_pos (by simp; omega), wrap_next (n := n) hq (by omega), List.replicate_succ']
  · rw [spec_prEmpty.l0, if_neg (by omega)]
theorem t_empty_eq (n : Nat) (hn : n ≤ 1000) : impl_empty.f (n : Int) = some (TabT.empty n) := by
  unfold impl_empty.f slices_Repeat_int_int.f TabT.empty
  rw [if_pos ⟨rfl, by omega, by omega⟩]
  rfl
theorem many_empty (n : Nat) : TabT.many (TabT.empty n) = 0 := by
  rw [TabT.many_keys, TabT.keys_empty]; rfl
theorem insAll_snoc (t : List Int) (ks : List Int) (k : Int) : TabT.insAll t (ks ++ [k]) = TabT.ins (TabT.insAll t ks) k := by
  simp [TabT.insAll, List.foldl_append]
/-- What holds when q of the keys are in. -/
structure Filled (n : Nat) (t : List Int) (q : Nat) : Prop where
  len_ : t.length = n
  cells : Cells t
  many_ : TabT.many t = q
theorem Filled.free {n q : Nat} {t : List Int} (h : Filled n t q) (hq : q < n) : TabT.Free t := TabT.free_of_many t (by rw [h.many_, h.len_]; exact hq)
theorem filled {n : Nat} (ks : List Int) (hl : ks.length < n) (hk : ∀ x ∈ ks, 0 ≤ x ∧ x ≤ 999) : ∀ q, q ≤ ks.length → Filled n (TabT.insAll (TabT.empty n) (ks.take q)) q := by
  intro q
  induction q with
  | zero => intro _; exact ⟨by simp [TabT.insAll, TabT.empty], Cells.empty n, many_empty n⟩
  | succ q ih =>
    intro hq
    have F := ih (by omega)
    have hfr := F.free (by omega)
    have hm := hk (ks.getD q 0) (by rw [List.getD_eq_getElem?_getD, List.getElem?_eq_getElem (by omega : q < ks.length)]; exact List.getElem_mem _)
    rw [take_succ_getD (by omega), insAll_snoc]
    exact ⟨by rw [ins_len, F.len_], F.cells.ins hfr hm.1 hm.2, by rw [TabT.many_ins hfr hm.1, F.many_]⟩
end Go.Proofs.Ytfblohigbdomjaa.G
namespace Go.Proofs.Ytfblohigbdomjaa.G
open Go.RowKit Go.Proofs.YtfblohigbdomjaaW.PrintWords Go.Proofs.YtfblohigbdomjaaW.PrintLast Go.Proofs.YtfblohigbdomjaaW.PrintMore
set_option linter.unusedVariables false
set_option linter.unusedSimpArgs false
set_option linter.unusedSectionVars false
section
variable (n : Nat) (ks : List Int) (h2 : 2 ≤ n) (h12 : n ≤ 12) (hl : ks.length < n) (hk : ∀ x ∈ ks, 0 ≤ x ∧ x ≤ 999)
include h2 h12 hl hk
theorem prOf_ev : Ev (fun k => spec_prOf.f k (n : Int) ks) (TabT.insAll (TabT.empty n) ks) := by
  unfold spec_prOf.f
  refine Ev.bind (t_prEmpty_ev n (by omega)) ?_
  have := Ev.up0 ks.length (fun q => TabT.insAll (TabT.empty n) (ks.take q)) (fun k s q => spec_prOf.l0 k ks (ks.length : Int) q s) (TabT.insAll (TabT.empty n) ks) (fun q hq h => ?_) (Ev.end_ fun k => ?_)
  · simpa [TabT.insAll] using this
  · have F := filled ks hl hk q (by omega)
    have hm := hk (ks.getD q 0) (by rw [List.getD_eq_getElem?_getD, List.getElem?_eq_getElem hq]; exact List.getElem_mem hq)
    rw [take_succ_getD hq, insAll_snoc] at h
    refine Ev.step (f := fun k => (spec_prInsert.f k (TabT.insAll (TabT.empty n) (ks.take q)) (ks.getD q 0)).bind fun bt => (spec_prOf.l0 k ks (ks.length : Int) ((q + 1 : Nat) : Int) bt.2)) (fun k => by
      rw [spec_prOf.l0, if_pos (by omega), if_pos (by omega), if_pos (by omega), rd_nat, wrap_next (n := ks.length) hq (by omega)]) ?_
    exact Ev.bind (prInsert_ev _ _ (by rw [F.len_]; omega) (by rw [F.len_]; omega) F.cells (F.free (by omega)) hm.1 hm.2) h
  · rw [spec_prOf.l0, if_neg (by omega), List.take_length]
theorem tableOf_ev : Ev (fun k => impl_TableOf.l0 k ks (ks.length : Int) 0 (TabT.empty n)) (TabT.insAll (TabT.empty n) ks, true) := by
  have := Ev.up0 ks.length (fun q => TabT.insAll (TabT.empty n) (ks.take q)) (fun k s q => impl_TableOf.l0 k ks (ks.length : Int) q s) (TabT.insAll (TabT.empty n) ks, true) (fun q hq h => ?_) (Ev.end_ fun k => ?_)
  · simpa [TabT.insAll] using this
  · have F := filled ks hl hk q (by omega)
    have hm := hk (ks.getD q 0) (by rw [List.getD_eq_getElem?_getD, List.getElem?_eq_getElem hq]; exact List.getElem_mem hq)
    rw [take_succ_getD hq, insAll_snoc] at h
    refine Ev.step (f := fun k => (impl_Table_insert.f k (TabT.insAll (TabT.empty n) (ks.take q)) (ks.getD q 0)).bind fun bt => (impl_TableOf.l0 k ks (ks.length : Int) ((q + 1 : Nat) : Int) bt.2)) (fun k => by
      rw [impl_TableOf.l0, if_pos (by omega), if_pos (by omega), if_pos (by omega), rd_nat, wrap_next (n := ks.length) hq (by omega)]) ?_
    exact Ev.bind (tInsert_ev _ _ (by rw [F.len_]; omega) (by rw [F.len_]; omega) F.cells (F.free (by omega)) hm.1 hm.2) h
  · rw [impl_TableOf.l0, if_neg (by omega), List.take_length]
end
end Go.Proofs.Ytfblohigbdomjaa.G
namespace Go.Proofs.Ytfblohigbdomjaa.G
open Go.RowKit Go.Proofs.YtfblohigbdomjaaW.PrintWords Go.Proofs.YtfblohigbdomjaaW.PrintLast Go.Proofs.YtfblohigbdomjaaW.PrintMore
set_option linter.unusedVariables false
set_option linter.unusedSimpArgs false
set_option linter.unusedSectionVars false
theorem costN_cost {n key a : Nat} (ha : a < n) : costN n key a = TabT.cost n a (key : Int) := by
  have hm := Nat.mod_lt key (show 0 < n by omega)
  have ho : TabT.own n (key : Int) = key % n := by
    unfold TabT.own
    rw [show ((key : Int) % (n : Int)) = ((key % n : Nat) : Int) from rfl, Int.toNat_natCast]
  unfold costN TabT.cost
  rw [ho, TabT.cy_mod (by omega)]
theorem robGo_cells : ∀ (d : Nat) (t : List Int) (h : Int) (a : Nat), Cells t → a < t.length → 0 ≤ h → h ≤ 999 → d < t.length → (∀ m, m < d → TabT.us t (TabT.cy t.length (a + m)) = true) → Cells (TabT.robGo d t h a)
  | 0, t, h, a, hc, ha, h0, h9, _, _ => hc.set ha h0 h9
  | d + 1, t, h, a, hc, ha, h0, h9, hd, hu => by
    have hua := hu 0 (by omega)
    rw [cy_self ha] at hua
    have ho := us_val hua
    have ho9 := hc a ha
    have hlt := TabT.cy_lt (n := t.length) (i := a + 1) (by omega)
    rw [TabT.robGo]
    split
    · refine robGo_cells d _ _ _ (hc.set ha h0 h9) (by rw [List.length_set]; exact hlt) (by rw [t_g0 ha]; exact ho) (by rw [t_g0 ha]; exact ho9.2) (by rw [List.length_set]; omega) (fun m hm => ?_)
      rw [List.length_set, TabT.us_same hua h0, cy_shift ha hd (by omega)]
      exact hu (m + 1) (by omega)
    · refine robGo_cells d _ _ _ hc hlt h0 h9 (by omega) (fun m hm => ?_)
      rw [cy_shift ha hd (by omega)]
      exact hu (m + 1) (by omega)
end Go.Proofs.Ytfblohigbdomjaa.G
namespace Go.Proofs.Ytfblohigbdomjaa.G
open Go.RowKit Go.Proofs.YtfblohigbdomjaaW.PrintWords Go.Proofs.YtfblohigbdomjaaW.PrintLast Go.Proofs.YtfblohigbdomjaaW.PrintMore
set_option linter.unusedVariables false
set_option linter.unusedSimpArgs false
set_option linter.unusedSectionVars false
section
variable (n : Nat) (h2 : 2 ≤ n) (h12 : n ≤ 12) (ks : List Int) (q : Nat)
include h2 h12
theorem sp_rob (r : List Int) : ∀ (d : Nat) (t : List Int) (h : Int) (a : Nat), t.length = n → Cells t → 0 ≤ h → h ≤ 999 → a < n → d < n → (∀ m, m < d → TabT.us t (TabT.cy n (a + m)) = true) → TabT.us t (TabT.cy n (a + d)) = false →
    Ev (fun k => spec_prRobin.l0 k (n : Int) ks (ks.length : Int) (wrap64 ((q : Int) + 1)) (TabT.robGo d t h a)) r → Ev (fun k => spec_prRobin.l1 k (n : Int) h (a : Int) ks (ks.length : Int) (q : Int) t) r := by
  intro d
  induction d with
  | zero =>
    intro t h a hl hc h0 h9 ha hd _ hf hr
    rw [cy_self ha] at hf
    have e1 := us_free (by omega) hf
    have e2 := hc a (by omega)
    refine Ev.one hr fun k => ?_
    rw [spec_prRobin.l1, if_pos (by omega), if_pos (by omega), rd_nat, if_pos (by omega), Int.toNat_natCast]
    rfl
  | succ d ih =>
    intro t h a hl hc h0 h9 ha hd hu hf hr
    have hua := hu 0 (by omega)
    rw [cy_self ha] at hua
    have ho := us_val hua
    have ho9 := hc a (by omega)
    have hlt := TabT.cy_lt (n := n) (i := a + 1) (by omega)
    obtain ⟨kh, rfl⟩ : ∃ m : Nat, h = m := ⟨h.toNat, by omega⟩
    obtain ⟨ko, hko⟩ : ∃ m : Nat, t.getD a 0 = m := ⟨(t.getD a 0).toNat, by omega⟩
    rw [TabT.robGo, hl, t_g0 (by omega : a < t.length), hko] at hr
    have c1 := prCost_eq (n := n) (key := kh) (at_ := a) (by omega) (by omega) (by omega) ha
    have c2 := prCost_eq (n := n) (key := ko) (at_ := a) (by omega) (by omega) (by omega) ha
    rw [costN_cost ha] at c1 c2
    by_cases hov : TabT.Over n a (kh : Int) (ko : Int)
    · rw [if_pos hov] at hr
      have := ih (t.set a (kh : Int)) (ko : Int) (TabT.cy n (a + 1)) (by rw [List.length_set]; exact hl) (hc.set (by omega) h0 h9) (by omega) (by omega) hlt (by omega)
        (fun m hm => by rw [TabT.us_same hua h0, cy_shift ha hd (by omega)]; exact hu (m + 1) (by omega)) (by rw [TabT.us_same hua h0, cy_shift ha hd (Nat.le_refl _)]; exact hf) hr
      refine Ev.one this fun k => ?_
      rw [spec_prRobin.l1, if_pos (by omega), if_pos (by omega), rd_nat, if_neg (by omega), hko, c1, Option.bind_some, c2, Option.bind_some, Int.toNat_natCast, step_arith ha (by omega)]
      unfold TabT.Over at hov
      rcases hov with hov | ⟨hov, hov2⟩
      · rw [if_pos (by omega), if_neg (by omega)]
      · rw [if_neg (by omega), if_pos (by omega), if_pos (by omega), if_neg (by omega)]
    · rw [if_neg hov] at hr
      have := ih t (kh : Int) (TabT.cy n (a + 1)) hl hc h0 h9 hlt (by omega)
        (fun m hm => by rw [cy_shift ha hd (by omega)]; exact hu (m + 1) (by omega)) (by rw [cy_shift ha hd (Nat.le_refl _)]; exact hf) hr
      refine Ev.one this fun k => ?_
      rw [spec_prRobin.l1, if_pos (by omega), if_pos (by omega), rd_nat, if_neg (by omega), hko, c1, Option.bind_some, c2, Option.bind_some, Int.toNat_natCast, step_arith ha (by omega)]
      unfold TabT.Over at hov
      rw [if_neg (by omega)]
      by_cases e : ((TabT.cost n a (kh : Int) : Nat) : Int) = ((TabT.cost n a (ko : Int) : Nat) : Int)
      · rw [if_pos e, if_neg (by omega), if_neg (by omega)]
      · rw [if_neg e, if_neg (by omega)]
end
end Go.Proofs.Ytfblohigbdomjaa.G
namespace Go.Proofs.Ytfblohigbdomjaa.G
open Go.RowKit Go.Proofs.YtfblohigbdomjaaW.PrintWords Go.Proofs.YtfblohigbdomjaaW.PrintLast Go.Proofs.YtfblohigbdomjaaW.PrintMore
set_option linter.unusedVariables false
set_option linter.unusedSimpArgs false
set_option linter.unusedSectionVars false
def robAll (t : List Int) (ks : List Int) : List Int := ks.foldl TabT.rob t
theorem robAll_snoc (t : List Int) (ks : List Int) (k : Int) : robAll t (ks ++ [k]) = TabT.rob (robAll t ks) k := by
  simp [robAll, List.foldl_append]
structure RFilled (n : Nat) (t : List Int) (ks : List Int) : Prop where
  len_ : t.length = n
  cells : Cells t
  robin : TabT.Robin t
  keys_ : (TabT.keys t).Perm ks
theorem RFilled.many_ {n : Nat} {t ks : List Int} (h : RFilled n t ks) : TabT.many t = ks.length := by
  rw [TabT.many_keys]; exact h.keys_.length_eq
theorem RFilled.hand {n : Nat} {t ks : List Int} (h : RFilled n t ks) (h2 : 2 ≤ n) {k : Int} (h0 : 0 ≤ k) (hn : k ∉ ks) : TabT.Hand t k (TabT.own n k) := by
  have := h.robin.hand (by rw [h.len_]; exact h2) h0 (fun e => hn (h.keys_.mem_iff.mp e))
  rwa [h.len_] at this
theorem rfilled {n : Nat} (h2 : 2 ≤ n) (ks : List Int) (hl : ks.length < n) (hk : ∀ x ∈ ks, 0 ≤ x ∧ x ≤ 999) (hnd : ks.Nodup) : ∀ q, q ≤ ks.length → RFilled n (robAll (TabT.empty n) (ks.take q)) (ks.take q) := by
  intro q
  induction q with
  | zero =>
    intro _
    refine ⟨by simp [robAll, TabT.empty], Cells.empty n, TabT.Robin.empty (by omega), ?_⟩
    show (TabT.keys (TabT.empty n)).Perm []
    rw [TabT.keys_empty]
  | succ q ih =>
    intro hq
    have F := ih (by omega)
    have hm := hk (ks.getD q 0) (by rw [List.getD_eq_getElem?_getD, List.getElem?_eq_getElem (by omega : q < ks.length)]; exact List.getElem_mem _)
    have hnew : ks.getD q 0 ∉ ks.take q := by
      intro hmem
      obtain ⟨i, hi, e⟩ := List.mem_take_iff_getElem.mp hmem
      unfold List.Nodup at hnd
      rw [List.pairwise_iff_getElem] at hnd
      rw [List.getD_eq_getElem?_getD, List.getElem?_eq_getElem (by omega : q < ks.length)] at e
      exact hnd i q (by omega) (by omega) (by omega) e
    have hmany : TabT.many (robAll (TabT.empty n) (ks.take q)) = q := by rw [F.many_, List.length_take]; omega
    have hF := F.robin.valid.free
    have s := TabT.ff_spec hF (TabT.own_lt (n := (robAll (TabT.empty n) (ks.take q)).length) (by rw [F.len_]; omega) (ks.getD q 0))
    have R := TabT.rob_spec F.robin (by rw [F.len_]; exact h2) hm.1 (fun e => hnew (F.keys_.mem_iff.mp e)) (by rw [hmany, F.len_]; omega)
    rw [take_succ_getD (by omega), robAll_snoc]
    refine ⟨by rw [R.2.2, F.len_], ?_, R.1, ?_⟩
    · exact robGo_cells _ _ _ _ F.cells (TabT.own_lt (by rw [F.len_]; omega) _) hm.1 hm.2 s.1 s.2.2
    · exact R.2.1.trans ((F.keys_.cons _).trans (List.perm_append_comm (l₁ := [ks.getD q 0])))
end Go.Proofs.Ytfblohigbdomjaa.G
namespace Go.Proofs.Ytfblohigbdomjaa.G
open Go.RowKit Go.Proofs.YtfblohigbdomjaaW.PrintWords Go.Proofs.YtfblohigbdomjaaW.PrintLast Go.Proofs.YtfblohigbdomjaaW.PrintMore
set_option linter.unusedVariables false
set_option linter.unusedSimpArgs false
set_option linter.unusedSectionVars false
section
variable (n : Nat) (ks : List Int) (h2 : 2 ≤ n) (h12 : n ≤ 12) (hl : ks.length < n) (hk : ∀ x ∈ ks, 0 ≤ x ∧ x ≤ 999) (hnd : ks.Nodup)
include h2 h12 hl hk hnd
theorem prRobin_ev : Ev (fun k => spec_prRobin.f k (n : Int) ks) (robAll (TabT.empty n) ks) := by
  unfold spec_prRobin.f
  refine Ev.bind (t_prEmpty_ev n (by omega)) ?_
  have := Ev.up0 ks.length (fun q => robAll (TabT.empty n) (ks.take q)) (fun k s q => spec_prRobin.l0 k (n : Int) ks (ks.length : Int) q s) (robAll (TabT.empty n) ks) (fun q hq h => ?_) (Ev.end_ fun k => ?_)
  · simpa [robAll] using this
  · have F := rfilled h2 ks hl hk hnd q (by omega)
    have hm := hk (ks.getD q 0) (by rw [List.getD_eq_getElem?_getD, List.getElem?_eq_getElem hq]; exact List.getElem_mem hq)
    have hF := F.robin.valid.free
    have ho := TabT.own_lt (n := n) (by omega) (ks.getD q 0)
    have s := TabT.ff_spec hF (by rw [F.len_]; exact ho)
    rw [F.len_] at s
    rw [take_succ_getD hq, robAll_snoc, TabT.rob, F.len_] at h
    have := sp_rob n h2 h12 ks q (robAll (TabT.empty n) ks) _ _ (ks.getD q 0) (TabT.own n (ks.getD q 0)) F.len_ F.cells hm.1 hm.2 ho s.1 s.2.2 s.2.1 (by rw [wrap_next (n := ks.length) hq (by omega)]; exact h)
    refine Ev.one this fun k => ?_
    obtain ⟨m, hmk⟩ : ∃ m : Nat, ks.getD q 0 = m := ⟨(ks.getD q 0).toNat, by omega⟩
    rw [spec_prRobin.l0, if_pos (by omega), if_pos (by omega), if_pos (by omega), if_neg (by omega), rd_nat, hmk, own_arith]
  · rw [spec_prRobin.l0, if_neg (by omega), List.take_length]
end
end Go.Proofs.Ytfblohigbdomjaa.G
namespace TabT
set_option linter.unusedVariables false
set_option linter.unusedSimpArgs false
theorem Valid.ins {t : List Int} (hV : Valid t) {k : Int} (hk : 0 ≤ k) (hn : k ∉ keys t) (hm : many t + 1 < t.length) : Valid (ins t k) := by
  have hF := hV.free
  have hp := pos_lt hF k
  have hpf := pos_free hF k
  have hlen : (TabT.ins t k).length = t.length := by simp [TabT.ins]
  have hg : ∀ i, (TabT.ins t k).getD i (-1) = if i = pos t k then k else t.getD i (-1) := fun i => getD_set _ _ _ _ _ hp
  have hu : ∀ i, us (TabT.ins t k) i = (decide (i = pos t k) || us t i) := fun i => us_set _ _ _ _ hp hk
  refine ⟨?_, ?_, ?_, ?_⟩
  · exact free_of_many _ (by rw [many_ins hF hk, hlen]; exact hm)
  · intro i hi
    rw [hg]; split
    · omega
    · exact hV.ge i (by rw [← hlen]; exact hi)
  · intro i j hi hj e
    rw [hu, Bool.or_eq_true, decide_eq_true_eq] at hi hj
    rw [hg, hg] at e
    by_cases c1 : i = pos t k <;> by_cases c2 : j = pos t k
    · omega
    · rw [if_pos c1, if_neg c2] at e
      exact absurd (mem_keys.2 ⟨j, hj.resolve_left c2, e.symm⟩) hn
    · rw [if_neg c1, if_pos c2] at e
      exact absurd (mem_keys.2 ⟨i, hi.resolve_left c1, e⟩) hn
    · rw [if_neg c1, if_neg c2] at e
      exact hV.nodup i j (hi.resolve_left c1) (hj.resolve_left c2) e
  · intro i hi m hm'
    rw [hu, Bool.or_eq_true, decide_eq_true_eq] at hi
    rw [hlen, hg] at hm'
    rw [hlen, hg, hu, Bool.or_eq_true, decide_eq_true_eq]
    right
    by_cases c : i = pos t k
    · rw [if_pos c] at hm' ⊢
      have s := ff_spec hF (own_lt (n := t.length) (by omega) k)
      have hc : cost t.length (pos t k) k = ff t (own t.length k) := cost_own s.1 k
      rw [c, hc] at hm'
      exact s.2.2 m hm'
    · rw [if_neg c] at hm' ⊢
      exact hV.path i (hi.resolve_left c) m hm'
theorem insAll_valid : ∀ (ks t : List Int), Valid t → (∀ k ∈ ks, 0 ≤ k) → ks.Nodup → (∀ k ∈ ks, k ∉ keys t) → many t + ks.length < t.length → Valid (insAll t ks) ∧ (keys (insAll t ks)).Perm (ks ++ keys t)
  | [], t, hV, _, _, _, _ => ⟨hV, .refl _⟩
  | k :: ks, t, hV, h0, hn, hd, hm => by
    have hF := hV.free
    have hk0 := h0 k (by simp)
    have hkn := hd k (by simp)
    simp only [List.length_cons] at hm
    have V1 := hV.ins hk0 hkn (by omega)
    have P1 : (keys (TabT.ins t k)).Perm (k :: keys t) := keys_set t (pos t k) k (pos_lt hF k) (pos_free hF k) hk0
    have := insAll_valid ks (TabT.ins t k) V1 (fun x hx => h0 x (by simp [hx])) (List.nodup_cons.1 hn).2 (fun x hx e => by
      rcases List.mem_cons.1 (P1.mem_iff.1 e) with e | e
      · subst e; exact (List.nodup_cons.1 hn).1 hx
      · exact hd x (by simp [hx]) e) (by rw [many_ins hF hk0]; simp only [TabT.ins, List.length_set]; omega)
    refine ⟨this.1, this.2.trans ?_⟩
    exact ((List.Perm.refl ks).append P1).trans List.perm_middle
theorem insAll_len : ∀ (ks t : List Int), (insAll t ks).length = t.length
  | [], t => rfl
  | k :: ks, t => by
    have := insAll_len ks (TabT.ins t k)
    simp only [TabT.ins, List.length_set] at this
    exact this
/-- The table of keys, out of an empty one: valid, with these keys. -/
theorem table_valid {n : Nat} {ks : List Int} (h0 : ∀ k ∈ ks, 0 ≤ k) (hn : ks.Nodup) (hl : ks.length < n) : Valid (insAll (empty n) ks) ∧ (keys (insAll (empty n) ks)).Perm ks ∧ (insAll (empty n) ks).length = n := by
  have hm : many (empty n) = 0 := by rw [many_keys, keys_empty]; rfl
  have := insAll_valid ks (empty n) (Valid.empty (by omega)) h0 hn (fun k _ => by rw [keys_empty]; simp) (by rw [hm]; simp [TabT.empty]; exact hl)
  rw [keys_empty, List.append_nil] at this
  exact ⟨this.1, this.2, by rw [insAll_len]; simp [TabT.empty]⟩
def sm (F : Nat → Nat) (k : Nat) : Nat → Nat
  | 0 => 0
  | d + 1 => sm F k d + F (k + d)
theorem sm_front (F : Nat → Nat) : ∀ d k, sm F k (d + 1) = F k + sm F (k + 1) d
  | 0, k => by simp [sm]
  | d + 1, k => by rw [sm, sm_front F d k, sm, show k + (d + 1) = k + 1 + d by omega]; omega
theorem sm_turn (F : Nat → Nat) (n : Nat) (hp : ∀ i, F (i + n) = F i) : ∀ k, sm F k n = sm F 0 n
  | 0 => rfl
  | k + 1 => by
    have a := sm_front F n k
    rw [sm, hp] at a
    have := sm_turn F n hp k
    omega
theorem sm_ext {F G : Nat → Nat} (k : Nat) : ∀ d, (∀ i, i < d → F (k + i) = G (k + i)) → sm F k d = sm G k d
  | 0, _ => rfl
  | d + 1, h => by rw [sm, sm, sm_ext k d (fun i hi => h i (by omega)), h d (by omega)]
def rn (u : Nat → Bool) : Nat → Nat → Nat
  | 0, _ => 0
  | d + 1, i => if u i = true then 1 + rn u d (i + 1) else 0
theorem rn_stop (u : Nat → Bool) : ∀ (d i e : Nat), u (i + d) = false → d ≤ e → rn u e i = rn u d i
  | 0, i, e, h, _ => by
    cases e with
    | zero => rfl
    | succ e => rw [rn, rn, if_neg (by rw [show u i = false by simpa using h]; decide)]
  | d + 1, i, e, h, he => by
    cases e with
    | zero => omega
    | succ e => rw [rn, rn, rn_stop u d (i + 1) e (by rw [← h]; congr 1; omega) (by omega)]
end TabT
namespace TabT
set_option linter.unusedVariables false
set_option linter.unusedSimpArgs false
section
variable (u : Nat → Bool) (n : Nat) (hp : ∀ i, u (i + n) = u i)
def cF (i : Nat) : Nat := if u i = true then 1 else 0
def sF (i : Nat) : Nat := if u i = true ∧ u (i + n - 1) = false then rn u n i else 0
end
end TabT
namespace TabT
set_option linter.unusedVariables false
set_option linter.unusedSimpArgs false
section
variable (u : Nat → Bool) (n : Nat) (hp : ∀ i, u (i + n) = u i)
include hp
theorem rn_turn : ∀ d i, rn u d (i + n) = rn u d i
  | 0, i => rfl
  | d + 1, i => by rw [rn, rn, hp, show i + n + 1 = i + 1 + n by omega, rn_turn d (i + 1)]
theorem clusters_from (g : Nat) (hg : u g = false) : ∀ (d e : Nat), e + d = n → 1 ≤ e → sm (sF u n) (g + e) d + (if u (g + e - 1) = true ∧ u (g + e) = true then rn u n (g + e) else 0) = sm (cF u) (g + e) d
  | 0, e, he, h1 => by
    have : u (g + e) = false := by rw [show e = n by omega, hp, hg]
    simp [sm, this]
  | d + 1, e, he, h1 => by
    have ih := clusters_from g hg d (e + 1) (by omega) (by omega)
    rw [sm_front, sm_front, show g + e + 1 = g + (e + 1) by omega]
    rw [show g + (e + 1) - 1 = g + e by omega] at ih
    have hprev : u (g + e + n - 1) = u (g + e - 1) := by rw [show g + e + n - 1 = g + e - 1 + n by omega, hp]
    have hend : u (g + n) = false := by rw [hp, hg]
    cases c : u (g + e) with
    | false =>
      rw [c] at ih
      simp only [sF, cF, c, Bool.false_eq_true, false_and, and_false, if_false] at ih ⊢
      omega
    | true =>
      have hr : rn u n (g + e) = 1 + (if u (g + (e + 1)) = true then rn u n (g + (e + 1)) else 0) := by
        rw [rn_stop u (n - e) (g + e) n (by rw [show g + e + (n - e) = g + n by omega]; exact hend) (by omega), show n - e = (n - (e + 1)) + 1 by omega, rn, if_pos c]
        congr 1
        rw [show g + e + 1 = g + (e + 1) by omega]
        cases c2 : u (g + (e + 1)) with
        | true =>
          rw [if_pos rfl]
          exact (rn_stop u (n - (e + 1)) (g + (e + 1)) n (by rw [show g + (e + 1) + (n - (e + 1)) = g + n by omega]; exact hend) (by omega)).symm
        | false =>
          rw [if_neg (by decide)]
          cases n - (e + 1) with
          | zero => rfl
          | succ k => rw [rn, if_neg (by rw [c2]; decide)]
      rw [c] at ih
      simp only [true_and] at ih
      cases c0 : u (g + e - 1) with
      | true =>
        simp only [sF, cF, c, hprev, c0, Bool.true_eq_false, and_false, if_false, true_and, if_true, and_self]
        have ih2 : sm (sF u n) (g + (e + 1)) d + (if u (g + (e + 1)) = true then rn u n (g + (e + 1)) else 0) = sm (cF u) (g + (e + 1)) d := ih
        omega
      | false =>
        simp only [sF, cF, c, hprev, c0, and_self, if_true, Bool.false_eq_true, false_and, if_false]
        omega
theorem clusters_sum (g : Nat) (hn : 1 ≤ n) (hg : u g = false) : sm (sF u n) 0 n = sm (cF u) 0 n := by
  have h := clusters_from u n hp g hg (n - 1) 1 (by omega) (by omega)
  rw [show g + 1 - 1 = g by omega, hg] at h
  simp only [Bool.false_eq_true, false_and, if_false, Nat.add_zero] at h
  have t1 : sm (sF u n) (g + 1) n = sm (sF u n) (g + 1) (n - 1) := by
    conv => lhs; rw [show n = n - 1 + 1 by omega, sm]
    rw [show n - 1 + 1 = n by omega, show g + 1 + (n - 1) = g + n by omega, sF, if_neg (by rw [hp, hg]; simp)]
    rfl
  have t2 : sm (cF u) (g + 1) n = sm (cF u) (g + 1) (n - 1) := by
    conv => lhs; rw [show n = n - 1 + 1 by omega, sm]
    rw [show g + 1 + (n - 1) = g + n by omega, cF, if_neg (by rw [hp, hg]; simp)]
    rfl
  rw [← sm_turn (sF u n) n (fun i => by unfold sF; rw [hp, rn_turn u n hp]; congr 2; rw [show i + n + n - 1 = i + n - 1 + n by omega, hp]) (g + 1), t1, h, ← t2]
  exact sm_turn (cF u) n (fun i => by unfold cF; rw [hp]) (g + 1)
end
end TabT
namespace TabT
set_option linter.unusedVariables false
set_option linter.unusedSimpArgs false
theorem sm_count (p : Int → Bool) (l : List Int) : ∀ q, q ≤ l.length → sm (fun j => if p (l.getD j 0) = true then 1 else 0) 0 q = ((l.take q).filter p).length
  | 0, _ => by simp [sm]
  | q + 1, h => by
    have e : l.take (q + 1) = l.take q ++ [l.getD q 0] := by
      rw [List.take_add_one, List.getElem?_eq_getElem (by omega), Option.toList_some, List.getD_eq_getElem?_getD, List.getElem?_eq_getElem (by omega)]
      rfl
    rw [sm, sm_count p l q (by omega), e, List.filter_append, List.length_append, Nat.zero_add]
    cases c : p (l.getD q 0) with
    | true => rw [List.filter_cons_of_pos c]; simp
    | false => rw [List.filter_cons_of_neg (by rw [c]; decide)]; simp
end TabT
namespace Go.Proofs.Ytfblohigbdomjaa.G
open Go.RowKit Go.Proofs.YtfblohigbdomjaaW.PrintWords Go.Proofs.YtfblohigbdomjaaW.PrintLast Go.Proofs.YtfblohigbdomjaaW.PrintMore
set_option linter.unusedVariables false
set_option linter.unusedSectionVars false
set_option linter.unusedSimpArgs false
theorem wayF_iff (l : List Int) (key : Nat) : ∀ (c s : Nat), wayF l key s c = true ↔ ∀ m, m < c → 0 ≤ l.getD ((key + s + m) % l.length) 0
  | 0, s => by simp [wayF]
  | c + 1, s => by
    rw [wayF, Bool.and_eq_true, decide_eq_true_eq, wayF_iff l key c (s + 1)]
    constructor
    · rintro ⟨h0, h⟩ m hm
      cases m with
      | zero => exact h0
      | succ m => have := h m (by omega); rwa [show key + (s + 1) + m = key + s + (m + 1) by omega] at this
    · intro h
      exact ⟨h 0 (by omega), fun m hm => by have := h (m + 1) (by omega); rwa [show key + s + (m + 1) = key + (s + 1) + m by omega] at this⟩
theorem okFrom_iff (l : List Int) : ∀ (d i : Nat), okFrom l d i = true ↔ ∀ j, i ≤ j → j < i + d → okCell l j = true
  | 0, i => by
    rw [okFrom]
    exact ⟨fun _ j h1 h2 => by omega, fun _ => rfl⟩
  | d + 1, i => by
    rw [okFrom, Bool.and_eq_true, okFrom_iff l d (i + 1)]
    constructor
    · rintro ⟨h0, h⟩ j h1 h2
      by_cases e : j = i
      · rw [e]; exact h0
      · exact h j (by omega) (by omega)
    · intro h
      exact ⟨h i (Nat.le_refl _) (by omega), fun j h1 h2 => h j (by omega) (by omega)⟩
theorem own_nat (key n : Nat) : TabT.own n (key : Int) = key % n := rfl
theorem way_cell {n key m : Nat} (hn : 0 < n) (hm : m < n) : (key + m) % n = TabT.cy n (TabT.own n (key : Int) + m) := by
  have := Nat.mod_lt key hn
  rw [own_nat, ← TabT.cy_mod (by omega), Nat.mod_add_mod]
theorem us_of {l : List Int} {i : Nat} (hi : i < l.length) : TabT.us l i = decide (0 ≤ l.getD i 0) := by
  rw [TabT.us, t_g0 hi]
theorem tbl_valid {l : List Int} (h : tblB l = true) : TabT.Valid l := by
  obtain ⟨h1, h2, h3, h4⟩ := tblB_parts h
  have hok : okFrom l l.length 0 = true := by
    unfold tblB at h
    simp only [Bool.and_eq_true] at h
    exact h.2
  have hc := (okFrom_iff l l.length 0).1 hok
  refine ⟨?_, ?_, ?_, ?_⟩
  · obtain ⟨i, hi, e⟩ := List.getElem_of_mem h4
    exact ⟨i, hi, by rw [us_of hi, getD_get hi, e]; rfl⟩
  · intro i hi
    rw [t_g0 hi]
    exact (h3 i hi).1
  · intro i j hi hj e
    have li := TabT.us_lt hi
    have lj := TabT.us_lt hj
    rw [t_g0 li, t_g0 lj] at e
    rcases Nat.lt_trichotomy i j with c | c | c
    · exact absurd e (tbl_dist h i j c lj (us_val hi))
    · exact c
    · exact absurd e.symm (tbl_dist h j i c li (us_val hj))
  · intro i hi m hm
    have li := TabT.us_lt hi
    have hv := us_val hi
    have := hc i (Nat.zero_le _) (by omega)
    obtain ⟨key, hkey⟩ : ∃ key : Nat, l.getD i 0 = key := ⟨(l.getD i 0).toNat, by omega⟩
    rw [t_g0 li, hkey] at hm ⊢
    rw [okCell, decide_eq_false (by omega), Bool.false_or, Bool.and_eq_true, hkey, Int.toNat_natCast, costN_cost li] at this
    have hw := (wayF_iff l key _ 0).1 this.2 m hm
    have hm2 := TabT.cost_lt li (key : Int)
    rw [Nat.add_zero, way_cell (by omega) (by omega)] at hw
    rw [us_of (TabT.cy_lt (by have := TabT.own_lt (n := l.length) (by omega) (key : Int); omega))]
    exact decide_eq_true hw
theorem valid_tbl {l : List Int} (h1 : 2 ≤ l.length) (h2 : l.length ≤ 12) (hc : Cells l) (hV : TabT.Valid l) : tblB l = true := by
  unfold tblB
  simp only [Bool.and_eq_true, decide_eq_true_eq]
  refine ⟨⟨⟨by omega, ?_⟩, ?_⟩, ?_⟩
  · rw [List.all_eq_true]
    intro x hx
    obtain ⟨i, hi, e⟩ := List.getElem_of_mem hx
    have := hc i hi
    rw [getD_get hi, e] at this
    exact decide_eq_true this
  · obtain ⟨i, hi, hu⟩ := hV.free
    have := hc i hi
    rw [us_of hi, decide_eq_false_iff_not] at hu
    have e : l.getD i 0 = -1 := by omega
    rw [← e]
    exact getD_mem hi
  · rw [okFrom_iff]
    intro j _ hj
    rw [Nat.zero_add] at hj
    by_cases c : l.getD j 0 < 0
    · rw [okCell, decide_eq_true c, Bool.true_or]
    · have hu : TabT.us l j = true := by rw [us_of hj]; exact decide_eq_true (by omega)
      obtain ⟨key, hkey⟩ : ∃ key : Nat, l.getD j 0 = key := ⟨(l.getD j 0).toNat, by omega⟩
      rw [okCell, decide_eq_false c, Bool.false_or, Bool.and_eq_true, hkey, Int.toNat_natCast, costN_cost hj]
      constructor
      · rw [Bool.not_eq_true', decide_eq_false_iff_not]
        intro hm
        obtain ⟨i, hi, e⟩ := List.getElem_of_mem hm
        rw [List.length_take] at hi
        rw [List.getElem_take] at e
        have hi2 : i < l.length := by omega
        have ei : l.getD i 0 = key := by rw [getD_get hi2]; exact e
        have := hV.nodup i j (by rw [us_of hi2, ei]; exact decide_eq_true (by omega)) hu (by rw [t_g0 hi2, t_g0 hj, ei, hkey])
        omega
      · rw [wayF_iff]
        intro m hm
        have hm2 := TabT.cost_lt hj (key : Int)
        have := hV.path j hu m (by rw [t_g0 hj, hkey]; exact hm)
        rw [t_g0 hj, hkey, us_of (TabT.cy_lt (by have := TabT.own_lt (n := l.length) (by omega) (key : Int); omega))] at this
        rw [Nat.add_zero, way_cell (by omega) (by omega)]
        exact of_decide_eq_true this
theorem idxs_alike {t u : List Int} (h : TabT.Alike t u) : ∀ q, q ≤ t.length → idxsTo posP t q = idxsTo posP u q
  | 0, _ => rfl
  | q + 1, hq => by
    have e := h.2 q
    rw [us_of (by omega), us_of (by have := h.1; omega)] at e
    rw [idxsTo, idxsTo, idxs_alike h q (by omega), show posP (t.getD q 0) = posP (u.getD q 0) by rw [posP, posP]; exact e]
theorem used_alike {t u : List Int} (h : TabT.Alike t u) : idxsTo posP t t.length = idxsTo posP u u.length := by rw [idxs_alike h _ (Nat.le_refl _), h.1]
theorem used_many (l : List Int) : (idxsTo posP l l.length).length = TabT.many l := by
  have key : ∀ q, q ≤ l.length → (idxsTo posP l q).length = ((l.take q).filter fun k => decide (0 ≤ k)).length := by
    intro q
    induction q with
    | zero => intro _; simp [idxsTo]
    | succ q ih =>
      intro hq
      rw [idxsTo, take_succ_getD (by omega), List.filter_append, List.length_append, List.length_append, ih (by omega)]
      congr 1
      unfold posP
      cases c : decide (0 ≤ l.getD q 0) with
      | true => rw [List.filter_cons_of_pos (by exact c)]; simp
      | false => rw [List.filter_cons_of_neg (by rw [c]; decide)]; simp
  rw [key _ (Nat.le_refl _), List.take_length, TabT.many]
theorem costs_len (l : List Int) : (TabT.costs l).length = l.length := by simp [TabT.costs]
theorem cosTo_sum (l : List Int) : ∀ q, q ≤ l.length → (cosTo l q).sum = ((((TabT.costs l).take q).sum : Nat) : Int)
  | 0, _ => by simp [cosTo, idxsTo]
  | q + 1, hq => by
    have e : (TabT.costs l).take (q + 1) = (TabT.costs l).take q ++ [(TabT.costs l).getD q 0] := by
      have hl := costs_len l
      rw [List.take_add_one, List.getElem?_eq_getElem (by omega), Option.toList_some, List.getD_eq_getElem?_getD, List.getElem?_eq_getElem (by omega)]
      rfl
    rw [cosTo_succ, List.sum_append, cosTo_sum l q (by omega), e, List.sum_append, List.sum_singleton, TabT.getD_costs l q (by omega), t_g0 (by omega), Int.natCast_add]
    congr 1
    unfold posP
    by_cases c : 0 ≤ l.getD q 0
    · obtain ⟨key, hkey⟩ : ∃ key : Nat, l.getD q 0 = key := ⟨(l.getD q 0).toNat, by omega⟩
      rw [if_pos (decide_eq_true c), if_pos c, List.sum_singleton, cellC, Int.toNat_natCast, hkey, Int.toNat_natCast, costN_cost (by omega)]
    · rw [if_neg (by rw [decide_eq_false c]; decide), if_neg c]
      rfl
theorem costsV_sum (l : List Int) : (costsV l).sum = ((TabT.total l : Nat) : Int) := by
  rw [costsV, cosTo_sum l _ (Nat.le_refl _), TabT.total, ← costs_len l, List.take_length]
end Go.Proofs.Ytfblohigbdomjaa.G
namespace Go.Proofs.Ytfblohigbdomjaa.G
open Go.RowKit Go.Proofs.YtfblohigbdomjaaW.PrintWords Go.Proofs.YtfblohigbdomjaaW.PrintLast Go.Proofs.YtfblohigbdomjaaW.PrintMore
set_option linter.unusedVariables false
set_option linter.unusedSectionVars false
set_option linter.unusedSimpArgs false
section
variable {n : Nat} {ks : List Int} (h2 : 2 ≤ n) (h12 : n ≤ 12) (hl : ks.length < n) (hk : ∀ x ∈ ks, 0 ≤ x ∧ x ≤ 999) (hd : ks.Nodup)
include h2 h12 hl hk hd
theorem plain_valid : TabT.Valid (TabT.insAll (TabT.empty n) ks) ∧ (TabT.keys (TabT.insAll (TabT.empty n) ks)).Perm ks ∧ (TabT.insAll (TabT.empty n) ks).length = n := TabT.table_valid (fun k hx => (hk k hx).1) hd hl
theorem plain_tbl : tblB (TabT.insAll (TabT.empty n) ks) = true := by
  obtain ⟨hV, _, hlen⟩ := plain_valid h2 h12 hl hk hd
  have F := filled ks hl hk ks.length (Nat.le_refl _)
  rw [List.take_length] at F
  exact valid_tbl (by omega) (by omega) F.cells hV
end
end Go.Proofs.Ytfblohigbdomjaa.G
namespace Go.Proofs.Ytfblohigbdomjaa.G
open Go.RowKit Go.Proofs.YtfblohigbdomjaaW.PrintWords Go.Proofs.YtfblohigbdomjaaW.PrintLast Go.Proofs.YtfblohigbdomjaaW.PrintMore
set_option linter.unusedVariables false
set_option linter.unusedSectionVars false
set_option linter.unusedSimpArgs false
theorem keysZ_keys (l : List Int) : (keysZ l).Perm (TabT.keys l) := keysZ_perm l
end Go.Proofs.Ytfblohigbdomjaa.G
namespace Go.Proofs.Ytfblohigbdomjaa.G
open Go.RowKit Go.Proofs.YtfblohigbdomjaaW.PrintWords Go.Proofs.YtfblohigbdomjaaW.PrintLast Go.Proofs.YtfblohigbdomjaaW.PrintMore
set_option linter.unusedVariables false
set_option linter.unusedSimpArgs false
def Bytes (l : List Int) : Prop := ∀ x ∈ l, 0 ≤ x ∧ x ≤ 255
theorem bytes_of {l : List Int} (h : ∀ x ∈ l, (Lit.int .u8 x).wf = true) : Bytes l := by
  intro x hx
  have h2 := h x hx
  simp only [Lit.wf, Bool.and_eq_true, decide_eq_true_eq] at h2
  have e1 : IntKind.u8.min = 0 := by decide
  have e2 : IntKind.u8.max = 255 := by decide
  rw [e1, e2] at h2
  exact h2
theorem Bytes.get {l : List Int} (h : Bytes l) (j : Nat) : 0 ≤ l.getD j 0 ∧ l.getD j 0 ≤ 255 := by
  rcases Nat.lt_or_ge j l.length with hj | hj
  · exact h _ (by rw [List.getD_eq_getElem?_getD, List.getElem?_eq_getElem hj]; exact List.getElem_mem hj)
  · rw [List.getD_eq_getElem?_getD, List.getElem?_eq_none hj]; simp
theorem and255 (x : Int) : 0 ≤ Go.bits .and .u64 x 255 ∧ Go.bits .and .u64 x 255 ≤ 255 := by
  obtain ⟨a, ha⟩ : ∃ a : BitVec 64, a = BitVec.ofInt 64 x := ⟨_, rfl⟩
  have e : Go.bits .and .u64 x 255 = IntKind.u64.wrap ((BitVec.ofInt 64 x &&& BitVec.ofInt 64 255).toNat : Int) := rfl
  have hle : (BitVec.ofInt 64 x &&& BitVec.ofInt 64 255).toNat ≤ 255 := by
    rw [BitVec.toNat_and]
    exact Nat.le_trans Nat.and_le_right (by decide)
  rw [e, IntKind.wrap_u64]
  omega
theorem next_ok {l : List Int} (hb : Bytes l) (p s : Int) (h0 : 0 ≤ p) (h1 : p ≤ 1000000000000000000) : ∃ v s', spec_l1Cur_next.f l p s = some (v, p + 1, s') ∧ 0 ≤ v ∧ v ≤ 255 := by
  have hw : wrap64 (p + 1) = p + 1 := wrap_id (by omega) (by omega)
  have hr : 0 ≤ rd l p ∧ rd l p ≤ 255 := hb.get _
  unfold spec_l1Cur_next.f
  rw [hw]
  by_cases c1 : p < (l.length : Int)
  · rw [if_pos c1, if_pos h0]
    by_cases c2 : p + 1 ≤ (l.length : Int)
    · rw [if_pos c2]
      exact ⟨_, _, rfl, by rw [wrap_id (by omega) (by omega)]; exact hr⟩
    · omega
  · rw [if_neg c1]
    rw [if_neg (by omega)]
    refine ⟨_, _, rfl, ?_⟩
    have := and255 ((IntKind.u64.wrap ((IntKind.u64.wrap (IntKind.u64.wrap (s * 6364136223846793005))) + 1442695040888963407)) / 1099511627776)
    rw [wrap_id (by omega) (by omega)]
    exact this
theorem tmod_ok {v a : Int} (hv : 0 ≤ v) (ha : 0 < a) : 0 ≤ Int.tmod v a ∧ Int.tmod v a < a := by
  rw [Int.tmod_eq_emod_of_nonneg hv]
  exact ⟨Int.emod_nonneg _ (by omega), Int.emod_lt_of_pos _ ha⟩
theorem pick_ok {l : List Int} (hb : Bytes l) (p s a : Int) (h0 : 0 ≤ p) (h1 : p ≤ 100000000000000000) : ∃ r p' s', spec_l1Cur_pick.f l p s a = some (r, p', s') ∧ 0 ≤ r ∧ (r < a ∨ r = 0) ∧ p ≤ p' ∧ p' ≤ p + 2 := by
  unfold spec_l1Cur_pick.f
  by_cases c1 : a ≤ 1
  · rw [if_pos c1]
    exact ⟨0, p, s, rfl, by omega, Or.inr rfl, by omega, by omega⟩
  · rw [if_neg c1]
    obtain ⟨v, s1, e1, b1, b2⟩ := next_ok hb p s h0 (by omega)
    rw [e1, Option.bind_some]
    by_cases c2 : a > 200
    · rw [if_pos c2]
      obtain ⟨v2, s2, e2, b3, b4⟩ := next_ok hb (p + 1) s1 (by omega) (by omega)
      simp only [e2, Option.bind_some]
      rw [if_neg (by omega)]
      have hw : wrap64 (wrap64 (v * 256) + v2) = v * 256 + v2 := by rw [wrap_id (x := v * 256) (by omega) (by omega), wrap_id (by omega) (by omega)]
      have := tmod_ok (v := v * 256 + v2) (a := a) (by omega) (by omega)
      rw [hw]
      exact ⟨_, _, _, rfl, this.1, Or.inl this.2, by omega, by omega⟩
    · rw [if_neg c2, if_neg (by omega)]
      have := tmod_ok (v := v) (a := a) (by omega) (by omega)
      exact ⟨_, _, _, rfl, this.1, Or.inl this.2, by show p ≤ p + 1; omega, by show p + 1 ≤ p + 2; omega⟩
theorem among_ok {l : List Int} (hb : Bytes l) (p s : Int) (q : List Int) (hq : 0 < q.length) (h0 : 0 ≤ p) (h1 : p ≤ 100000000000000000) : ∃ v p' s', spec_l1Cur_among.f l p s q = some (v, p', s') ∧ p ≤ p' ∧ p' ≤ p + 2 := by
  obtain ⟨r, p', s', e, b1, b2, b3, b4⟩ := pick_ok hb p s (q.length : Int) h0 h1
  unfold spec_l1Cur_among.f
  rw [e, Option.bind_some]
  simp only [b1, if_true]
  rw [if_pos (by omega)]
  exact ⟨_, _, _, rfl, b3, b4⟩
theorem one_ok {l : List Int} (hb : Bytes l) (p s a : Int) (h0 : 0 ≤ p) (h1 : p ≤ 100000000000000000) : ∃ v p' s', spec_l1Cur_one.f l p s a = some (v, p', s') ∧ p ≤ p' ∧ p' ≤ p + 2 := by
  obtain ⟨r, p', s', e, b1, b2, b3, b4⟩ := pick_ok hb p s a h0 h1
  unfold spec_l1Cur_one.f
  rw [e, Option.bind_some]
  exact ⟨_, _, _, rfl, b3, b4⟩
theorem big_eq (a b : List Int) : ∃ r, laws_big.f a b = some r := by
  unfold laws_big.f
  split
  · exact ⟨_, rfl⟩
  · exact ⟨_, rfl⟩
theorem keys_l0 {l : List Int} (hb : Bytes l) (S : Int) : ∀ (d : Nat) (x : List Int) (p s : Int), x.length + d ≤ 20 → 0 ≤ p → p + 8 * d ≤ 1000000000000000 →
    ∃ size out p' s', Ev (fun k => spec_l1Cur_keys.l0 k S x (d : Int) l p s) (size, out, p', s') ∧ out.length ≤ 21 ∧ 0 ≤ p' ∧ p' ≤ p + 8 * d + 8 := by
  intro d
  induction d with
  | zero =>
    intro x p s hx h0 h1
    obtain ⟨r, p1, s1, e1, b1, b2, b3, b4⟩ := pick_ok hb p s 24 h0 (by omega)
    by_cases c0 : r = 0
    · obtain ⟨v, p2, s2, e2, b5, b6⟩ := among_ok hb p1 s1 [-1, 999, 1000] (by simp) (by omega) (by omega)
      refine ⟨S, x ++ [v], p2, s2, Ev.end_ fun k => ?_, by simp; omega, by omega, by omega⟩
      rw [spec_l1Cur_keys.l0, if_neg (by omega), e1, Option.bind_some]
      simp only [c0, if_true]
      rw [e2, Option.bind_some, if_pos (by omega)]
    · by_cases c1 : r = 1
      · obtain ⟨v, p2, s2, e2, b5, b6⟩ := among_ok hb p1 s1 [0, 1, -1, 12, 13] (by simp) (by omega) (by omega)
        refine ⟨v, x, p2, s2, Ev.end_ fun k => ?_, by omega, by omega, by omega⟩
        rw [spec_l1Cur_keys.l0, if_neg (by omega), e1, Option.bind_some]
        subst c1
        rw [if_neg (show ¬ (1 : Int) = 0 by decide), if_pos rfl, e2, Option.bind_some]
      · refine ⟨S, x, p1, s1, Ev.end_ fun k => ?_, by omega, by omega, by omega⟩
        rw [spec_l1Cur_keys.l0, if_neg (by omega), e1, Option.bind_some]
        simp only [c0, c1, if_false]
  | succ d ih =>
    intro x p s hx h0 h1
    obtain ⟨v, p1, s1, e1, b1, b2⟩ := among_ok hb p s [12, 40, 1000] (by simp) h0 (by omega)
    obtain ⟨r, p2, s2, e2, b3, b4, b5, b6⟩ := pick_ok hb p1 s1 v (by omega) (by omega)
    have hw : wrap64 (((d + 1 : Nat) : Int) - 1) = (d : Int) := by rw [wrap_id (by omega) (by omega)]; omega
    by_cases c : r ∈ x
    · obtain ⟨b, p3, s3, e3, b7, b8⟩ := one_ok hb p2 s2 20 (by omega) (by omega)
      cases b with
      | true =>
        obtain ⟨size, out, p', s', he, ho, q1, q2⟩ := ih (x ++ [r]) p3 s3 (by simp; omega) (by omega) (by omega)
        refine ⟨size, out, p', s', ?_, ho, q1, by omega⟩
        refine Ev.step (f := fun k => (spec_l1Has.f k x r).bind fun t571 => (if t571 = true then (spec_l1Cur_keys.l0 k S (x ++ [r]) (d : Int) l p3 s3) else (spec_l1Cur_keys.l0 k S (x ++ [r]) (d : Int) l p2 s2))) (fun k => by
          rw [spec_l1Cur_keys.l0, if_pos (by omega), e1, Option.bind_some, e2, Option.bind_some]
          simp only [e3, Option.bind_some, if_true, hw]
          rw [if_pos (by omega), if_pos (by omega)]) ?_
        refine Ev.bind (l1Has_ev x r (by omega)) ?_
        simp only [c, decide_true, if_true]
        exact he
      | false =>
        obtain ⟨size, out, p', s', he, ho, q1, q2⟩ := ih x p3 s3 (by omega) (by omega) (by omega)
        refine ⟨size, out, p', s', ?_, ho, q1, by omega⟩
        refine Ev.step (f := fun k => (spec_l1Has.f k x r).bind fun t571 => (if t571 = true then (spec_l1Cur_keys.l0 k S x (d : Int) l p3 s3) else (spec_l1Cur_keys.l0 k S (x ++ [r]) (d : Int) l p2 s2))) (fun k => by
          rw [spec_l1Cur_keys.l0, if_pos (by omega), e1, Option.bind_some, e2, Option.bind_some]
          simp only [e3, Option.bind_some, Bool.false_eq_true, if_false, hw]
          rw [if_pos (by omega)]) ?_
        refine Ev.bind (l1Has_ev x r (by omega)) ?_
        simp only [c, decide_true, if_true]
        exact he
    · obtain ⟨size, out, p', s', he, ho, q1, q2⟩ := ih (x ++ [r]) p2 s2 (by simp; omega) (by omega) (by omega)
      refine ⟨size, out, p', s', ?_, ho, q1, by omega⟩
      obtain ⟨b, p3, s3, e3, b7, b8⟩ := one_ok hb p2 s2 20 (by omega) (by omega)
      refine Ev.step (f := fun k => (spec_l1Has.f k x r).bind fun t571 => (if t571 = true then (if b = true then (spec_l1Cur_keys.l0 k S (x ++ [r]) (d : Int) l p3 s3) else (spec_l1Cur_keys.l0 k S x (d : Int) l p3 s3)) else (spec_l1Cur_keys.l0 k S (x ++ [r]) (d : Int) l p2 s2))) (fun k => by
        rw [spec_l1Cur_keys.l0, if_pos (by omega), e1, Option.bind_some, e2, Option.bind_some]
        simp only [e3, Option.bind_some, hw, show x.length < 17592186044416 by omega, if_true]) ?_
      refine Ev.bind (l1Has_ev x r (by omega)) ?_
      simp only [c, decide_false, Bool.false_eq_true, if_false]
      exact he
theorem keys_ok {l : List Int} (hb : Bytes l) (p s : Int) (h0 : 0 ≤ p) (h1 : p ≤ 10000000000) : ∃ size out p' s', Ev (fun k => spec_l1Cur_keys.f k l p s) (size, out, p', s') ∧ out.length ≤ 21 ∧ 0 ≤ p' ∧ p' ≤ p + 200 := by
  have many : ∃ v p1 s1, spec_l1Cur_among.f l p s [4, 7, 11] = some (v, p1, s1) ∧ v ≤ 11 ∧ p ≤ p1 ∧ p1 ≤ p + 2 := by
    obtain ⟨r, p1, s1, e1, b1, b2, b3, b4⟩ := pick_ok hb p s 3 h0 (by omega)
    refine ⟨rd [4, 7, 11] r, p1, s1, ?_, ?_, b3, b4⟩
    · unfold spec_l1Cur_among.f
      rw [show (([4, 7, 11] : List Int).length : Int) = 3 by rfl, e1, Option.bind_some]
      simp only [b1, if_true]
      rw [if_pos (by omega)]
    · obtain ⟨q, rfl⟩ : ∃ q : Nat, r = q := ⟨r.toNat, by omega⟩
      have : q = 0 ∨ q = 1 ∨ q = 2 := by omega
      rcases this with rfl | rfl | rfl <;> decide
  obtain ⟨v, p1, s1, e1, hv, b1, b2⟩ := many
  obtain ⟨r, p2, s2, e2, b3, b4, b5, b6⟩ := pick_ok hb p1 s1 v (by omega) (by omega)
  have hw1 : wrap64 (2 + r) = 2 + r := wrap_id (by omega) (by omega)
  have hw2 : wrap64 (2 + r + 1) = 2 + r + 1 := wrap_id (by omega) (by omega)
  obtain ⟨n, p3, s3, e3, b7, b8, b9, b10⟩ := pick_ok hb p2 s2 (2 + r + 1) (by omega) (by omega)
  obtain ⟨size, out, p', s', he, ho, q1, q2⟩ := keys_l0 hb (2 + r) n.toNat [] p3 s3 (by simp; omega) (by omega) (by omega)
  refine ⟨size, out, p', s', ?_, ho, q1, by omega⟩
  unfold spec_l1Cur_keys.f
  rw [show (n.toNat : Int) = n by omega] at he
  simp only [e1, Option.bind_some, e2, hw1, hw2, e3]
  exact he
theorem DrawTableOf_ok {l : List Int} (hb : Bytes l) : ∃ size ks, Ev (fun k => spec_DrawTableOf.f k l) (size, ks) ∧ ks.length ≤ 21 := by
  obtain ⟨size, out, p', s', he, ho, q1, q2⟩ := keys_ok hb 0 0 (by omega) (by omega)
  refine ⟨size, out, ?_, ho⟩
  unfold spec_DrawTableOf.f
  exact Ev.bind he (Ev.now _)
theorem table_j0 {l : List Int} (hb : Bytes l) (n : Nat) (h2 : 2 ≤ n) (t : List Int) (ht : t.length = n) (p s : Int) (h0 : 0 ≤ p) (h1 : p ≤ 100000000000) : ∃ out p' s', Ev (fun k => spec_l1Cur_table.j0 k (n : Int) l p s t) (out, p', s') ∧ out.length = n ∧ 0 ≤ p' ∧ p' ≤ p + 10 := by
  obtain ⟨b, p1, s1, e1, b1, b2⟩ := one_ok hb p s 12 h0 (by omega)
  cases b with
  | true =>
    obtain ⟨r, p2, s2, e2, b3, b4, b5, b6⟩ := pick_ok hb p1 s1 (n : Int) (by omega) (by omega)
    obtain ⟨v, p3, s3, e3, b7, b8⟩ := among_ok hb p2 s2 [-1, -2, 0, 5, 1000] (by simp) (by omega) (by omega)
    refine ⟨t.set r.toNat v, p3, s3, Ev.end_ fun k => ?_, by simpa using ht, by omega, by omega⟩
    rw [spec_l1Cur_table.j0, e1, Option.bind_some]
    simp only [if_true, e2, Option.bind_some, e3]
    rw [if_pos b3, if_pos (by omega)]
  | false =>
    refine ⟨t, p1, s1, Ev.end_ fun k => ?_, ht, by omega, by omega⟩
    rw [spec_l1Cur_table.j0, e1, Option.bind_some]
    simp only [Bool.false_eq_true, if_false]
theorem table_ok {l : List Int} (hb : Bytes l) (p s : Int) (h0 : 0 ≤ p) (h1 : p ≤ 10000000000) : ∃ out p' s', Ev (fun k => spec_l1Cur_table.f k l p s) (out, p', s') ∧ out.length ≤ 21 ∧ 0 ≤ p' ∧ p' ≤ p + 300 := by
  obtain ⟨size, ks, p1, s1, he, ho, q1, q2⟩ := keys_ok hb p s h0 h1
  cases hv : keysB ks size with
  | false =>
    refine ⟨ks, p1, s1, ?_, ho, q1, by omega⟩
    unfold spec_l1Cur_table.f
    refine Ev.bind he ?_
    refine Ev.bind (prKeys_ev ks size (by omega)) ?_
    simp only [hv, Bool.false_eq_true, if_false]
    exact Ev.now _
  | true =>
    obtain ⟨h1', h2', h3', h4', h5'⟩ := keysB_parts hv
    obtain ⟨n, rfl⟩ : ∃ n : Nat, size = n := ⟨size.toNat, by omega⟩
    obtain ⟨b, p2, s2, e2, b1, b2⟩ := one_ok hb p1 s1 3 q1 (by omega)
    have F1 := filled (n := n) ks (by omega) h4' ks.length (Nat.le_refl _)
    have F2 := rfilled (n := n) (by omega) ks (by omega) h4' h5' ks.length (Nat.le_refl _)
    rw [List.take_length] at F1 F2
    obtain ⟨o1, p3, s3, f1, g1, g2, g3⟩ := table_j0 hb n (by omega) _ F1.len_ p2 s2 (by omega) (by omega)
    obtain ⟨o2, p4, s4, f2, g4, g5, g6⟩ := table_j0 hb n (by omega) _ F2.len_ p2 s2 (by omega) (by omega)
    cases b with
    | true =>
      refine ⟨o2, p4, s4, ?_, by omega, g5, by omega⟩
      unfold spec_l1Cur_table.f
      refine Ev.bind he ?_
      refine Ev.bind (prKeys_ev ks (n : Int) (by omega)) ?_
      simp only [hv, if_true]
      refine Ev.bind (prOf_ev n ks (by omega) (by omega) (by omega) h4') ?_
      simp only [e2, Option.bind_some, if_true]
      refine Ev.bind (prRobin_ev n ks (by omega) (by omega) (by omega) h4' h5') ?_
      exact f2
    | false =>
      refine ⟨o1, p3, s3, ?_, by omega, g2, by omega⟩
      unfold spec_l1Cur_table.f
      refine Ev.bind he ?_
      refine Ev.bind (prKeys_ev ks (n : Int) (by omega)) ?_
      simp only [hv, if_true]
      refine Ev.bind (prOf_ev n ks (by omega) (by omega) (by omega) h4') ?_
      simp only [e2, Option.bind_some, Bool.false_eq_true, if_false]
      exact f1
theorem DrawIsTable_ok {l : List Int} (hb : Bytes l) : ∃ t, Ev (fun k => spec_DrawIsTable.f k l) t ∧ t.length ≤ 21 := by
  obtain ⟨out, p', s', he, ho, q1, q2⟩ := table_ok hb 0 0 (by omega) (by omega)
  refine ⟨out, ?_, ho⟩
  unfold spec_DrawIsTable.f
  exact Ev.bind he (Ev.now _)
theorem t_jSame_ev (a b : List Int) (hn : a.length ≤ 1000000) : Ev (fun k => laws_jSame.f k a b) (decide (a = b)) := by
  unfold laws_jSame.f
  by_cases h : a.length = b.length
  · have e : ((a.length : Int) = (b.length : Int)) = True := eq_true (by omega)
    simp only [e, if_true]
    have := same_loop laws_jSame.l0 (fun k x0 x1 x12 x13 => by rw [laws_jSame.l0]) a b h hn a.length 0 (by omega)
    simpa using this
  · have e : ((a.length : Int) = (b.length : Int)) = False := eq_false (by omega)
    simp only [e, if_false]
    rw [decide_eq_false (fun e2 => h (by rw [e2]))]
    exact Ev.now _
theorem t_jTable_ev (a b : List Int) (hn : a.length ≤ 1000000) : Ev (fun k => laws_jTable.f k a b) (decide (a = b)) := by
  unfold laws_jTable.f
  exact Ev.bind (t_jSame_ev a b hn) (Ev.now _)
end Go.Proofs.Ytfblohigbdomjaa.G
namespace Go.Proofs.Ytfblohigbdomjaa.G
open Go.RowKit Go.Proofs.YtfblohigbdomjaaW.PrintWords Go.Proofs.YtfblohigbdomjaaW.PrintLast Go.Proofs.YtfblohigbdomjaaW.PrintMore
set_option linter.unusedVariables false
set_option linter.unusedSimpArgs false
set_option linter.unusedSectionVars false
theorem t_numberOf_ok {m : List Int} (hb : Bytes m) (hm : m.length ≤ 140737488351232) : ∃ v, Ev (fun k => laws_numberOf.f k m) v ∧ 0 ≤ v := by
  have key : ∀ (d q : Nat) (x : Int), q + d = m.length → 0 ≤ x → x < 1000003 → ∃ v, Ev (fun k => laws_numberOf.l0 k x m (m.length : Int) (q : Int)) v ∧ 0 ≤ v := by
    intro d
    induction d with
    | zero =>
      intro q x hd h0 h1
      exact ⟨x, Ev.end_ fun k => by rw [laws_numberOf.l0, if_neg (by omega)], h0⟩
    | succ d ih =>
      intro q x hd h0 h1
      have hg := hb.get q
      have ht := tmod_ok (v := 31 * x + m.getD q 0) (a := 1000003) (by omega) (by omega)
      obtain ⟨v, hv, hv0⟩ := ih (q + 1) (Int.tmod (31 * x + m.getD q 0) 1000003) (by omega) ht.1 ht.2
      refine ⟨v, Ev.one hv fun k => ?_, hv0⟩
      rw [laws_numberOf.l0, if_pos (by omega), if_pos (by omega), if_pos (by omega), rd_nat, wrap_id (x := 31 * x) (by omega) (by omega), wrap_id (x := m.getD q 0) (by omega) (by omega), wrap_id (x := 31 * x + m.getD q 0) (by omega) (by omega), wrap_next (n := m.length) (by omega) (by omega)]
  unfold laws_numberOf.f
  exact key m.length 0 0 (by omega) (by omega) (by omega)
theorem t_jSwapped_ok (l : List Int) (t : Int) (h0 : 0 ≤ t) (h1 : t + 1 < (l.length : Int)) (hl : l.length ≤ 1000) : ∃ s, laws_jSwapped.f l t = some s ∧ l.Perm s := by
  obtain ⟨i, rfl⟩ : ∃ i : Nat, t = i := ⟨t.toNat, by omega⟩
  have c1 : wrap64 ((i : Int) + 1) = ((i + 1 : Nat) : Int) := wrap_next (n := l.length) (by omega) (by omega)
  have c2 : ((i + 1 : Nat) : Int) < (l.length : Int) := by omega
  have c3 : (0 : Int) ≤ (i : Int) := by omega
  have c4 : (i : Int) < (l.length : Int) := by omega
  have c5 : (0 : Int) ≤ ((i + 1 : Nat) : Int) := by omega
  have c6 : l.length < 17592186044416 := by omega
  have hE : laws_jSwapped.f l (i : Int) = some ((l.set i (l.getD (i + 1) 0)).set (i + 1) (l.getD i 0)) := by
    unfold laws_jSwapped.f
    simp only [Option.bind_some, List.nil_append, List.length_nil, Nat.zero_add, c1, c2, c3, c4, c5, c6, if_true, Int.toNat_natCast, rd_nat]
  refine ⟨_, hE, ?_⟩
  have e1 : l.getD (i + 1) 0 = l[i + 1] := by rw [List.getD_eq_getElem?_getD, List.getElem?_eq_getElem (by omega)]; rfl
  have e2 : l.getD i 0 = l[i] := by rw [List.getD_eq_getElem?_getD, List.getElem?_eq_getElem (by omega)]; rfl
  rw [e1, e2]
  exact (List.set_set_perm (by omega) (by omega)).symm
theorem keysB_perm {ks s : List Int} (h : ks.Perm s) (a : Int) : keysB s a = keysB ks a := by
  unfold keysB
  rw [h.length_eq]
  congr 1
  · congr 1
    rw [Bool.eq_iff_iff, List.all_eq_true, List.all_eq_true]
    exact ⟨fun g x hx => g x (h.mem_iff.1 hx), fun g x hx => g x (h.mem_iff.2 hx)⟩
  · exact decide_eq_decide.2 h.nodup_iff.symm
end Go.Proofs.Ytfblohigbdomjaa.G
namespace Go.Proofs.Ytfblohigbdomjaa.G
open Go.RowKit Go.Proofs.YtfblohigbdomjaaW.PrintWords Go.Proofs.YtfblohigbdomjaaW.PrintLast Go.Proofs.YtfblohigbdomjaaW.PrintMore
set_option linter.unusedVariables false
set_option linter.unusedSimpArgs false
set_option linter.unusedSectionVars false
section
variable {n : Nat} {ks s : List Int} (h2 : 2 ≤ n) (h12 : n ≤ 12) (hl : ks.length < n) (hk : ∀ x ∈ ks, 0 ≤ x ∧ x ≤ 999) (hd : ks.Nodup) (hp : ks.Perm s)
include h2 h12 hl hk hd hp
theorem plain_perm : TabT.Alike (TabT.insAll (TabT.empty n) ks) (TabT.insAll (TabT.empty n) s) ∧ TabT.total (TabT.insAll (TabT.empty n) ks) = TabT.total (TabT.insAll (TabT.empty n) s) := by
  have F := plain_valid h2 h12 hl hk hd
  have G := plain_valid (ks := s) h2 h12 (by rw [← hp.length_eq]; exact hl) (fun x hx => hk x (hp.mem_iff.2 hx)) (hp.nodup_iff.1 hd)
  exact TabT.alike_of_keys F.1 G.1 (by rw [F.2.2, G.2.2]) (F.2.1.trans (hp.trans G.2.1.symm))
end
end Go.Proofs.Ytfblohigbdomjaa.G
namespace Go.Proofs.Ytfblohigbdomjaa.Pure
open Go.RowKit Go.Proofs.Ytfblohigbdomjaa.G Go.Proofs.YtfblohigbdomjaaW.PrintWords Go.Proofs.YtfblohigbdomjaaW.PrintLast
set_option linter.unusedVariables false
set_option linter.unusedSimpArgs false
/-- How many cells from a cell on are used. -/
def runF (l : List Int) (at_ : Nat) : Nat → Nat → Nat
  | 0, n => n
  | d + 1, n => if l.getD ((at_ + n) % l.length) 0 < 0 then n else runF l at_ d (n + 1)
def cluV (l : List Int) : Nat → Nat → List Int → List Int
  | 0, _, out => out
  | d + 1, i, out => if l.getD i 0 < 0 ∨ 0 ≤ l.getD ((i + l.length - 1) % l.length) 0 then cluV l d (i + 1) out else cluV l d (i + 1) (out ++ [((runF l i l.length 0 : Nat) : Int)])
theorem cluV_len (l : List Int) : ∀ (d i : Nat) (out : List Int), (cluV l d i out).length ≤ out.length + d
  | 0, _, _ => by rw [cluV]; omega
  | d + 1, i, out => by
    rw [cluV]
    split
    · have := cluV_len l d (i + 1) out; omega
    · have := cluV_len l d (i + 1) (out ++ [((runF l i l.length 0 : Nat) : Int)])
      simp only [List.length_append, List.length_cons, List.length_nil] at this
      omega
theorem prev_arith {n i : Nat} (hn : 2 ≤ n) (hn2 : n ≤ 1000) (hi : i < n) : Int.tmod (wrap64 ((wrap64 ((i : Int) - 1)) + (n : Int))) (n : Int) = (((i + n - 1) % n : Nat) : Int) ∧ Int.tmod (wrap64 ((wrap64 ((i : Int) + (n : Int))) - 1)) (n : Int) = (((i + n - 1) % n : Nat) : Int) := by
  rw [wrap_id (x := (i : Int) - 1) (by omega) (by omega), wrap_id (x := (i : Int) - 1 + (n : Int)) (by omega) (by omega), wrap_id (x := (i : Int) + (n : Int)) (by omega) (by omega), wrap_id (x := (i : Int) + (n : Int) - 1) (by omega) (by omega),
    show (i : Int) - 1 + (n : Int) = ((i + n - 1 : Nat) : Int) by omega, show (i : Int) + (n : Int) - 1 = ((i + n - 1 : Nat) : Int) by omega]
  exact ⟨rfl, rfl⟩
theorem on_arith {n i s : Nat} (hn2 : n ≤ 1000) (hi : i ≤ 1000) (hs : s ≤ 1000) : Int.tmod (wrap64 ((i : Int) + (s : Int))) (n : Int) = (((i + s) % n : Nat) : Int) := by
  rw [wrap_id (by omega) (by omega), show (i : Int) + (s : Int) = ((i + s : Nat) : Int) by omega]; rfl
end Go.Proofs.Ytfblohigbdomjaa.Pure
namespace Go.Proofs.Ytfblohigbdomjaa.Pure
open Go.RowKit Go.Proofs.Ytfblohigbdomjaa.G Go.Proofs.YtfblohigbdomjaaW.PrintWords Go.Proofs.YtfblohigbdomjaaW.PrintLast
set_option linter.unusedVariables false
set_option linter.unusedSimpArgs false
section
variable (l : List Int) (hn : 2 ≤ l.length) (hn2 : l.length ≤ 12) (hr : ∀ j, j < l.length → -1 ≤ l.getD j 0 ∧ l.getD j 0 ≤ 999)
include hn hn2 hr
theorem sp_run (i : Nat) (hi : i < l.length) (out : List Int) (ho : out.length ≤ 100) (r : List Int × Bool) : ∀ (d s : Nat), s + d ≤ 100 → (∃ j, j < d ∧ l.getD ((i + (s + j)) % l.length) 0 < 0) →
    Ev (fun k => spec_ClustersOf.l0 k (l.length : Int) (out ++ [((runF l i d s : Nat) : Int)]) l (l.length : Int) (wrap64 ((i : Int) + 1)) l) r → Ev (fun k => spec_ClustersOf.l1 k (l.length : Int) out (i : Int) (s : Int) l (l.length : Int) (i : Int) l) r := by
  intro d
  induction d with
  | zero => intro s _ h _; obtain ⟨j, hj, _⟩ := h; omega
  | succ d ih =>
    intro s hs hex h
    have hm := Nat.mod_lt (i + s) (show 0 < l.length by omega)
    have hv := hr _ hm
    rw [runF] at h
    have ha := on_arith (n := l.length) (i := i) (s := s) (by omega) (by omega) (by omega)
    by_cases hf : l.getD ((i + s) % l.length) 0 < 0
    · rw [if_pos hf] at h
      refine Ev.one h fun k => ?_
      rw [spec_ClustersOf.l1, if_neg (by omega), ha, if_pos (by omega), if_pos (by omega), rd_nat, if_pos (by omega), if_pos (by omega)]
    · rw [if_neg hf] at h
      refine Ev.one (ih (s + 1) (by omega) ?_ h) fun k => ?_
      · obtain ⟨j, hj, hjf⟩ := hex
        have hj0 : j ≠ 0 := fun e => by rw [e, Nat.add_zero] at hjf; exact hf hjf
        exact ⟨j - 1, by omega, by rw [show s + 1 + (j - 1) = s + j by omega]; exact hjf⟩
      · rw [spec_ClustersOf.l1, if_neg (by omega), ha, if_pos (by omega), if_pos (by omega), rd_nat, if_neg (by omega), wrap_next (n := 100) (by omega) (by omega)]
theorem im_run (i : Nat) (hi : i < l.length) (out : List Int) (ho : out.length ≤ 100) (r : List Int × Bool) : ∀ (d s : Nat), s + d ≤ 100 → (∃ j, j < d ∧ l.getD ((i + (s + j)) % l.length) 0 < 0) →
    Ev (fun k => impl_ClustersOf.l0 k (out ++ [((runF l i d s : Nat) : Int)]) (l.length : Int) (l.length : Int) (wrap64 ((i : Int) + 1)) l) r → Ev (fun k => impl_ClustersOf.l1 k out (l.length : Int) (i : Int) (s : Int) (l.length : Int) (i : Int) l) r := by
  have hr0 := hr
  have hn20 := hn2
  have hn0 := hn
  intro d
  induction d with
  | zero => intro s _ h _; obtain ⟨j, hj, _⟩ := h; omega
  | succ d ih =>
    intro s hs hex h
    have hm := Nat.mod_lt (i + s) (show 0 < l.length by omega)
    rw [runF] at h
    have ha := on_arith (n := l.length) (i := i) (s := s) (by omega) (by omega) (by omega)
    by_cases hf : l.getD ((i + s) % l.length) 0 < 0
    · rw [if_pos hf] at h
      refine Ev.one h fun k => ?_
      rw [impl_ClustersOf.l1, if_neg (by omega), ha, if_pos (by omega), if_pos (by omega), rd_nat, if_neg (by omega), if_pos (by omega)]
    · rw [if_neg hf] at h
      refine Ev.one (ih (s + 1) (by omega) ?_ h) fun k => ?_
      · obtain ⟨j, hj, hjf⟩ := hex
        have hj0 : j ≠ 0 := fun e => by rw [e, Nat.add_zero] at hjf; exact hf hjf
        exact ⟨j - 1, by omega, by rw [show s + 1 + (j - 1) = s + j by omega]; exact hjf⟩
      · rw [impl_ClustersOf.l1, if_neg (by omega), ha, if_pos (by omega), if_pos (by omega), rd_nat, if_pos (by omega), wrap_next (n := 100) (by omega) (by omega)]
theorem free_from (hfree : (-1 : Int) ∈ l) (i : Nat) (hi : i < l.length) : ∃ j, j < l.length ∧ l.getD ((i + (0 + j)) % l.length) 0 < 0 := by
  have hr0 := hr
  have hn20 := hn2
  have hn0 := hn
  obtain ⟨c, hc, he⟩ := List.getElem_of_mem hfree
  refine ⟨(c + l.length - i) % l.length, Nat.mod_lt _ (by omega), ?_⟩
  have e : (i + (0 + (c + l.length - i) % l.length)) % l.length = c := by
    rw [Nat.zero_add, Nat.add_mod_mod, show i + (c + l.length - i) = c + l.length by omega, Nat.add_mod_right, Nat.mod_eq_of_lt hc]
  rw [e, List.getD_eq_getElem?_getD, List.getElem?_eq_getElem hc, he]
  decide
theorem sp_clu (hfree : (-1 : Int) ∈ l) : ∀ (d i : Nat) (out : List Int), i + d = l.length → out.length ≤ i → Ev (fun k => spec_ClustersOf.l0 k (l.length : Int) out l (l.length : Int) (i : Int) l) (cluV l d i out, true) := by
  intro d
  induction d with
  | zero =>
    intro i out hd ho
    exact Ev.end_ fun k => by rw [spec_ClustersOf.l0, if_neg (by omega)]; rfl
  | succ d ih =>
    intro i out hd ho
    have hi : i < l.length := by omega
    have hv := hr i hi
    have hm := Nat.mod_lt (i + l.length - 1) (show 0 < l.length by omega)
    have hp := hr _ hm
    have ha := (prev_arith (n := l.length) (i := i) hn (by omega) hi).1
    rw [cluV]
    have next : ∀ o : List Int, o.length ≤ i + 1 → Ev (fun k => spec_ClustersOf.l0 k (l.length : Int) o l (l.length : Int) (wrap64 ((i : Int) + 1)) l) (cluV l d (i + 1) o, true) := by
      intro o ho2
      rw [wrap_next (n := l.length) hi (by omega)]
      exact ih (i + 1) o (by omega) ho2
    by_cases hf : l.getD i 0 = -1
    · rw [if_pos (Or.inl (by omega))]
      refine Ev.step (f := fun k => spec_ClustersOf.j1 k (l.length : Int) out (i : Int) l (l.length : Int) (i : Int) true l) (fun k => by rw [spec_ClustersOf.l0, if_pos (by omega), if_pos (by omega), if_pos (by omega), rd_nat, if_pos hf]) ?_
      exact Ev.one (next out (by omega)) fun k => by rw [spec_ClustersOf.j1, if_pos rfl]
    · by_cases hq : l.getD ((i + l.length - 1) % l.length) 0 = -1
      · rw [if_neg (by omega)]
        refine Ev.step (f := fun k => spec_ClustersOf.j1 k (l.length : Int) out (i : Int) l (l.length : Int) (i : Int) false l) (fun k => by rw [spec_ClustersOf.l0, if_pos (by omega), if_pos (by omega), if_pos (by omega), rd_nat, if_neg hf, if_neg (by omega), ha, if_pos (by omega), if_pos (by omega), rd_nat, hq]; rfl) ?_
        refine Ev.one (sp_run l hn hn2 hr i hi out (by omega) _ l.length 0 (by omega) (free_from l hn hn2 hr hfree i hi) (next _ (by simp; omega))) fun k => by rw [spec_ClustersOf.j1, if_neg (by decide)]; rfl
      · rw [if_pos (Or.inr (by omega))]
        refine Ev.step (f := fun k => spec_ClustersOf.j1 k (l.length : Int) out (i : Int) l (l.length : Int) (i : Int) true l) (fun k => by rw [spec_ClustersOf.l0, if_pos (by omega), if_pos (by omega), if_pos (by omega), rd_nat, if_neg hf, if_neg (by omega), ha, if_pos (by omega), if_pos (by omega), rd_nat, show (l.getD ((i + l.length - 1) % l.length) 0 != -1) = true by simpa using hq]) ?_
        exact Ev.one (next out (by omega)) fun k => by rw [spec_ClustersOf.j1, if_pos rfl]
theorem im_clu (hfree : (-1 : Int) ∈ l) : ∀ (d i : Nat) (out : List Int), i + d = l.length → out.length ≤ i → Ev (fun k => impl_ClustersOf.l0 k out (l.length : Int) (l.length : Int) (i : Int) l) (cluV l d i out, true) := by
  intro d
  induction d with
  | zero =>
    intro i out hd ho
    exact Ev.end_ fun k => by rw [impl_ClustersOf.l0, if_neg (by omega)]; rfl
  | succ d ih =>
    intro i out hd ho
    have hi : i < l.length := by omega
    have hv := hr i hi
    have hm := Nat.mod_lt (i + l.length - 1) (show 0 < l.length by omega)
    have hp := hr _ hm
    have ha := (prev_arith (n := l.length) (i := i) hn (by omega) hi).2
    rw [cluV]
    have next : ∀ o : List Int, o.length ≤ i + 1 → Ev (fun k => impl_ClustersOf.l0 k o (l.length : Int) (l.length : Int) (wrap64 ((i : Int) + 1)) l) (cluV l d (i + 1) o, true) := by
      intro o ho2
      rw [wrap_next (n := l.length) hi (by omega)]
      exact ih (i + 1) o (by omega) ho2
    by_cases hf : l.getD i 0 < 0
    · rw [if_pos (Or.inl hf)]
      refine Ev.step (f := fun k => impl_ClustersOf.j1 k out (l.length : Int) (i : Int) (l.length : Int) (i : Int) true l) (fun k => by rw [impl_ClustersOf.l0, if_pos (by omega), if_pos (by omega), if_pos (by omega), rd_nat, if_pos hf]) ?_
      exact Ev.one (next out (by omega)) fun k => by rw [impl_ClustersOf.j1, if_pos rfl]
    · by_cases hq : 0 ≤ l.getD ((i + l.length - 1) % l.length) 0
      · rw [if_pos (Or.inr hq)]
        refine Ev.step (f := fun k => impl_ClustersOf.j1 k out (l.length : Int) (i : Int) (l.length : Int) (i : Int) true l) (fun k => by rw [impl_ClustersOf.l0, if_pos (by omega), if_pos (by omega), if_pos (by omega), rd_nat, if_neg hf, if_neg (by omega), ha, if_pos (by omega), if_pos (by omega), rd_nat, decide_eq_true (show l.getD ((i + l.length - 1) % l.length) 0 ≥ 0 from hq)]) ?_
        exact Ev.one (next out (by omega)) fun k => by rw [impl_ClustersOf.j1, if_pos rfl]
      · rw [if_neg (by omega)]
        refine Ev.step (f := fun k => impl_ClustersOf.j1 k out (l.length : Int) (i : Int) (l.length : Int) (i : Int) false l) (fun k => by rw [impl_ClustersOf.l0, if_pos (by omega), if_pos (by omega), if_pos (by omega), rd_nat, if_neg hf, if_neg (by omega), ha, if_pos (by omega), if_pos (by omega), rd_nat, decide_eq_false (show ¬ l.getD ((i + l.length - 1) % l.length) 0 ≥ 0 from hq)]) ?_
        exact Ev.one (im_run l hn hn2 hr i hi out (by omega) _ l.length 0 (by omega) (free_from l hn hn2 hr hfree i hi) (next _ (by simp; omega))) fun k => by rw [impl_ClustersOf.j1, if_neg (by decide)]; rfl
end
end Go.Proofs.Ytfblohigbdomjaa.Pure
namespace Go.Proofs.Ytfblohigbdomjaa.Pure
open Go.RowKit Go.Proofs.Ytfblohigbdomjaa.G Go.Proofs.YtfblohigbdomjaaW.PrintWords Go.Proofs.YtfblohigbdomjaaW.PrintLast
set_option linter.unusedVariables false
set_option linter.unusedSimpArgs false
theorem tbl_parts {l : List Int} (h : tblB l = true) : 2 ≤ l.length ∧ l.length ≤ 12 ∧ (∀ j, j < l.length → -1 ≤ l.getD j 0 ∧ l.getD j 0 ≤ 999) ∧ (-1 : Int) ∈ l := by
  unfold tblB at h
  simp only [Bool.and_eq_true, decide_eq_true_eq] at h
  exact ⟨by omega, by omega, fun j hj => allT_get h.1.1.2 hj, h.1.2⟩
def clV (l : List Int) : List Int × Bool := if tblB l = true then (cluV l l.length 0 [], true) else ([], false)
theorem clV_len (l : List Int) : (clV l).1.length ≤ l.length := by
  unfold clV
  split
  · have := cluV_len l l.length 0 []; simpa using this
  · simp
theorem spec_Clusters_ev (l : List Int) (hn : l.length ≤ 4611686018427387904) : Ev (fun k => spec_ClustersOf.f k l) (clV l) := by
  unfold spec_ClustersOf.f clV
  refine Ev.bind (prGood_ev l hn) ?_
  cases h : tblB l with
  | false => simp only [Bool.false_eq_true, if_false]; exact Ev.now _
  | true =>
    obtain ⟨h1, h2, h3, h4⟩ := tbl_parts h
    simp only [if_true]
    exact sp_clu l h1 h2 h3 h4 l.length 0 [] (by omega) (by simp)
theorem impl_Clusters_ev (l : List Int) (hn : l.length ≤ 4611686018427387904) : Ev (fun k => impl_ClustersOf.f k l) (clV l) := by
  unfold impl_ClustersOf.f clV
  refine Ev.bind (isTable_ev l hn) ?_
  cases h : tblB l with
  | false => simp only [Bool.false_eq_true, if_false]; exact Ev.now _
  | true =>
    obtain ⟨h1, h2, h3, h4⟩ := tbl_parts h
    simp only [if_true]
    exact im_clu l h1 h2 h3 h4 l.length 0 [] (by omega) (by simp)
def fkV (l : List Int) (a : Int) : Int × Int × Bool := if tblB l = true then (if 0 ≤ a ∧ a ≤ 999 then (if a ∈ l then (ixF l a l.length 0, ((costN l.length a.toNat (ixF l a l.length 0).toNat : Nat) : Int), true) else (0, 0, false)) else (0, 0, false)) else (0, 0, false)
theorem isKey_eq (a : Int) : impl_isKey.f a = some (decide (0 ≤ a ∧ a ≤ 999)) := by unfold impl_isKey.f; rw [between_eq]; rfl
theorem tbl_len {l : List Int} (h : tblB l = true) : 2 ≤ l.length ∧ l.length ≤ 12 := by
  unfold tblB at h
  simp only [Bool.and_eq_true, decide_eq_true_eq] at h
  omega
theorem impl_FindKey_ev (l : List Int) (a : Int) (hn : l.length ≤ 4611686018427387904) : Ev (fun k => impl_FindKey.f k l a) (fkV l a) := by
  unfold impl_FindKey.f fkV
  refine Ev.bind (isTable_ev l hn) ?_
  have stop : Ev (fun k => impl_FindKey.j0 k a true l) (0, 0, false) := Ev.end_ fun k => by rw [impl_FindKey.j0, if_pos rfl]
  cases h : tblB l with
  | false => simp only [Bool.false_eq_true, if_false]; exact stop
  | true =>
    have hl := tbl_len h
    simp only [if_true, isKey_eq, Option.bind_some, decide_eq_true_eq]
    by_cases ha : 0 ≤ a ∧ a ≤ 999
    · simp only [ha, and_self, if_true]
      refine Ev.bind (containsI_ev l a hn) ?_
      rcases ixF_spec l a l.length 0 (by omega) with ⟨h1, h2⟩ | ⟨j, h1, h2, h3, h4⟩
      · rw [List.drop_zero] at h2
        rw [decide_eq_false h2, if_neg h2]
        exact stop
      · rw [List.drop_zero] at h4
        obtain ⟨key, rfl⟩ : ∃ key : Nat, a = key := ⟨a.toNat, by omega⟩
        rw [if_pos h4, h1, decide_eq_true h4, Int.toNat_natCast, Int.toNat_natCast]
        refine Ev.step (f := fun k => (slices_Index_int_int.f k l (key : Int)).bind fun t229 => ((impl_Table_cost.f l t229).bind fun t230 => (some (t229, t230, true)))) (fun k => by rw [impl_FindKey.j0, if_neg (by decide)]) ?_
        refine Ev.bind (index_ev l (key : Int) hn) ?_
        rw [h1, tcost_eq (by omega) (by omega) h2 h3]
        exact Ev.now _
    · simp only [ha, if_false]; exact stop
end Go.Proofs.Ytfblohigbdomjaa.Pure
namespace Go.Proofs.Ytfblohigbdomjaa.Pure
open Go.RowKit Go.Proofs.Ytfblohigbdomjaa.G Go.Proofs.YtfblohigbdomjaaW.PrintWords Go.Proofs.YtfblohigbdomjaaW.PrintLast Go.Proofs.YtfblohigbdomjaaW.PrintMore
set_option linter.unusedVariables false
set_option linter.unusedSimpArgs false
set_option linter.unusedSectionVars false
def uB (l : List Int) (j : Nat) : Bool := decide (0 ≤ l.getD (j % l.length) 0)
theorem runF_rn (l : List Int) (i : Nat) : ∀ (d m : Nat), runF l i d m = m + TabT.rn (uB l) d (i + m)
  | 0, m => by rw [runF, TabT.rn]; omega
  | d + 1, m => by
    rw [runF, TabT.rn]
    by_cases c : l.getD ((i + m) % l.length) 0 < 0
    · rw [if_pos c, if_neg (by rw [uB, decide_eq_true_eq]; omega)]; omega
    · rw [if_neg c, if_pos (by rw [uB]; exact decide_eq_true (by omega)), runF_rn l i d (m + 1), show i + (m + 1) = i + m + 1 by omega]; omega
theorem cluV_sum (l : List Int) : ∀ (d i : Nat) (out : List Int), i + d = l.length → (cluV l d i out).sum = out.sum + ((TabT.sm (TabT.sF (uB l) l.length) i d : Nat) : Int)
  | 0, i, out, _ => by rw [cluV, TabT.sm]; omega
  | d + 1, i, out, h => by
    have hi : i % l.length = i := Nat.mod_eq_of_lt (by omega)
    rw [cluV, TabT.sm_front]
    by_cases c : l.getD i 0 < 0 ∨ 0 ≤ l.getD ((i + l.length - 1) % l.length) 0
    · rw [if_pos c, cluV_sum l d (i + 1) out (by omega), TabT.sF, if_neg]
      · omega
      · rintro ⟨h1, h2⟩
        rw [uB, decide_eq_true_eq, hi] at h1
        rw [uB, decide_eq_false_iff_not] at h2
        omega
    · rw [if_neg c, cluV_sum l d (i + 1) _ (by omega), TabT.sF, if_pos, List.sum_append, List.sum_singleton, runF_rn, Nat.add_zero, Nat.zero_add]
      · omega
      · exact ⟨by rw [uB, hi]; exact decide_eq_true (by omega), by rw [uB, decide_eq_false_iff_not]; omega⟩
theorem clusters_many {l : List Int} (h : tblB l = true) : (cluV l l.length 0 []).sum = ((TabT.many l : Nat) : Int) := by
  obtain ⟨h1, h2, h3, h4⟩ := tblB_parts h
  obtain ⟨g, hg, hgu⟩ := (tbl_valid h).free
  rw [us_of hg, decide_eq_false_iff_not] at hgu
  rw [cluV_sum l l.length 0 [] (by omega), TabT.clusters_sum (uB l) l.length (fun i => by unfold uB; rw [Nat.add_mod_right]) g (by omega) (by rw [uB, Nat.mod_eq_of_lt hg, decide_eq_false_iff_not]; exact hgu)]
  rw [TabT.sm_ext (G := fun j => if (fun k => decide (0 ≤ k)) (l.getD j 0) = true then 1 else 0) 0 l.length (fun i hi => by
    rw [Nat.zero_add, TabT.cF, uB, Nat.mod_eq_of_lt hi]), TabT.sm_count (fun k => decide (0 ≤ k)) l _ (Nat.le_refl _), List.take_length]
  simp [TabT.many]
theorem runF_range (l : List Int) (i : Nat) : ∀ (d m : Nat), runF l i d m ≤ m + d
  | 0, m => by rw [runF]; omega
  | d + 1, m => by
    rw [runF]
    split
    · omega
    · have := runF_range l i d (m + 1); omega
theorem cluV_range (l : List Int) : ∀ (d i : Nat) (out : List Int), (∀ x ∈ out, 0 ≤ x ∧ x ≤ (l.length : Int)) → ∀ x ∈ cluV l d i out, 0 ≤ x ∧ x ≤ (l.length : Int)
  | 0, i, out, h => h
  | d + 1, i, out, h => by
    rw [cluV]
    split
    · exact cluV_range l d (i + 1) out h
    · refine cluV_range l d (i + 1) _ (fun x hx => ?_)
      rcases List.mem_append.1 hx with hx | hx
      · exact h x hx
      · rw [List.mem_singleton] at hx
        have := runF_range l i l.length 0
        omega
theorem perm_sum {a b : List Int} (h : a.Perm b) : a.sum = b.sum := by
  induction h with
  | nil => rfl
  | cons x _ ih => rw [List.sum_cons, List.sum_cons, ih]
  | swap x y l => rw [List.sum_cons, List.sum_cons, List.sum_cons, List.sum_cons]; omega
  | trans _ _ i1 i2 => rw [i1, i2]
theorem keys_idxs (l : List Int) : ∀ q, q ≤ l.length → (l.take q).filter (fun k => decide (0 ≤ k)) = (idxsTo posP l q).map (fun a => l.getD a.toNat 0)
  | 0, _ => by simp [idxsTo]
  | q + 1, hq => by
    rw [take_succ_getD (by omega), List.filter_append, keys_idxs l q (by omega), idxsTo, List.map_append]
    congr 1
    by_cases c : 0 ≤ l.getD q 0
    · rw [if_pos (by rw [posP]; exact decide_eq_true c), List.filter_cons_of_pos (by exact decide_eq_true c)]
      simp
    · rw [if_neg (by rw [posP, decide_eq_false c]; decide), List.filter_cons_of_neg (by rw [decide_eq_false c]; decide)]
      rfl
/-- What a key costs where it is found. -/
def keyC (l : List Int) (a : Int) : Int := ((costN l.length a.toNat (ixF l a l.length 0).toNat : Nat) : Int)
theorem ix_of {l : List Int} (h : tblB l = true) {i : Nat} (hi : i < l.length) (h0 : 0 ≤ l.getD i 0) : ixF l (l.getD i 0) l.length 0 = (i : Int) := by
  rcases ixF_spec l (l.getD i 0) l.length 0 (by omega) with ⟨_, h2⟩ | ⟨j, h1, h2, h3, h4⟩
  · rw [List.drop_zero] at h2
    exact absurd (getD_mem hi) h2
  · rw [h1]
    rcases Nat.lt_trichotomy i j with c | c | c
    · exact absurd h3.symm (tbl_dist h i j c h2 h0)
    · rw [c]
    · exact absurd h3 (tbl_dist h j i c hi (by rw [h3]; exact h0))
theorem keyC_sum {l ks : List Int} (h : tblB l = true) (hp : (TabT.keys l).Perm ks) : (ks.map (keyC l)).sum = ((TabT.total l : Nat) : Int) := by
  rw [← costsV_sum, ← perm_sum (hp.map (keyC l))]
  unfold TabT.keys costsV cosTo
  have e := keys_idxs l l.length (Nat.le_refl _)
  rw [List.take_length] at e
  rw [e, List.map_map]
  congr 1
  refine List.map_congr_left (fun a ha => ?_)
  obtain ⟨j, rfl, hj, hpz⟩ := (idxsTo_mem posP l a _).1 ha
  have h0 : 0 ≤ l.getD j 0 := of_decide_eq_true hpz
  simp only [Function.comp, Int.toNat_natCast, keyC, cellC]
  rw [ix_of h hj h0, Int.toNat_natCast]
theorem keyC_range {l : List Int} (hn : 2 ≤ l.length) (a : Int) : 0 ≤ keyC l a ∧ keyC l a < (l.length : Int) := by
  have := costN_lt (n := l.length) (key := a.toNat) (at_ := (ixF l a l.length 0).toNat) (by omega)
  unfold keyC
  omega
/-- A key of a table is found: its cell, and that its cost leads there. -/
theorem found {l : List Int} (h : tblB l = true) {a : Int} (ha : a ∈ TabT.keys l) : ∃ j : Nat, fkV l a = ((j : Int), keyC l a, true) ∧ j < l.length ∧ l.getD j 0 = a ∧ Int.tmod (wrap64 (a + keyC l a)) (l.length : Int) = (j : Int) := by
  obtain ⟨h1, h2, h3, h4⟩ := tblB_parts h
  unfold TabT.keys at ha
  obtain ⟨hm, h0⟩ := List.mem_filter.1 ha
  have h0 := of_decide_eq_true h0
  obtain ⟨i, hi, e⟩ := List.getElem_of_mem hm
  have ei : l.getD i 0 = a := by rw [getD_get hi]; exact e
  have hr := h3 i hi
  have hix := ix_of h hi (by rw [ei]; exact h0)
  rw [ei] at hix hr
  obtain ⟨key, rfl⟩ : ∃ key : Nat, a = key := ⟨a.toNat, by omega⟩
  refine ⟨i, ?_, hi, ei, ?_⟩
  · rw [fkV, if_pos h, if_pos (by omega), if_pos hm, hix]
    unfold keyC
    rw [hix]
  · have hk := keyC_range (l := l) h1 (key : Int)
    unfold keyC
    unfold keyC at hk
    rw [hix, Int.toNat_natCast, Int.toNat_natCast] at *
    rw [wrap_id (by omega) (by omega), show (key : Int) + ((costN l.length key i : Nat) : Int) = ((key + costN l.length key i : Nat) : Int) by omega]
    show (((key + costN l.length key i) % l.length : Nat) : Int) = (i : Int)
    rw [way_cell (by omega) (costN_lt (by omega)), costN_cost hi, TabT.own_cost hi]
end Go.Proofs.Ytfblohigbdomjaa.Pure
namespace Go.Proofs.Ytfblohigbdomjaa.Pure
open Go.RowKit Go.Proofs.Ytfblohigbdomjaa.G Go.Proofs.YtfblohigbdomjaaW.PrintWords Go.Proofs.YtfblohigbdomjaaW.PrintLast
set_option linter.unusedVariables false
set_option linter.unusedSimpArgs false
def usV (l : List Int) : List Int × Bool := if tblB l = true then (idxsTo posP l l.length, true) else ([], false)
theorem uparts {l : List Int} (h : tblB l = true) : 2 ≤ l.length ∧ l.length ≤ 12 ∧ (∀ j, j < l.length → -1 ≤ l.getD j 0 ∧ l.getD j 0 ≤ 999) := by
  unfold tblB at h
  simp only [Bool.and_eq_true, decide_eq_true_eq] at h
  exact ⟨by omega, by omega, fun j hj => allT_get h.1.1.2 hj⟩
theorem impl_Used_ev (l : List Int) (hn : l.length ≤ 4611686018427387904) : Ev (fun k => impl_UsedCells.f k l) (usV l) := by
  unfold impl_UsedCells.f usV
  refine Ev.bind (isTable_ev l hn) ?_
  cases h : tblB l with
  | false => simp only [Bool.false_eq_true, if_false]; exact Ev.now _
  | true =>
    obtain ⟨h1, h2, h3⟩ := uparts h
    simp only [if_true, show impl_Table_used.f l = some (idxsTo posP l l.length) by unfold impl_Table_used.f; rw [if_pos (by omega)], Option.bind_some]
    exact Ev.now _
def coV (l : List Int) : Int × Bool := if tblB l = true then ((costsV l).sum, true) else (0, false)
theorem spec_Cost_ev (l : List Int) (hn : l.length ≤ 4611686018427387904) : Ev (fun k => spec_CostOf.f k l) (coV l) := by
  unfold spec_CostOf.f coV
  refine Ev.bind (prGood_ev l hn) ?_
  cases h : tblB l with
  | false => simp only [Bool.false_eq_true, if_false]; exact Ev.now _
  | true =>
    obtain ⟨h1, h2, h3, h4⟩ := tblB_parts h
    simp only [if_true]
    refine Ev.bind (prCosts_ev l h1 h2 h3) ?_
    have hl := cosTo_len l l.length
    refine Ev.bind (t_paSum_ev (costsV l) (by unfold costsV; omega) (fun j => by have := costsV_get h1 j; omega)) ?_
    exact Ev.now _
theorem impl_Cost_ev (l : List Int) (hn : l.length ≤ 4611686018427387904) : Ev (fun k => impl_CostOf.f k l) (coV l) := by
  unfold impl_CostOf.f coV
  refine Ev.bind (isTable_ev l hn) ?_
  cases h : tblB l with
  | false => simp only [Bool.false_eq_true, if_false]; exact Ev.now _
  | true =>
    obtain ⟨h1, h2, h3, h4⟩ := tblB_parts h
    simp only [if_true]
    refine Ev.bind (tcosts_ev l h1 h2 h3) ?_
    have hl := cosTo_len l l.length
    refine Ev.bind (t_total_ev (costsV l) (by unfold costsV; omega) (fun j => by have := costsV_get h1 j; omega)) ?_
    exact Ev.now _
theorem foldl_max_out (a : Int) : ∀ (l : List Int) (b : Int), l.foldl max (max a b) = max a (l.foldl max b)
  | [], b => rfl
  | x :: l, b => by rw [List.foldl_cons, List.foldl_cons, ← foldl_max_out a l (max b x)]; congr 1; omega
theorem max_ends (c : List Int) : slices_Max_int_int.f (c ++ [0]) = some (c.foldl max 0) := by
  cases c with
  | nil => rfl
  | cons a r =>
    show some ((r ++ [0]).foldl max a) = some (r.foldl max (max 0 a))
    rw [List.foldl_append, foldl_max_out 0 r a]
    show some (max (r.foldl max a) 0) = some (max 0 (r.foldl max a))
    rw [Int.max_comm]
def gcV (l : List Int) : Int × Bool := if tblB l = true then ((costsV l).foldl max 0, true) else (0, false)
theorem most_eq (a b : Int) : spec_l1Most.f a b = some (max a b) := by
  unfold spec_l1Most.f
  by_cases h : a > b
  · rw [if_pos h]; congr 1; omega
  · rw [if_neg h]; congr 1; omega
theorem spec_Great_ev (l : List Int) (hn : l.length ≤ 4611686018427387904) : Ev (fun k => spec_GreatestCost.f k l) (gcV l) := by
  unfold spec_GreatestCost.f gcV
  refine Ev.bind (prGood_ev l hn) ?_
  cases h : tblB l with
  | false => simp only [Bool.false_eq_true, if_false]; exact Ev.now _
  | true =>
    obtain ⟨h1, h2, h3, h4⟩ := tblB_parts h
    simp only [if_true]
    refine Ev.bind (prCosts_ev l h1 h2 h3) ?_
    have hl := cosTo_len l l.length
    obtain ⟨c, hc⟩ : ∃ c, c = costsV l := ⟨_, rfl⟩
    have hcl : c.length ≤ 12 := by rw [hc]; unfold costsV; omega
    rw [← hc]
    have := Ev.up0 c.length (fun q => (c.take q).foldl max 0) (fun k s q => spec_GreatestCost.l0 k s c (c.length : Int) q) (c.foldl max 0, true) (fun q hq h => Ev.one h fun k => ?_) (Ev.end_ fun k => ?_)
    · simpa using this
    · rw [spec_GreatestCost.l0, if_pos (by omega), if_pos (by omega), if_pos (by omega), rd_nat, most_eq, Option.bind_some, wrap_next (n := c.length) hq (by omega), take_succ_getD hq, List.foldl_append]
      rfl
    · rw [spec_GreatestCost.l0, if_neg (by omega), List.take_length]
theorem impl_Great_ev (l : List Int) (hn : l.length ≤ 4611686018427387904) : Ev (fun k => impl_GreatestCost.f k l) (gcV l) := by
  unfold impl_GreatestCost.f gcV
  refine Ev.bind (isTable_ev l hn) ?_
  cases h : tblB l with
  | false => simp only [Bool.false_eq_true, if_false]; exact Ev.now _
  | true =>
    obtain ⟨h1, h2, h3, h4⟩ := tblB_parts h
    simp only [if_true]
    refine Ev.bind (tcosts_ev l h1 h2 h3) ?_
    have hl := cosTo_len l l.length
    rw [if_pos (by unfold costsV; omega), max_ends]
    exact Ev.now _
def tbV (a : Int) (l : List Int) : List Int × Bool := if keysB l a = true then (TabT.insAll (TabT.empty a.toNat) l, true) else ([], false)
theorem tbV_len (a : Int) (l : List Int) : (tbV a l).1.length ≤ 12 := by
  unfold tbV
  split
  · rename_i h
    obtain ⟨h1, h2, h3, h4, h5⟩ := keysB_parts h
    rw [TabT.length_insAll]; simp [TabT.empty]; omega
  · simp
theorem spec_TableOf_ev (a : Int) (l : List Int) (hn : l.length ≤ 1048576) : Ev (fun k => spec_TableOf.f k a l) (tbV a l) := by
  unfold spec_TableOf.f tbV
  refine Ev.bind (prKeys_ev l a hn) ?_
  cases h : keysB l a with
  | false => simp only [Bool.false_eq_true, if_false]; exact Ev.now _
  | true =>
    obtain ⟨h1, h2, h3, h4, h5⟩ := keysB_parts h
    obtain ⟨n, rfl⟩ : ∃ n : Nat, a = n := ⟨a.toNat, by omega⟩
    simp only [if_true, Int.toNat_natCast]
    refine Ev.bind (prOf_ev n l (by omega) (by omega) (by omega) h4) ?_
    exact Ev.now _
theorem impl_TableOf_ev (a : Int) (l : List Int) (hn : l.length ≤ 1048576) : Ev (fun k => impl_TableOf.f k a l) (tbV a l) := by
  unfold impl_TableOf.f tbV
  simp only [areKeys_f l a hn, Option.bind_some]
  cases h : keysB l a with
  | false => simp only [Bool.false_eq_true, if_false]; exact Ev.now _
  | true =>
    obtain ⟨h1, h2, h3, h4, h5⟩ := keysB_parts h
    obtain ⟨n, rfl⟩ : ∃ n : Nat, a = n := ⟨a.toNat, by omega⟩
    simp only [if_true, Int.toNat_natCast, t_empty_eq n (by omega), Option.bind_some]
    exact tableOf_ev n l (by omega) (by omega) (by omega) h4
def kyV (l : List Int) : List Int × Bool := if tblB l = true then (keysZ l, true) else ([], false)
theorem impl_Keys_ev (l : List Int) (hn : l.length ≤ 4611686018427387904) : Ev (fun k => impl_KeysOf.f k l) (kyV l) := by
  unfold impl_KeysOf.f kyV
  refine Ev.bind (isTable_ev l hn) ?_
  cases h : tblB l with
  | false => simp only [Bool.false_eq_true, if_false]; exact Ev.now _
  | true =>
    simp only [if_true, keys_f h, Option.bind_some]
    exact Ev.now _
theorem t_jSum_ev (l : List Int) (hl : l.length ≤ 1000) (hb : ∀ j, -1000 ≤ l.getD j 0 ∧ l.getD j 0 ≤ 1000) : Ev (fun k => laws_jSum.f k l) l.sum := by
  unfold laws_jSum.f
  have hs := t_take_range (B := 1000) (by omega) hb
  have := Ev.up0 l.length (fun q => (l.take q).sum) (fun k s q => laws_jSum.l0 k s l (l.length : Int) q) l.sum (fun q hq h => Ev.one h fun k => ?_) (Ev.end_ fun k => ?_)
  · simpa using this
  · have := hs q (by omega)
    have := hb q
    rw [laws_jSum.l0, if_pos (by omega), if_pos (by omega), if_pos (by omega), rd_nat, wrap_id (x := (l.take q).sum + l.getD q 0) (by omega) (by omega), wrap_next (n := l.length) hq (by omega), t_take_sum hq]
  · rw [laws_jSum.l0, if_neg (by omega), List.take_length]
theorem fill_j4 {l : List Int} (hb : Bytes l) : Ev (fun k => laws_FnTablesFill.j4 k l) true := by
  obtain ⟨t, ht, hl⟩ := DrawIsTable_ok hb
  have hc := clV_len t
  refine Ev.step (fun k => by rw [laws_FnTablesFill.j4]) ?_
  refine Ev.bind ht ?_
  refine Ev.bind (impl_IsTable_ev t (by omega)) ?_
  refine Ev.bind (impl_Cost_ev t (by omega)) ?_
  refine Ev.bind (spec_Cost_ev t (by omega)) ?_
  refine Ev.bind (impl_Clusters_ev t (by omega)) ?_
  refine Ev.bind (spec_Clusters_ev t (by omega)) ?_
  refine Ev.bind (impl_Great_ev t (by omega)) ?_
  refine Ev.bind (spec_Great_ev t (by omega)) ?_
  refine Ev.bind (spec_IsTable_ev t (by omega)) ?_
  have e : ((coV t).2 == tblB t) = true := by
    unfold coV
    cases tblB t <;> rfl
  simp only [beq_self_eq_true, if_true, e]
  refine Ev.bind (t_jSame_ev _ _ (by omega)) ?_
  simp only [decide_true, if_true]
  exact Ev.now _
end Go.Proofs.Ytfblohigbdomjaa.Pure
namespace Go.Proofs.Ytfblohigbdomjaa.Pure
open Go.RowKit Go.Proofs.Ytfblohigbdomjaa.G Go.Proofs.YtfblohigbdomjaaW.PrintWords Go.Proofs.YtfblohigbdomjaaW.PrintLast
set_option linter.unusedVariables false
set_option linter.unusedSimpArgs false
section
variable {l1 : List Int} (hb : Bytes l1) {n : Nat} {ks P : List Int} (h2 : 2 ≤ n) (h12 : n ≤ 12) (hl : ks.length < n) (hP : tblB P = true) (hPl : P.length = n) (hk : (TabT.keys P).Perm ks)
include hb h2 h12 hl hP hPl hk
theorem fill_l0 : ∀ (d i : Nat), i + d = ks.length → Ev (fun k => laws_FnTablesFill.l0 k l1 (n : Int) ks ((TabT.total P : Nat) : Int) (((ks.take i).map (keyC P)).sum) ks (ks.length : Int) (i : Int) P) true := by
  have hG : ∀ i, i ≤ ks.length → 0 ≤ ((ks.take i).map (keyC P)).sum ∧ ((ks.take i).map (keyC P)).sum ≤ 12 * (i : Int) := by
    intro i
    induction i with
    | zero => intro _; simp
    | succ i ih =>
      intro hi
      have := ih (by omega)
      have := keyC_range (l := P) (by omega) (ks.getD i 0)
      rw [take_succ_getD (by omega), List.map_append, List.sum_append, List.map_singleton, List.sum_singleton]
      omega
  intro d
  induction d with
  | zero =>
    intro i hd
    have hm : TabT.many P = ks.length := by rw [TabT.many_keys, hk.length_eq]
    refine Ev.step (f := fun k => (impl_ClustersOf.f k P).bind fun bt867 => ((impl_KeysOf.f k P).bind fun bt871 => (if bt867.2 = true then (if bt871.2 = true then (if ((ks.take i).map (keyC P)).sum = ((TabT.total P : Nat) : Int) then ((laws_jSum.f k bt867.1).bind fun t875 => (if t875 = (ks.length : Int) then (if (bt871.1.length : Int) = (ks.length : Int) then (laws_FnTablesFill.j4 k l1) else (some false)) else (some false))) else (some false)) else (some false)) else (some false)))) (fun k => by
      rw [laws_FnTablesFill.l0, if_neg (by omega)]) ?_
    refine Ev.bind (impl_Clusters_ev P (by omega)) ?_
    refine Ev.bind (impl_Keys_ev P (by omega)) ?_
    have e1 : clV P = (cluV P P.length 0 [], true) := by rw [clV, if_pos hP]
    have e2 : kyV P = (keysZ P, true) := by rw [kyV, if_pos hP]
    have e3 : ((ks.take i).map (keyC P)).sum = ((TabT.total P : Nat) : Int) := by
      rw [show i = ks.length by omega, List.take_length]
      exact keyC_sum hP hk
    have e4 : ((keysZ P).length : Int) = (ks.length : Int) := by rw [(keysZ_keys P).length_eq, hk.length_eq]
    have e5 : (cluV P P.length 0 []).sum = (ks.length : Int) := by rw [clusters_many hP, hm]
    have hcl := cluV_len P P.length 0 []
    simp only [e1, e2, e3, e4, if_true]
    refine Ev.bind (t_jSum_ev _ (by simp at hcl; omega) (fun j => ?_)) ?_
    · rw [List.getD_eq_getElem?_getD]
      cases hx : (cluV P P.length 0 [])[j]? with
      | none => simp
      | some x =>
        have := cluV_range P P.length 0 [] (fun x hx => by cases hx) x (List.mem_of_getElem? hx)
        simp only [Option.getD_some]
        omega
    · simp only [e5, if_true]
      exact fill_j4 hb
  | succ d ih =>
    intro i hd
    have hi : i < ks.length := by omega
    have hmem : ks.getD i 0 ∈ TabT.keys P := hk.mem_iff.2 (getD_mem hi)
    obtain ⟨j, f1, f2, f3, f4⟩ := found hP hmem
    have hg := hG i (by omega)
    have hr := keyC_range (l := P) (by omega) (ks.getD i 0)
    have ih1 := ih (i + 1) (by omega)
    rw [take_succ_getD hi, List.map_append, List.sum_append, List.map_singleton, List.sum_singleton] at ih1
    have gf := impl_FindKey_ev P (ks.getD i 0) (by omega)
    rw [f1] at gf
    refine Ev.step (f := fun k => (impl_FindKey.f k P (ks.getD i 0)).bind fun bt863 => (if bt863.2.2 = true then (if 0 ≤ bt863.1 then (if bt863.1 < (P.length : Int) then (if (rd P bt863.1) = (ks.getD i 0) then (if (n : Int) = 0 then (none) else (if (Int.tmod (wrap64 ((ks.getD i 0) + bt863.2.1)) (n : Int)) = bt863.1 then (laws_FnTablesFill.l0 k l1 (n : Int) ks ((TabT.total P : Nat) : Int) (wrap64 (((ks.take i).map (keyC P)).sum + bt863.2.1)) ks (ks.length : Int) ((i + 1 : Nat) : Int) P) else (some false))) else (some false)) else (none)) else (none)) else (some false))) (fun k => by
      rw [laws_FnTablesFill.l0, if_pos (by omega), if_pos (by omega), if_pos (by omega), rd_nat, wrap_next (n := ks.length) hi (by omega)]) ?_
    refine Ev.bind gf ?_
    rw [← hPl]
    rw [← hPl] at ih1
    simp only [if_true, rd_nat, f3, f4, show (0 : Int) ≤ (j : Int) by omega, show ((j : Int) < (P.length : Int)) by omega, show ¬ ((P.length : Int) = 0) by omega, if_false, wrap_id (x := ((ks.take i).map (keyC P)).sum + keyC P (ks.getD i 0)) (by omega) (by omega)]
    exact ih1
theorem fill_j2 : Ev (fun k => laws_FnTablesFill.j2 k l1 (n : Int) ks ((TabT.total P : Nat) : Int) false P) true := by
  have := fill_l0 hb h2 h12 hl hP hPl hk ks.length 0 (by omega)
  refine Ev.one this fun k => ?_
  rw [laws_FnTablesFill.j2, if_neg (by decide)]
  simp
end
end Go.Proofs.Ytfblohigbdomjaa.Pure
namespace Go.Proofs.Ytfblohigbdomjaa.Pure
open Go.RowKit Go.Proofs.Ytfblohigbdomjaa.G Go.Proofs.YtfblohigbdomjaaW.PrintWords Go.Proofs.YtfblohigbdomjaaW.PrintLast
set_option linter.unusedVariables false
set_option linter.unusedSimpArgs false
theorem fill_j1 {l1 : List Int} (hb : Bytes l1) (n : Nat) (ks s : List Int) (h2 : 2 ≤ n) (h12 : n ≤ 12) (hl : ks.length < n) (hk : ∀ x ∈ ks, 0 ≤ x ∧ x ≤ 999) (hd : ks.Nodup) (hv : keysB ks (n : Int) = true) (hp : ks.Perm s) :
    Ev (fun k => laws_FnTablesFill.j1 k l1 (n : Int) ks (idxsTo posP (TabT.insAll (TabT.empty n) ks) (TabT.insAll (TabT.empty n) ks).length) true ((TabT.total (TabT.insAll (TabT.empty n) ks) : Nat) : Int) true s (TabT.insAll (TabT.empty n) ks)) true := by
  have V := plain_valid h2 h12 hl hk hd
  have bP := plain_tbl h2 h12 hl hk hd
  have al := plain_perm h2 h12 hl hk hd hp
  have hsl : s.length < n := by rw [← hp.length_eq]; exact hl
  have hks : ∀ x ∈ s, 0 ≤ x ∧ x ≤ 999 := fun x hx => hk x (hp.mem_iff.2 hx)
  have hds : s.Nodup := hp.nodup_iff.1 hd
  have bQ := plain_tbl h2 h12 hsl hks hds
  have W := plain_valid h2 h12 hsl hks hds
  have e1 : tbV (n : Int) s = (TabT.insAll (TabT.empty n) s, true) := by rw [tbV, keysB_perm hp, if_pos hv, Int.toNat_natCast]
  have e2 : usV (TabT.insAll (TabT.empty n) s) = (idxsTo posP (TabT.insAll (TabT.empty n) ks) (TabT.insAll (TabT.empty n) ks).length, true) := by rw [usV, if_pos bQ, used_alike al.1]
  have e4 : coV (TabT.insAll (TabT.empty n) s) = (((TabT.total (TabT.insAll (TabT.empty n) ks) : Nat) : Int), true) := by rw [coV, if_pos bQ, costsV_sum, al.2]
  have hmany : (idxsTo posP (TabT.insAll (TabT.empty n) ks) (TabT.insAll (TabT.empty n) ks).length).length = ks.length := by rw [used_many, TabT.many_keys, V.2.1.length_eq]
  obtain ⟨P, hP⟩ : ∃ P, P = TabT.insAll (TabT.empty n) ks := ⟨_, rfl⟩
  obtain ⟨Q, hQ⟩ : ∃ Q, Q = TabT.insAll (TabT.empty n) s := ⟨_, rfl⟩
  rw [← hP] at e2 e4 bP V hmany
  rw [← hQ] at e1 e2 e4 bQ W
  rw [← hP]
  have g1 := impl_TableOf_ev (n : Int) s (by omega)
  have g2 := impl_Used_ev Q (by have := W.2.2; omega)
  have g3 := impl_Cost_ev Q (by have := W.2.2; omega)
  have g4 := impl_IsTable_ev P (by have := V.2.2; omega)
  rw [e1] at g1
  rw [e2] at g2
  rw [e4] at g3
  rw [bP] at g4
  refine Ev.step (fun k => by rw [laws_FnTablesFill.j1]) ?_
  refine Ev.bind g1 ?_
  refine Ev.bind g2 ?_
  refine Ev.bind g3 ?_
  simp only [if_true]
  refine Ev.bind (t_jSame_ev _ _ (by omega)) ?_
  simp only [decide_true, if_true]
  refine Ev.bind g4 ?_
  simp only [if_true, hmany, bne_self_eq_false]
  exact fill_j2 hb h2 h12 hl bP V.2.2 V.2.1
theorem FnTablesFill : laws_FnTablesFill.Pure := by
  intro l0 l1 h1 h2 h3 h4 h5 h6
  refine Ev.rounds ?_
  have hb0 := bytes_of h3
  have hb1 := bytes_of h6
  unfold laws_FnTablesFill.f
  obtain ⟨b, hbig⟩ := big_eq l0 l1
  simp only [hbig, Option.bind_some]
  cases b with
  | true => simp only [if_true]; exact Ev.now _
  | false =>
    simp only [Bool.false_eq_true, if_false]
    obtain ⟨a, ks, hd, hk⟩ := DrawTableOf_ok hb0
    refine Ev.bind hd ?_
    refine Ev.bind (impl_TableOf_ev a ks (by omega)) ?_
    refine Ev.bind (spec_TableOf_ev a ks (by omega)) ?_
    simp only [bne_self_eq_false, Bool.false_eq_true, if_false]
    have hrl := tbV_len a ks
    refine Ev.bind (t_jTable_ev _ _ (by omega)) ?_
    simp only [decide_true, Bool.not_true]
    cases hv : keysB ks a with
    | false =>
      rw [tbV, if_neg (by rw [hv]; decide)]
      exact Ev.one (fill_j4 hb1) fun k => by rw [laws_FnTablesFill.j0, if_neg (by decide), if_neg (by decide)]
    | true =>
      obtain ⟨p1, p2, p3, p4, p5⟩ := keysB_parts hv
      obtain ⟨n, rfl⟩ : ∃ n : Nat, a = n := ⟨a.toNat, by omega⟩
      have bP := plain_tbl (n := n) (ks := ks) (by omega) (by omega) (by omega) p4 p5
      have V := plain_valid (n := n) (ks := ks) (by omega) (by omega) (by omega) p4 p5
      rw [tbV, if_pos hv, Int.toNat_natCast]
      have g2 := impl_Used_ev (TabT.insAll (TabT.empty n) ks) (by have := V.2.2; omega)
      have g3 := impl_Cost_ev (TabT.insAll (TabT.empty n) ks) (by have := V.2.2; omega)
      rw [usV, if_pos bP] at g2
      rw [coV, if_pos bP, costsV_sum] at g3
      refine Ev.step (fun k => by rw [laws_FnTablesFill.j0, if_neg (by decide), if_pos rfl]) ?_
      refine Ev.bind g2 ?_
      refine Ev.bind g3 ?_
      by_cases c : (ks.length : Int) > 1
      · simp only [c, if_true]
        obtain ⟨v, hv1, hv0⟩ := t_numberOf_ok hb1 (by omega)
        refine Ev.bind hv1 ?_
        have hw : wrap64 ((ks.length : Int) - 1) = (ks.length : Int) - 1 := wrap_id (by omega) (by omega)
        simp only [hw, show ¬ ((ks.length : Int) - 1 = 0) by omega, if_false]
        have ht := tmod_ok (v := v) (a := (ks.length : Int) - 1) hv0 (by omega)
        obtain ⟨s, hs, hperm⟩ := t_jSwapped_ok ks (Int.tmod v ((ks.length : Int) - 1)) ht.1 (by omega) (by omega)
        simp only [hs, Option.bind_some]
        exact fill_j1 hb1 n ks s (by omega) (by omega) (by omega) p4 p5 hv hperm
      · simp only [c, if_false]
        exact fill_j1 hb1 n ks ks (by omega) (by omega) (by omega) p4 p5 hv (List.Perm.refl _)
end Go.Proofs.Ytfblohigbdomjaa.Pure
namespace Go.Proofs.YtfblohigbdomjaaW.PrintWords
open Go.ChangeShapes Go.WideShapes
theorem sized_ints {H : Type} {enc : TypeId × Value → H} {P : Program} {W : World} {base : Nat} {spare : Nat → Bool} {held : Bool} {t e : TypeId} {k : IntKind} {a : Option Addr} {len cap : Nat} {d : DataW H} {ps : List MemPlace} {ts : List TypeId} {ds : List (DataW H)} {j : Nat}
    (hsz : (DataW.weightsEach P ts ds).all (· ≤ reachBytes) = true) (ht : ts[j]? = some t) (hd : ds[j]? = some d) (hu : P.underlying t = some (.slice e)) (he : P.underlying e = some (.int k)) (hc : P.cellsOf e = 1) {B : Nat} (hB : P.bytesOf e = B)
    (h : DataW.Trod enc P W base spare held t (.slice a len cap) d ps) : len * B ≤ 140737488351232 := by
  obtain ⟨fuel, hf⟩ := h
  rcases open_ints hu he hc hf with ⟨hcs, _⟩ | ⟨x, l, c, zs, hcs, _, hl, _, hz, hx, _, _⟩
  · simp [Value.cells] at hcs
    obtain ⟨rfl, rfl, rfl⟩ := hcs
    simp
  · simp [Value.cells] at hcs
    obtain ⟨rfl, rfl, rfl⟩ := hcs
    obtain ⟨hx, _⟩ := Prod.mk.inj hx
    subst hx
    have z := sized_slice hsz ht hd hu
    rw [hB] at z
    have hl2 : len ≤ zs.length := by
      rw [hz]
      split
      · exact hl
      · exact Nat.le_refl _
    have h1 : (lits (H := H) k (zs.take len)).length + (lits (H := H) k (zs.drop len)).length = zs.length := by
      simp [lits]
      omega
    rw [h1] at z
    exact Nat.le_trans (Nat.mul_le_mul_right _ hl2) z
end Go.Proofs.YtfblohigbdomjaaW.PrintWords
namespace Go.Proofs.Ytfblohigbdomjaa.fnTablesFill
open Go.ChangeShapes Go.WideShapes Go.ChangeAt Go.RowKit
open Go.ChangeMaps (open_string shut_string)
set_option linter.unusedVariables false
theorem own : ownKnob Try.prog.godebug = none := by kernel_rfl
theorem laidOut : laidOutB Try.prog = true := by kernel_rfl
def IsRow (k : IntKind) (w : World) (a : Option Addr) (len cap : Nat) (zs : List Int) : Prop :=
  (a = none ∧ len = 0 ∧ cap = 0 ∧ zs = []) ∨
  ∃ x, a = some x ∧ len ≤ cap ∧ cap ≤ maxLen ∧ zs.length = cap ∧ (∀ i, i < zs.length → w.cell? (x.add i) = some (.int k (zs.getD i 0))) ∧ ∀ n ∈ zs, (Lit.int k n).wf = true
set_option maxRecDepth 100000 in
theorem lifted (os : Os) (started : os.Started) (H : Type) (enc : TypeId × Value → H) :
    ReturnsInHanded {} Try.checked os 9 .any (Rows.fnTablesFillSpec.pre6 enc Try.prog Try.f9 Rows.fnTablesFillRow.domain false) (Rows.fnTablesFillSpec.post enc Try.prog Try.f9 false true false false) := by
  refine returnsInHanded_of_change_sized (C := Try.checked) own started (by kernel_rfl) Try.func9
    (ChangeSpec.witness6 (enc := enc) (C := Try.checked) false ⟨#[], #[.slice none 0 0, .slice none 0 0], []⟩ 8 (by kernel_rfl) (by kernel_rfl) (by kernel_rfl) (by kernel_rfl)) ?_
  intro W base args ds gs before hval0 hW hcnd hsz0 _
  have hsz : (DataW.weightsEach Try.prog (Try.f9.params.toList ++ Rows.fnTablesFillSpec.plain.varTypes Try.prog) (ds ++ gs)).all (· ≤ reachBytes) = true := hsz0
  have hval : ∀ (j : Nat) t v, Try.f9.params[j]? = some t → args[j]? = some v → Value.okWide Try.prog W .any base t v := hval0
  have hW' := hW
  obtain ⟨p, q, hA0, hV, rfl, hfz, hnd⟩ := hW
  have hA : DataW.TrodAll enc Try.prog W 0 (fun _ => true) true Try.f9.params.toList args.toList ds p := hA0
  rw [Try.params9] at hA hval hsz
  obtain ⟨v0, vs0, d0, ds0, p0, q0, hargs, rfl, rfl, h0, r0⟩ := trodAll_cons hA
  obtain ⟨v1, vs1, d1, ds1, p1, q1, rfl, rfl, rfl, h1, r1⟩ := trodAll_cons r0
  obtain ⟨rfl, rfl, rfl⟩ := trodAll_nil r1
  obtain rfl : args = #[v0, v1] := by cases args; simp_all
  obtain ⟨rfl, rfl⟩ := trodVars_none hV
  obtain ⟨a0, len0, cap0, rfl⟩ := okWide_slice Try.underlying43 (hval 0 43 v0 rfl rfl)
  have k0 := h0
  have lt0 : ∀ x ∈ p0, x.block < W.heap.size := by obtain ⟨m, hm⟩ := k0; exact DataW.trod_lt m _ _ _ hm
  obtain ⟨z0, w0⟩ : ∃ zs, IsRow .u8 W a0 len0 cap0 zs := by
    obtain ⟨fuel, hf⟩ := h0
    rcases open_ints Try.underlying43 Try.underlying5 (by kernel_rfl) hf with ⟨hcs, _⟩ | ⟨x, l, c, zs, hcs, _, hl, hm, hz, _, hcell, hwz⟩
    · simp [Value.cells] at hcs
      obtain ⟨rfl, rfl, rfl⟩ := hcs
      exact ⟨[], .inl ⟨rfl, rfl, rfl, rfl⟩⟩
    · simp [Value.cells] at hcs
      obtain ⟨rfl, rfl, rfl⟩ := hcs
      exact ⟨zs, .inr ⟨_, rfl, hl, hm, by simpa using hz, hcell, hwz⟩⟩
  have y0 : len0 * 1 ≤ 140737488351232 := Go.Proofs.YtfblohigbdomjaaW.PrintWords.sized_ints hsz (j := 0) (t := 43) rfl rfl Try.underlying43 Try.underlying5 (by kernel_rfl) (by kernel_rfl) h0
  obtain ⟨a1, len1, cap1, rfl⟩ := okWide_slice Try.underlying43 (hval 1 43 v1 rfl rfl)
  have k1 := h1
  have lt1 : ∀ x ∈ p1, x.block < W.heap.size := by obtain ⟨m, hm⟩ := k1; exact DataW.trod_lt m _ _ _ hm
  obtain ⟨z1, w1⟩ : ∃ zs, IsRow .u8 W a1 len1 cap1 zs := by
    obtain ⟨fuel, hf⟩ := h1
    rcases open_ints Try.underlying43 Try.underlying5 (by kernel_rfl) hf with ⟨hcs, _⟩ | ⟨x, l, c, zs, hcs, _, hl, hm, hz, _, hcell, hwz⟩
    · simp [Value.cells] at hcs
      obtain ⟨rfl, rfl, rfl⟩ := hcs
      exact ⟨[], .inl ⟨rfl, rfl, rfl, rfl⟩⟩
    · simp [Value.cells] at hcs
      obtain ⟨rfl, rfl, rfl⟩ := hcs
      exact ⟨zs, .inr ⟨_, rfl, hl, hm, by simpa using hz, hcell, hwz⟩⟩
  have y1 : len1 * 1 ≤ 140737488351232 := Go.Proofs.YtfblohigbdomjaaW.PrintWords.sized_ints hsz (j := 1) (t := 43) rfl rfl Try.underlying43 Try.underlying5 (by kernel_rfl) (by kernel_rfl) h1
  clear hA0 hval0 hsz0 hsz
  refine (G.laws_FnTablesFill.walk Pure.FnTablesFill a0 len0 cap0 z0 a1 len1 cap1 z1 W w0 y0 w1 y1).mono fun e W' ⟨he, bel⟩ => ?_
  subst he
  exact ⟨_, rfl, _, _, _, [], _, [], hW', trodAll_mk1 (shut_bool Try.underlying4 _), (trodAll_cons_mk (Below.trod laidOut (by kernel_rfl) (of_decide_eq_true (by kernel_rfl)) k0 bel lt0) (trodAll_cons_mk (Below.trod laidOut (by kernel_rfl) (of_decide_eq_true (by kernel_rfl)) k1 bel lt1) trodAll_mk0)), rfl, bel.frame _, fun h => by cases h⟩
theorem over : Rows.fnTablesFillRow.holds Try.pinned (OpenSpec.ofChange Rows.fnTablesFillSpec) :=
  OpenClaim.holds_of_wide 9 Try.f9 rfl rfl rfl rfl rfl rfl rfl ⟨rfl, rfl, rfl, rfl, rfl⟩ rfl rfl rfl rfl rfl (by kernel_rfl) Try.func9 (by kernel_rfl)
    (of_decide_eq_true (by kernel_rfl)) (by unfold Func.isWrapper; first | (rw [if_pos (by decide +kernel)]; kernel_rfl) | (rw [if_neg (by decide +kernel)]; exact ⟨rfl, rfl⟩))
    (fun os started H enc _ => lifted os started H enc)
theorem proved : Rows.FnTablesFillSaid := over
#print axioms proved
end Go.Proofs.Ytfblohigbdomjaa.fnTablesFill
namespace Go.Proofs.Ytfblohigbdomjaa
/-- The row, under a short name, for the claim. -/
theorem fnTablesFill_holds : Rows.FnTablesFillSaid := fnTablesFill.proved
end Go.Proofs.Ytfblohigbdomjaa
