/- The law FnExactRemoveKey: part 4 of the printed functions and the facts on them that its row leans on (merged by this session's slim.py). -/
import Derived.Test.YtlphlmbkfgdmgaaZFnExactRemoveKey3
namespace TabT
theorem cost_lt {n i : Nat} (hi : i < n) (k : Int) : cost n i k < n := cy_lt (by have := own_lt (n := n) (by omega) k; omega)
theorem own_cost {n i : Nat} (hi : i < n) (k : Int) : cy n (own n k + cost n i k) = i := by
  have := own_lt (n := n) (by omega) k
  unfold cost cy; split <;> split <;> omega
theorem cost_own {n d : Nat} (hd : d < n) (k : Int) : cost n (cy n (own n k + d)) k = d := by
  have := own_lt (n := n) (by omega) k
  unfold cost cy; split <;> split <;> omega
theorem pos_lt {t : List Int} (hF : Free t) (k : Int) : pos t k < t.length := by
  have hn : 0 < t.length := by obtain ⟨i, hi, _⟩ := hF; omega
  have ho := own_lt hn k
  have := (ff_spec hF ho).1
  exact cy_lt (by omega)
theorem pos_free {t : List Int} (hF : Free t) (k : Int) : us t (pos t k) = false := by
  have hn : 0 < t.length := by obtain ⟨i, hi, _⟩ := hF; omega
  exact (ff_spec hF (own_lt hn k)).2.1
/-- The sum of all costs. -/
def costs (t : List Int) : List Nat := t.mapIdx fun i k => if 0 ≤ k then cost t.length i k else 0
/-- Alike in their used cells. -/
def Alike (t u : List Int) : Prop := t.length = u.length ∧ ∀ i, us t i = us u i
theorem Alike.refl (t : List Int) : Alike t t := ⟨rfl, fun _ => rfl⟩
theorem Alike.symm {t u : List Int} (h : Alike t u) : Alike u t := ⟨h.1.symm, fun i => (h.2 i).symm⟩
theorem Alike.trans {t u v : List Int} (h : Alike t u) (k : Alike u v) : Alike t v := ⟨h.1.trans k.1, fun i => (h.2 i).trans (k.2 i)⟩
theorem Alike.free {t u : List Int} (h : Alike t u) (hF : Free t) : Free u := by
  obtain ⟨i, hi, hu⟩ := hF
  exact ⟨i, by have := h.1; omega, by rw [← h.2]; exact hu⟩
/-- How many cells are used. -/
def many (t : List Int) : Nat := (t.filter fun k => decide (0 ≤ k)).length
theorem free_of_many : ∀ (t : List Int), many t < t.length → Free t
  | [], h => by simp [many] at h
  | k :: t, h => by
    by_cases hk : 0 ≤ k
    · have : many t < t.length := by simp only [many, List.filter_cons, hk, decide_true, if_true, List.length_cons] at h ⊢; omega
      obtain ⟨i, hi, hu⟩ := free_of_many t this
      exact ⟨i + 1, by simp; omega, by simpa [us] using hu⟩
    · exact ⟨0, by simp, by simp [us]; omega⟩
theorem many_set : ∀ (t : List Int) (p : Nat) (k : Int), us t p = false → p < t.length → 0 ≤ k → many (t.set p k) = many t + 1
  | [], p, k, _, h, _ => by simp at h
  | x :: t, 0, k, hu, _, hk => by have : ¬ 0 ≤ x := by simpa [us] using hu
                                  simp [many, this, hk]
  | x :: t, p + 1, k, hu, hp, hk => by
    have := many_set t p k (by simpa [us] using hu) (by simpa using hp) hk
    simp only [many, List.set_cons_succ, List.filter_cons] at this ⊢
    split
    · simp only [List.length_cons]; omega
    · omega
theorem many_ins {t : List Int} (hF : Free t) {k : Int} (hk : 0 ≤ k) : many (ins t k) = many t + 1 := many_set _ _ _ (pos_free hF k) (pos_lt hF k) hk
/-- All keys, in order. -/
def insAll (t : List Int) (ks : List Int) : List Int := ks.foldl ins t
@[simp] theorem length_insAll (ks : List Int) : ∀ (t : List Int), (insAll t ks).length = t.length := by
  induction ks with
  | nil => intro t; rfl
  | cons k ks ih => intro t; simp only [insAll, List.foldl_cons] at ih ⊢; rw [ih]; simp
structure Valid (t : List Int) : Prop where
  free : Free t
  ge : ∀ i, i < t.length → -1 ≤ t.getD i (-1)
  nodup : ∀ i j, us t i = true → us t j = true → t.getD i (-1) = t.getD j (-1) → i = j
  path : ∀ i, us t i = true → ∀ m, m < cost t.length i (t.getD i (-1)) → us t (cy t.length (own t.length (t.getD i (-1)) + m)) = true
/-- A part of a table. -/
def Part (p t : List Int) : Prop := p.length = t.length ∧ ∀ i, us p i = true → us t i = true ∧ p.getD i (-1) = t.getD i (-1)
/-- The key of a cell may come next. -/
def Ready (t p : List Int) (i : Nat) : Prop := us t i = true ∧ us p i = false ∧ ∀ m, m < cost t.length i (t.getD i (-1)) → us p (cy t.length (own t.length (t.getD i (-1)) + m)) = true
theorem exists_ready {t p : List Int} (hV : Valid t) (hne : ∃ i, us t i = true ∧ us p i = false) : ∃ i, Ready t p i := by
  obtain ⟨g, hg, hgu⟩ := hV.free
  obtain ⟨i0, h1, h2⟩ := hne
  have hi0 := us_lt h1
  have hx : 1 ≤ cy t.length (i0 + t.length - g) ∧ us t (cy t.length (g + cy t.length (i0 + t.length - g))) = true ∧ us p (cy t.length (g + cy t.length (i0 + t.length - g))) = false := by
    have e : cy t.length (g + cy t.length (i0 + t.length - g)) = i0 := by unfold cy; split <;> split <;> omega
    rw [e]
    refine ⟨?_, h1, h2⟩
    have : i0 ≠ g := fun e => by rw [e, hgu] at h1; cases h1
    unfold cy; split <;> omega
  obtain ⟨e, he, ⟨he1, hp1, hp2⟩, hle⟩ := least_nat (p := fun e => 1 ≤ e ∧ us t (cy t.length (g + e)) = true ∧ us p (cy t.length (g + e)) = false) _ hx
  have hen : e < t.length := by have : cy t.length (i0 + t.length - g) < t.length := cy_lt (by omega); omega
  refine ⟨_, hp1, hp2, fun m hm => ?_⟩
  have hi := us_lt hp1
  generalize hk : t.getD (cy t.length (g + e)) (-1) = k at hm ⊢
  have hpath := hV.path _ hp1
  rw [hk] at hpath
  have ho := own_lt (n := t.length) (by omega) k
  have hc := cost_lt hi k
  have hoc := own_cost hi k
  generalize hcc : cost t.length (cy t.length (g + e)) k = c at *
  generalize own t.length k = o at *
  have hce : c < e := by
    rcases Nat.lt_or_ge c e with h | h
    · exact h
    · have := hpath (c - e) (by omega)
      have e1 : cy t.length (o + (c - e)) = g := by revert hoc; unfold cy; split <;> split <;> split <;> omega
      rw [e1, hgu] at this; cases this
  have hu := hpath m hm
  have e2 : cy t.length (o + m) = cy t.length (g + (e - c + m)) := by revert hoc; unfold cy; split <;> split <;> split <;> split <;> omega
  rw [e2] at hu ⊢
  cases hq : us p (cy t.length (g + (e - c + m))) with
  | true => rfl
  | false => exact absurd ⟨by omega, hu, hq⟩ (hle (e - c + m) (by omega))
theorem Part.free {p t : List Int} (hP : Part p t) (hF : Free t) : Free p := by
  obtain ⟨i, hi, hu⟩ := hF
  refine ⟨i, by rw [hP.1]; exact hi, ?_⟩
  cases h : us p i with
  | false => rfl
  | true => rw [(hP.2 i h).1] at hu; cases hu
/-- The key that may come next comes to its cell. -/
theorem ready_pos {t p : List Int} (hP : Part p t) {i : Nat} (hR : Ready t p i) : pos p (t.getD i (-1)) = i := by
  have hi := us_lt hR.1
  have : ff p (own t.length (t.getD i (-1))) = cost t.length i (t.getD i (-1)) := by
    apply ff_eq
    · rw [hP.1]; exact cost_lt hi _
    · rw [hP.1, own_cost hi]; exact hR.2.1
    · intro m hm; rw [hP.1]; exact hR.2.2 m hm
  unfold pos
  rw [hP.1, this, own_cost hi]
theorem Part.set {p t : List Int} (hP : Part p t) {i : Nat} (hu : us t i = true) : Part (p.set i (t.getD i (-1))) t := by
  have hi := us_lt hu
  refine ⟨by simpa using hP.1, fun j hj => ?_⟩
  rw [us_set _ _ _ _ (by rw [hP.1]; exact hi) (by simpa [us] using hu)] at hj
  rw [getD_set _ _ _ _ _ (by rw [hP.1]; exact hi)]
  by_cases e : j = i
  · subst e; simp [hu]
  · simp [e] at hj ⊢; exact hP.2 j hj
/-- A part in which all cells are used that are used in the whole. -/
theorem Part.full {p t : List Int} (hP : Part p t) (hg : ∀ i, i < t.length → -1 ≤ t.getD i (-1)) (hp : ∀ i, i < p.length → -1 ≤ p.getD i (-1)) (h : ∀ i, us t i = true → us p i = true) : p = t := by
  apply List.ext_getElem hP.1
  intro i h1 h2
  have e1 : p.getD i (-1) = p[i] := by rw [List.getD_eq_getElem?_getD, List.getElem?_eq_getElem h1]; rfl
  have e2 : t.getD i (-1) = t[i] := by rw [List.getD_eq_getElem?_getD, List.getElem?_eq_getElem h2]; rfl
  cases hu : us t i with
  | true => rw [← e1, ← e2]; exact (hP.2 i (h i hu)).2
  | false =>
    have hq : us p i = false := by
      cases hq : us p i with
      | false => rfl
      | true => rw [(hP.2 i hq).1] at hu; cases hu
    have a := hg i h2
    have b := hp i h1
    simp only [us, decide_eq_false_iff_not] at hu hq
    omega
/-- All but the paths through the hole are as in a table. -/
structure Holed (t : List Int) (h : Nat) : Prop where
  hole : h < t.length ∧ t.getD h (-1) = -1
  other : ∃ g, g < t.length ∧ g ≠ h ∧ us t g = false
  ge : ∀ i, i < t.length → -1 ≤ t.getD i (-1)
  nodup : ∀ i j, us t i = true → us t j = true → t.getD i (-1) = t.getD j (-1) → i = j
  path : ∀ i, us t i = true → ∀ m, m < cost t.length i (t.getD i (-1)) → cy t.length (own t.length (t.getD i (-1)) + m) ≠ h → us t (cy t.length (own t.length (t.getD i (-1)) + m)) = true
theorem Valid.holed {t : List Int} (hV : Valid t) {h : Nat} (hu : us t h = true) : Holed (t.set h (-1)) h := by
  have hh := us_lt hu
  have uc : ∀ i, us (t.set h (-1)) i = (!decide (i = h) && us t i) := fun i => us_clear t h i hh
  refine ⟨⟨by simpa using hh, by rw [getD_set _ _ _ _ _ hh]; simp⟩, ?_, ?_, ?_, ?_⟩
  · obtain ⟨g, hg, hgu⟩ := hV.free
    refine ⟨g, by simpa using hg, (fun e => by rw [e, hu] at hgu; cases hgu), ?_⟩
    rw [uc, hgu]; simp
  · intro i hi
    rw [getD_set _ _ _ _ _ hh]
    split
    · omega
    · exact hV.ge i (by simpa using hi)
  · intro i j hi hj
    rw [uc] at hi hj
    simp at hi hj
    rw [getD_set _ _ _ _ _ hh, getD_set _ _ _ _ _ hh, if_neg hi.1, if_neg hj.1]
    exact hV.nodup i j hi.2 hj.2
  · intro i hi m hm hne
    rw [uc] at hi
    simp at hi
    rw [List.length_set] at hm hne ⊢
    rw [getD_set _ _ _ _ _ hh, if_neg hi.1] at hm hne ⊢
    rw [uc, hV.path i hi.2 m hm]
    simp only [hne, decide_false, Bool.not_false, Bool.and_true]
theorem Holed.valid {t : List Int} {h k : Nat} (hH : Holed t h) (hk : k < t.length) (h1 : 1 ≤ k) (hfree : us t (cy t.length (h + k)) = false)
    (hu : ∀ m, 1 ≤ m → m < k → us t (cy t.length (h + m)) = true ∧ cost t.length (cy t.length (h + m)) (t.getD (cy t.length (h + m)) (-1)) < m) : Valid t := by
  have hn : 0 < t.length := by omega
  have hh := hH.hole.1
  refine ⟨⟨h, hh, by rw [us, hH.hole.2]; rfl⟩, hH.ge, hH.nodup, fun i hi m hm => ?_⟩
  by_cases e : cy t.length (own t.length (t.getD i (-1)) + m) = h
  · -- the cell i lies behind the hole, before the free cell
    exfalso
    have hil := us_lt hi
    have ho := own_lt hn (t.getD i (-1))
    have hc := cost_lt hil (t.getD i (-1))
    have hoc := own_cost hil (t.getD i (-1))
    have hpath := hH.path i hi
    generalize hcc : cost t.length i (t.getD i (-1)) = c at *
    generalize own t.length (t.getD i (-1)) = o at *
    -- i = h + (c - m)
    have ei : i = cy t.length (h + (c - m)) := by revert e hoc; unfold cy; split <;> split <;> split <;> omega
    rcases Nat.lt_or_ge (c - m) k with hlt | hge
    · have := (hu (c - m) (by omega) hlt).2
      rw [← ei, hcc] at this
      omega
    · have hne : cy t.length (o + (m + k)) = cy t.length (h + k) := by revert e; unfold cy; split <;> split <;> split <;> omega
      rcases Nat.lt_or_ge (m + k) c with hmk | hmk
      · have := hpath (m + k) hmk (by rw [hne]; unfold cy; split <;> omega)
        rw [hne, hfree] at this; cases this
      · have : c - m = k := by omega
        rw [this] at ei
        rw [ei, hfree] at hi; cases hi
  · exact hH.path i hi m hm e
def keys (t : List Int) : List Int := t.filter fun k => decide (0 ≤ k)
theorem keys_set : ∀ (t : List Int) (p : Nat) (k : Int), p < t.length → us t p = false → 0 ≤ k → (keys (t.set p k)).Perm (k :: keys t)
  | [], p, k, h, _, _ => by simp at h
  | x :: t, 0, k, _, hu, hk => by
    have : ¬ 0 ≤ x := by simpa [us] using hu
    simp [keys, this, hk]
  | x :: t, p + 1, k, h, hu, hk => by
    have ih := keys_set t p k (by simpa using h) (by simpa [us] using hu) hk
    simp only [keys, List.set_cons_succ, List.filter_cons] at ih ⊢
    split
    · exact (ih.cons x).trans (List.Perm.swap _ _ _)
    · exact ih
theorem mem_keys {t : List Int} {k : Int} : k ∈ keys t ↔ ∃ i, us t i = true ∧ t.getD i (-1) = k := by
  unfold keys
  rw [List.mem_filter, List.mem_iff_getElem]
  constructor
  · rintro ⟨⟨i, hi, rfl⟩, hk⟩
    have e : t.getD i (-1) = t[i] := by rw [List.getD_eq_getElem?_getD, List.getElem?_eq_getElem hi]; rfl
    exact ⟨i, by rw [us, e]; exact hk, e⟩
  · rintro ⟨i, hu, rfl⟩
    have hi := us_lt hu
    have e : t.getD i (-1) = t[i] := by rw [List.getD_eq_getElem?_getD, List.getElem?_eq_getElem hi]; rfl
    exact ⟨⟨i, hi, e.symm⟩, by rw [us] at hu; exact hu⟩
def empty (n : Nat) : List Int := List.replicate n (-1)
theorem us_empty (n i : Nat) : us (empty n) i = false := by
  unfold us empty
  rw [List.getD_eq_getElem?_getD, List.getElem?_replicate]
  split <;> simp
theorem keys_empty (n : Nat) : keys (empty n) = [] := by
  unfold keys empty
  rw [List.filter_eq_nil_iff]
  intro x hx
  rw [List.mem_replicate] at hx
  simp [hx.2]
theorem many_keys (t : List Int) : many t = (keys t).length := rfl
theorem Part.keys_le {p t : List Int} (hP : Part p t) : many p ≤ many t := by
  have key : ∀ (p t : List Int), p.length = t.length → (∀ i, us p i = true → us t i = true) → many p ≤ many t := by
    intro p
    induction p with
    | nil => intro t _ _; simp [many]
    | cons x p ih =>
      intro t hl hu
      cases t with
      | nil => simp at hl
      | cons y t =>
        have h0 := hu 0
        have := ih t (by simpa using hl) (fun i hi => by simpa [us] using hu (i + 1) (by simpa [us] using hi))
        simp [us] at h0
        simp only [many, List.filter_cons] at this ⊢
        by_cases hx : 0 ≤ x
        · have hy := h0 hx
          simp only [hx, hy, decide_true, if_true, List.length_cons]; omega
        · simp only [hx, decide_false, Bool.false_eq_true, if_false]
          split
          · simp only [List.length_cons]; omega
          · omega
  exact key p t hP.1 (fun i hi => (hP.2 i hi).1)
/-- From a part, the keys that are left in an order that makes the table. -/
theorem complete {t : List Int} (hV : Valid t) : ∀ (d : Nat) (p : List Int), Part p t → (∀ i, i < p.length → -1 ≤ p.getD i (-1)) → many t ≤ many p + d → ∃ ks, insAll p ks = t ∧ (keys p ++ ks).Perm (keys t) ∧ many p + ks.length = many t := by
  intro d
  induction d with
  | zero =>
    intro p hP hg hm
    refine ⟨[], ?_, ?_⟩
    · show p = t
      apply Classical.byContradiction
      intro hne
      have : ∃ i, us t i = true ∧ us p i = false := by
        apply Classical.byContradiction
        intro hn
        exact hne (hP.full hV.ge hg fun i hi => by
          cases h : us p i with
          | true => rfl
          | false => exact absurd ⟨i, hi, h⟩ hn)
      obtain ⟨i, hi, hpi⟩ := this
      have := Part.keys_le (hP.set hi)
      rw [many_set p i _ hpi (by rw [hP.1]; exact us_lt hi) (by simpa [us] using hi)] at this
      omega
    · have hle := hP.keys_le
      have : p = t := by
        apply Classical.byContradiction
        intro hne
        have : ∃ i, us t i = true ∧ us p i = false := by
          apply Classical.byContradiction
          intro hn
          exact hne (hP.full hV.ge hg fun i hi => by
            cases h : us p i with
            | true => rfl
            | false => exact absurd ⟨i, hi, h⟩ hn)
        obtain ⟨i, hi, hpi⟩ := this
        have := Part.keys_le (hP.set hi)
        rw [many_set p i _ hpi (by rw [hP.1]; exact us_lt hi) (by simpa [us] using hi)] at this
        omega
      rw [this]; simp
  | succ d ih =>
    intro p hP hg hm
    by_cases hx : ∃ i, us t i = true ∧ us p i = false
    · obtain ⟨i, hR⟩ := exists_ready hV hx
      have hk : 0 ≤ t.getD i (-1) := by have := hR.1; rw [us] at this; exact of_decide_eq_true this
      have hip : i < p.length := by rw [hP.1]; exact us_lt hR.1
      have e : ins p (t.getD i (-1)) = p.set i (t.getD i (-1)) := by rw [ins, ready_pos hP hR]
      obtain ⟨ks, h1, h2, h3⟩ := ih (ins p (t.getD i (-1))) (by rw [e]; exact hP.set hR.1) (by
        intro j hj
        rw [e, getD_set _ _ _ _ _ hip]
        split
        · omega
        · exact hg j (by simpa using hj)) (by rw [e, many_set p i _ hR.2.1 hip hk]; omega)
      rw [e, many_set p i _ hR.2.1 hip hk] at h3
      refine ⟨t.getD i (-1) :: ks, h1, ?_, by simp; omega⟩
      have hp := keys_set p i _ hip hR.2.1 hk
      rw [← e] at hp
      refine List.Perm.trans ?_ h2
      refine List.Perm.trans ?_ (hp.symm.append_right ks)
      rw [List.cons_append]
      exact List.perm_middle
    · have : p = t := hP.full hV.ge hg fun i hi => by
          cases h : us p i with
          | true => rfl
          | false => exact absurd ⟨i, hi, h⟩ hx
      exact ⟨[], by rw [this]; rfl, by rw [this]; simp, by rw [this]; rfl⟩
theorem Part.empty (t : List Int) : Part (empty t.length) t := ⟨by simp [TabT.empty], fun i hi => by rw [us_empty] at hi; cases hi⟩
theorem ge_empty (n : Nat) : ∀ i, i < (empty n).length → -1 ≤ (empty n).getD i (-1) := by
  intro i _
  unfold empty
  rw [List.getD_eq_getElem?_getD, List.getElem?_replicate]
  split <;> simp
theorem Valid.order {t : List Int} (hV : Valid t) : ∃ ks, insAll (empty t.length) ks = t ∧ ks.Perm (keys t) := by
  obtain ⟨ks, h1, h2, _⟩ := complete hV (many t) (empty t.length) (Part.empty t) (ge_empty _) (by omega)
  rw [keys_empty] at h2
  exact ⟨ks, h1, h2⟩
/-- A key in a cell comes ahead of another one in the next cell. -/
def Bef (n i : Nat) (x y : Int) : Prop := cost n (cy n (i + 1)) y < cost n i x + 1 ∨ cost n (cy n (i + 1)) y = cost n i x + 1 ∧ y < x
structure Robin (t : List Int) : Prop where
  valid : Valid t
  sorted : ∀ i, us t i = true → us t (cy t.length (i + 1)) = true → Bef t.length i (t.getD i (-1)) (t.getD (cy t.length (i + 1)) (-1))
def Over (n i : Nat) (h o : Int) : Prop := cost n i o < cost n i h ∨ cost n i h = cost n i o ∧ o < h
instance (n i : Nat) (h o : Int) : Decidable (Over n i h o) := by unfold Over; infer_instance
/-- What holds at a cell, with a key in hand. -/
structure Hand (t : List Int) (h : Int) (a : Nat) : Prop where
  robin : Robin t
  two : 2 ≤ t.length
  at_ : a < t.length
  pos : 0 ≤ h
  new : ∀ i, us t i = true → t.getD i (-1) ≠ h
  path : ∀ m, m < cost t.length a h → us t (cy t.length (own t.length h + m)) = true
  ahead : us t (cy t.length (a + t.length - 1)) = true → Bef t.length (cy t.length (a + t.length - 1)) (t.getD (cy t.length (a + t.length - 1)) (-1)) h
theorem cost_next {n a : Nat} (ha : a < n) (h2 : 2 ≤ n) (h : Int) (hc : cost n a h + 1 < n) : cost n (cy n (a + 1)) h = cost n a h + 1 := by
  have ho := own_lt (n := n) (by omega) h
  revert hc
  unfold cost cy
  generalize own n h = o at *
  split <;> split <;> split <;> omega
theorem prev_next {n a : Nat} (ha : a < n) (h2 : 2 ≤ n) : cy n (cy n (a + 1) + n - 1) = a := by unfold cy; split <;> split <;> omega
theorem next_prev {n a : Nat} (ha : a < n) (h2 : 2 ≤ n) : cy n (cy n (a + n - 1) + 1) = a := by unfold cy; split <;> split <;> omega
theorem next_ne {n a : Nat} (ha : a < n) (h2 : 2 ≤ n) : cy n (a + 1) ≠ a := by unfold cy; split <;> omega
/-- A key whose path is used up to a used cell costs less than n - 1 there. -/
theorem cost_small {t : List Int} (hF : Free t) {a : Nat} {h : Int} (ha : us t a = true) (hp : ∀ m, m < cost t.length a h → us t (cy t.length (own t.length h + m)) = true) : cost t.length a h + 1 < t.length := by
  have hal := us_lt ha
  have hc := cost_lt hal h
  have hoc := own_cost hal h
  have ho := own_lt (n := t.length) (by omega) h
  apply Classical.byContradiction
  intro hn
  obtain ⟨g, hg, hgu⟩ := hF
  have hcn : cost t.length a h = t.length - 1 := by omega
  generalize cost t.length a h = c at *
  generalize own t.length h = o at *
  -- the free cell is some o + m
  have e : cy t.length (o + cy t.length (g + t.length - o)) = g := by unfold cy; split <;> split <;> omega
  have hm : cy t.length (g + t.length - o) < t.length := cy_lt (by omega)
  rcases Nat.lt_or_ge (cy t.length (g + t.length - o)) c with h1 | h1
  · have := hp _ h1
    rw [e, hgu] at this; cases this
  · have : cy t.length (g + t.length - o) = c := by omega
    rw [this, hoc] at e
    rw [← e, ha] at hgu; cases hgu
theorem us_same {t : List Int} {a : Nat} {h : Int} (ha : us t a = true) (hh : 0 ≤ h) (i : Nat) : us (t.set a h) i = us t i := by
  rw [us_set _ _ _ _ (us_lt ha) hh]
  by_cases e : i = a
  · subst e; simp [ha]
  · simp [e]
theorem Hand.swap {t : List Int} {h : Int} {a : Nat} (H : Hand t h a) (hu : us t a = true) (ho : Over t.length a h (t.getD a (-1))) : Hand (t.set a h) (t.getD a (-1)) (cy t.length (a + 1)) := by
  have hal := H.at_
  have h2 := H.two
  have hV := H.robin.valid
  have us' : ∀ i, us (t.set a h) i = us t i := us_same hu H.pos
  have gd : ∀ i, (t.set a h).getD i (-1) = if i = a then h else t.getD i (-1) := fun i => getD_set _ _ _ _ _ hal
  have hl : (t.set a h).length = t.length := by simp
  obtain ⟨o, hoe⟩ : ∃ o, o = t.getD a (-1) := ⟨_, rfl⟩
  have hpo := hV.path a hu
  rw [← hoe] at ho hpo ⊢
  have ho0 : 0 ≤ o := by rw [us] at hu; rw [hoe]; exact of_decide_eq_true hu
  have hsm := cost_small hV.free hu hpo
  have hcn := cost_next hal h2 o hsm
  have hnew := H.new
  refine ⟨⟨⟨?_, ?_, ?_, ?_⟩, ?_⟩, by rw [hl]; exact h2, by rw [hl]; exact cy_lt (by omega), ho0, ?_, ?_, ?_⟩
  · obtain ⟨g, hg, hgu⟩ := hV.free
    exact ⟨g, by rw [hl]; exact hg, by rw [us']; exact hgu⟩
  · intro i hi
    rw [gd]
    split
    · have := H.pos; omega
    · exact hV.ge i (by rw [hl] at hi; exact hi)
  · intro i j hi hj
    rw [us'] at hi hj
    rw [gd, gd]
    split
    · split
      · intro _; omega
      · intro e; exact absurd e.symm (hnew j hj)
    · split
      · intro e; exact absurd e (hnew i hi)
      · exact hV.nodup i j hi hj
  · intro i hi m hm
    rw [us'] at hi
    rw [gd, hl] at hm ⊢
    rw [us']
    split
    · rename_i e; subst e; rw [if_pos rfl] at hm; exact H.path m hm
    · rename_i e; rw [if_neg e] at hm; exact hV.path i hi m hm
  · intro i hi hi1
    rw [us', hl] at hi1
    rw [us'] at hi
    rw [gd, gd, hl]
    have hil := us_lt hi
    by_cases e1 : i = a
    · subst e1
      rw [if_pos rfl, if_neg (next_ne hal h2)]
      have := H.robin.sorted i hi hi1
      rw [← hoe] at this
      unfold Bef at this ⊢
      unfold Over at ho
      omega
    · rw [if_neg e1]
      by_cases e2 : cy t.length (i + 1) = a
      · rw [if_pos e2]
        have ep : cy t.length (a + t.length - 1) = i := by rw [← e2]; exact prev_next hil h2
        have := H.ahead
        rw [ep] at this
        exact this hi
      · rw [if_neg e2]
        exact H.robin.sorted i hi hi1
  · intro i hi
    rw [us'] at hi
    rw [gd]
    split
    · intro e
      exact hnew a hu (by rw [← hoe, e])
    · rename_i e
      intro e'
      exact e (hV.nodup i a hi hu (by rw [e', hoe]))
  · intro m hm
    rw [hl] at hm ⊢
    rw [us']
    rw [hcn] at hm
    rcases Nat.lt_or_ge m (cost t.length a o) with h1 | h1
    · exact hpo m h1
    · have : m = cost t.length a o := by omega
      rw [this, own_cost hal]; exact hu
  · rw [hl, prev_next hal h2]
    intro _
    rw [gd, if_pos rfl]
    unfold Bef
    rw [hcn]
    unfold Over at ho
    omega
theorem Hand.put {t : List Int} {h : Int} {a : Nat} (H : Hand t h a) (hu : us t a = false) (hm : many t + 1 < t.length) : Robin (t.set a h) := by
  have hal := H.at_
  have h2 := H.two
  have hV := H.robin.valid
  have us' : ∀ i, us (t.set a h) i = (decide (i = a) || us t i) := fun i => us_set _ _ _ _ hal H.pos
  have gd : ∀ i, (t.set a h).getD i (-1) = if i = a then h else t.getD i (-1) := fun i => getD_set _ _ _ _ _ hal
  have hl : (t.set a h).length = t.length := by simp
  have ua : ∀ i, us t i = true → i ≠ a := fun i hi e => by rw [e, hu] at hi; cases hi
  refine ⟨⟨?_, ?_, ?_, ?_⟩, ?_⟩
  · exact free_of_many _ (by rw [many_set t a h hu hal H.pos, hl]; exact hm)
  · intro i hi
    rw [gd]
    split
    · have := H.pos; omega
    · exact hV.ge i (by rw [hl] at hi; exact hi)
  · intro i j hi hj
    rw [us'] at hi hj
    rw [gd, gd]
    by_cases e1 : i = a
    · by_cases e2 : j = a
      · intro _; omega
      · rw [if_pos e1, if_neg e2]
        simp [e2] at hj
        intro e; exact absurd e.symm (H.new j hj)
    · simp [e1] at hi
      by_cases e2 : j = a
      · rw [if_neg e1, if_pos e2]
        intro e; exact absurd e (H.new i hi)
      · simp [e2] at hj
        rw [if_neg e1, if_neg e2]
        exact hV.nodup i j hi hj
  · intro i hi m hm'
    rw [us'] at hi
    rw [gd, hl] at hm' ⊢
    rw [us']
    by_cases e1 : i = a
    · rw [if_pos e1] at hm' ⊢
      subst e1
      rw [H.path m hm']; simp
    · simp [e1] at hi
      rw [if_neg e1] at hm' ⊢
      rw [hV.path i hi m hm']; simp
  · intro i hi hi1
    rw [hl] at hi1 ⊢
    rw [us'] at hi hi1
    rw [gd, gd]
    by_cases e1 : i = a
    · subst e1
      have hne := next_ne hal h2
      rw [if_pos rfl, if_neg hne]
      simp [hne] at hi1
      -- the key behind has its own cell there
      have hil := us_lt hi1
      have hp := hV.path _ hi1
      have hc0 : cost t.length (cy t.length (i + 1)) (t.getD (cy t.length (i + 1)) (-1)) = 0 := by
        have hoc := own_cost hil (t.getD (cy t.length (i + 1)) (-1))
        have hlt := cost_lt hil (t.getD (cy t.length (i + 1)) (-1))
        have ho := own_lt (n := t.length) (by omega) (t.getD (cy t.length (i + 1)) (-1))
        generalize cost t.length (cy t.length (i + 1)) (t.getD (cy t.length (i + 1)) (-1)) = c at *
        generalize own t.length (t.getD (cy t.length (i + 1)) (-1)) = o at *
        rcases Nat.eq_zero_or_pos c with h0 | h0
        · exact h0
        · have := hp (c - 1) (by omega)
          have e : cy t.length (o + (c - 1)) = i := by revert hoc; unfold cy; split <;> split <;> split <;> omega
          rw [e, hu] at this; cases this
      unfold Bef
      rw [hc0]
      omega
    · simp [e1] at hi
      rw [if_neg e1]
      by_cases e2 : cy t.length (i + 1) = a
      · rw [if_pos e2]
        have ep : cy t.length (a + t.length - 1) = i := by rw [← e2]; exact prev_next (us_lt hi) h2
        have := H.ahead
        rw [ep] at this
        exact this hi
      · simp [e2] at hi1
        rw [if_neg e2]
        exact H.robin.sorted i hi hi1
theorem Robin.hand {t : List Int} (hR : Robin t) (h2 : 2 ≤ t.length) {k : Int} (hk : 0 ≤ k) (hn : k ∉ keys t) : Hand t k (own t.length k) := by
  have ho := own_lt (n := t.length) (by omega) k
  have hc : cost t.length (own t.length k) k = 0 := by unfold cost cy; split <;> omega
  refine ⟨hR, h2, ho, hk, ?_, ?_, ?_⟩
  · intro i hi e
    exact hn (mem_keys.2 ⟨i, hi, e⟩)
  · intro m hm; rw [hc] at hm; omega
  · intro _
    unfold Bef
    rw [next_prev ho h2, hc]
    omega
theorem Valid.empty {n : Nat} (h : 0 < n) : Valid (empty n) :=
  ⟨⟨0, by simp [TabT.empty, h], us_empty n 0⟩, ge_empty n, fun i j hi => (by rw [us_empty] at hi; cases hi), fun i hi => (by rw [us_empty] at hi; cases hi)⟩
theorem Robin.empty {n : Nat} (h : 0 < n) : Robin (empty n) := ⟨Valid.empty h, fun i hi => (by rw [us_empty] at hi; cases hi)⟩
/-- How far behind the cell g a key's own cell lies. -/
def off (n g : Nat) (k : Int) : Nat := cy n (own n k + n - g)
theorem off_spec {t : List Int} (hV : Valid t) {g : Nat} (hg : g < t.length) (hgu : us t g = false) {e : Nat} (he : e < t.length) (hu : us t (cy t.length (g + e)) = true) :
    1 ≤ off t.length g (t.getD (cy t.length (g + e)) (-1)) ∧ off t.length g (t.getD (cy t.length (g + e)) (-1)) + cost t.length (cy t.length (g + e)) (t.getD (cy t.length (g + e)) (-1)) = e ∧
      ∀ m, off t.length g (t.getD (cy t.length (g + e)) (-1)) ≤ m → m ≤ e → us t (cy t.length (g + m)) = true := by
  have hil := us_lt hu
  have hp := hV.path _ hu
  have ho := own_lt (n := t.length) (by omega) (t.getD (cy t.length (g + e)) (-1))
  have hoc := own_cost hil (t.getD (cy t.length (g + e)) (-1))
  have hcl := cost_lt hil (t.getD (cy t.length (g + e)) (-1))
  unfold off
  generalize cost t.length (cy t.length (g + e)) (t.getD (cy t.length (g + e)) (-1)) = c at *
  generalize own t.length (t.getD (cy t.length (g + e)) (-1)) = o at *
  have he1 : e ≠ 0 := by
    intro h0
    have : cy t.length (g + e) = g := by rw [h0]; unfold cy; split <;> omega
    rw [this, hgu] at hu; cases hu
  have hce : c < e := by
    rcases Nat.lt_or_ge c e with h | h
    · exact h
    · have := hp (c - e) (by omega)
      have e1 : cy t.length (o + (c - e)) = g := by revert hoc; unfold cy; split <;> split <;> split <;> omega
      rw [e1, hgu] at this; cases this
  have hof : cy t.length (o + t.length - g) = e - c := by revert hoc; unfold cy; split <;> split <;> split <;> omega
  rw [hof]
  refine ⟨by omega, by omega, fun m h1 h2 => ?_⟩
  rcases Nat.lt_or_ge m e with h3 | h3
  · have := hp (m - (e - c)) (by omega)
    have e2 : cy t.length (o + (m - (e - c))) = cy t.length (g + m) := by revert hoc; unfold cy; split <;> split <;> split <;> split <;> omega
    rwa [e2] at this
  · have : m = e := by omega
    rw [this]; exact hu
/-- Along used cells, keys come in one order. -/
def Lt (n g : Nat) (x y : Int) : Prop := off n g x < off n g y ∨ off n g x = off n g y ∧ y < x
theorem Lt.trans {n g : Nat} {x y z : Int} (h : Lt n g x y) (k : Lt n g y z) : Lt n g x z := by unfold Lt at *; omega
theorem Robin.next {t : List Int} (hR : Robin t) {g : Nat} (hg : g < t.length) (hgu : us t g = false) {e : Nat} (he : e + 1 < t.length) (h1 : us t (cy t.length (g + e)) = true) (h2 : us t (cy t.length (g + (e + 1))) = true) :
    Lt t.length g (t.getD (cy t.length (g + e)) (-1)) (t.getD (cy t.length (g + (e + 1))) (-1)) := by
  have s1 := off_spec hR.valid hg hgu (by omega) h1
  have s2 := off_spec hR.valid hg hgu he h2
  have en : cy t.length (cy t.length (g + e) + 1) = cy t.length (g + (e + 1)) := by unfold cy; split <;> split <;> split <;> omega
  have := hR.sorted _ h1
  rw [en] at this
  have := this h2
  unfold Bef at this
  rw [en] at this
  unfold Lt
  omega
end TabT
namespace Go.Proofs.Ytlphlmbkfgdmgaa.G
open Go.RowKit Go.Proofs.YtlphlmbkfgdmgaaW.PrintWords Go.Proofs.YtlphlmbkfgdmgaaW.PrintLast Go.Proofs.YtlphlmbkfgdmgaaW.PrintMore
set_option linter.unusedVariables false
set_option linter.unusedSimpArgs false
set_option linter.unusedSectionVars false
theorem t_g0 {t : List Int} {i : Nat} (h : i < t.length) : t.getD i (-1) = t.getD i 0 := by
  rw [List.getD_eq_getElem?_getD, List.getD_eq_getElem?_getD, List.getElem?_eq_getElem h]; rfl
theorem step_arith {n a : Nat} (ha : a < n) (hn : n ≤ 1000) : Int.tmod (wrap64 ((a : Int) + 1)) (n : Int) = ((TabT.cy n (a + 1) : Nat) : Int) := by
  rw [wrap_next (n := n) ha (by omega), ← TabT.cy_mod (by omega)]
  rfl
theorem us_val {t : List Int} {i : Nat} (h : TabT.us t i = true) : 0 ≤ t.getD i 0 := by
  have hi := TabT.us_lt h
  rw [TabT.us, decide_eq_true_eq, t_g0 hi] at h
  exact h
theorem us_free {t : List Int} {i : Nat} (hi : i < t.length) (h : TabT.us t i = false) : t.getD i 0 < 0 := by
  rw [TabT.us, decide_eq_false_iff_not, t_g0 hi] at h
  omega
/-- What the cells of a table may hold. -/
def Cells (t : List Int) : Prop := ∀ i, i < t.length → -1 ≤ t.getD i 0 ∧ t.getD i 0 ≤ 999
theorem Cells.set {t : List Int} (h : Cells t) {p : Nat} {k : Int} (hp : p < t.length) (h0 : 0 ≤ k) (h9 : k ≤ 999) : Cells (t.set p k) := by
  intro i hi
  rw [List.length_set] at hi
  rw [TabT.getD_set _ _ _ _ _ hp]
  split
  · omega
  · exact h i hi
theorem Cells.empty (n : Nat) : Cells (TabT.empty n) := by
  intro i hi
  have hi2 : i < n := by simpa [TabT.empty] using hi
  unfold TabT.empty
  rw [List.getD_eq_getElem?_getD, List.getElem?_replicate, if_pos hi2]
  simp
theorem Cells.ins {t : List Int} (h : Cells t) (hF : TabT.Free t) {k : Int} (h0 : 0 ≤ k) (h9 : k ≤ 999) : Cells (TabT.ins t k) := h.set (TabT.pos_lt hF k) h0 h9
/-- What holds when q of the keys are in. -/
structure Filled (n : Nat) (t : List Int) (q : Nat) : Prop where
  len_ : t.length = n
  cells : Cells t
  many_ : TabT.many t = q
theorem Filled.free {n q : Nat} {t : List Int} (h : Filled n t q) (hq : q < n) : TabT.Free t := TabT.free_of_many t (by rw [h.many_, h.len_]; exact hq)
theorem costN_cost {n key a : Nat} (ha : a < n) : costN n key a = TabT.cost n a (key : Int) := by
  have hm := Nat.mod_lt key (show 0 < n by omega)
  have ho : TabT.own n (key : Int) = key % n := by
    unfold TabT.own
    rw [show ((key : Int) % (n : Int)) = ((key % n : Nat) : Int) from rfl, Int.toNat_natCast]
  unfold costN TabT.cost
  rw [ho, TabT.cy_mod (by omega)]
structure RFilled (n : Nat) (t : List Int) (ks : List Int) : Prop where
  len_ : t.length = n
  cells : Cells t
  robin : TabT.Robin t
  keys_ : (TabT.keys t).Perm ks
theorem RFilled.many_ {n : Nat} {t ks : List Int} (h : RFilled n t ks) : TabT.many t = ks.length := by
  rw [TabT.many_keys]; exact h.keys_.length_eq
theorem RFilled.hand {n : Nat} {t ks : List Int} (h : RFilled n t ks) (h2 : 2 ≤ n) {k : Int} (h0 : 0 ≤ k) (hn : k ∉ ks) : TabT.Hand t k (TabT.own n k) := by
  have := h.robin.hand (by rw [h.len_]; exact h2) h0 (fun e => hn (h.keys_.mem_iff.mp e))
  rwa [h.len_] at this
end Go.Proofs.Ytlphlmbkfgdmgaa.G
namespace TabT
set_option linter.unusedVariables false
set_option linter.unusedSimpArgs false
theorem Valid.ins {t : List Int} (hV : Valid t) {k : Int} (hk : 0 ≤ k) (hn : k ∉ keys t) (hm : many t + 1 < t.length) : Valid (ins t k) := by
  have hF := hV.free
  have hp := pos_lt hF k
  have hpf := pos_free hF k
  have hlen : (TabT.ins t k).length = t.length := by simp [TabT.ins]
  have hg : ∀ i, (TabT.ins t k).getD i (-1) = if i = pos t k then k else t.getD i (-1) := fun i => getD_set _ _ _ _ _ hp
  have hu : ∀ i, us (TabT.ins t k) i = (decide (i = pos t k) || us t i) := fun i => us_set _ _ _ _ hp hk
  refine ⟨?_, ?_, ?_, ?_⟩
  · exact free_of_many _ (by rw [many_ins hF hk, hlen]; exact hm)
  · intro i hi
    rw [hg]; split
    · omega
    · exact hV.ge i (by rw [← hlen]; exact hi)
  · intro i j hi hj e
    rw [hu, Bool.or_eq_true, decide_eq_true_eq] at hi hj
    rw [hg, hg] at e
    by_cases c1 : i = pos t k <;> by_cases c2 : j = pos t k
    · omega
    · rw [if_pos c1, if_neg c2] at e
      exact absurd (mem_keys.2 ⟨j, hj.resolve_left c2, e.symm⟩) hn
    · rw [if_neg c1, if_pos c2] at e
      exact absurd (mem_keys.2 ⟨i, hi.resolve_left c1, e⟩) hn
    · rw [if_neg c1, if_neg c2] at e
      exact hV.nodup i j (hi.resolve_left c1) (hj.resolve_left c2) e
  · intro i hi m hm'
    rw [hu, Bool.or_eq_true, decide_eq_true_eq] at hi
    rw [hlen, hg] at hm'
    rw [hlen, hg, hu, Bool.or_eq_true, decide_eq_true_eq]
    right
    by_cases c : i = pos t k
    · rw [if_pos c] at hm' ⊢
      have s := ff_spec hF (own_lt (n := t.length) (by omega) k)
      have hc : cost t.length (pos t k) k = ff t (own t.length k) := cost_own s.1 k
      rw [c, hc] at hm'
      exact s.2.2 m hm'
    · rw [if_neg c] at hm' ⊢
      exact hV.path i (hi.resolve_left c) m hm'
end TabT
namespace Go.Proofs.Ytlphlmbkfgdmgaa.G
open Go.RowKit Go.Proofs.YtlphlmbkfgdmgaaW.PrintWords Go.Proofs.YtlphlmbkfgdmgaaW.PrintLast Go.Proofs.YtlphlmbkfgdmgaaW.PrintMore
set_option linter.unusedVariables false
set_option linter.unusedSectionVars false
set_option linter.unusedSimpArgs false
theorem wayF_iff (l : List Int) (key : Nat) : ∀ (c s : Nat), wayF l key s c = true ↔ ∀ m, m < c → 0 ≤ l.getD ((key + s + m) % l.length) 0
  | 0, s => by simp [wayF]
  | c + 1, s => by
    rw [wayF, Bool.and_eq_true, decide_eq_true_eq, wayF_iff l key c (s + 1)]
    constructor
    · rintro ⟨h0, h⟩ m hm
      cases m with
      | zero => exact h0
      | succ m => have := h m (by omega); rwa [show key + (s + 1) + m = key + s + (m + 1) by omega] at this
    · intro h
      exact ⟨h 0 (by omega), fun m hm => by have := h (m + 1) (by omega); rwa [show key + s + (m + 1) = key + (s + 1) + m by omega] at this⟩
theorem okFrom_iff (l : List Int) : ∀ (d i : Nat), okFrom l d i = true ↔ ∀ j, i ≤ j → j < i + d → okCell l j = true
  | 0, i => by
    rw [okFrom]
    exact ⟨fun _ j h1 h2 => by omega, fun _ => rfl⟩
  | d + 1, i => by
    rw [okFrom, Bool.and_eq_true, okFrom_iff l d (i + 1)]
    constructor
    · rintro ⟨h0, h⟩ j h1 h2
      by_cases e : j = i
      · rw [e]; exact h0
      · exact h j (by omega) (by omega)
    · intro h
      exact ⟨h i (Nat.le_refl _) (by omega), fun j h1 h2 => h j (by omega) (by omega)⟩
theorem own_nat (key n : Nat) : TabT.own n (key : Int) = key % n := rfl
theorem way_cell {n key m : Nat} (hn : 0 < n) (hm : m < n) : (key + m) % n = TabT.cy n (TabT.own n (key : Int) + m) := by
  have := Nat.mod_lt key hn
  rw [own_nat, ← TabT.cy_mod (by omega), Nat.mod_add_mod]
theorem us_of {l : List Int} {i : Nat} (hi : i < l.length) : TabT.us l i = decide (0 ≤ l.getD i 0) := by
  rw [TabT.us, t_g0 hi]
theorem tbl_cells {l : List Int} (h : tblB l = true) : Cells l := (tblB_parts h).2.2.1
theorem tbl_valid {l : List Int} (h : tblB l = true) : TabT.Valid l := by
  obtain ⟨h1, h2, h3, h4⟩ := tblB_parts h
  have hok : okFrom l l.length 0 = true := by
    unfold tblB at h
    simp only [Bool.and_eq_true] at h
    exact h.2
  have hc := (okFrom_iff l l.length 0).1 hok
  refine ⟨?_, ?_, ?_, ?_⟩
  · obtain ⟨i, hi, e⟩ := List.getElem_of_mem h4
    exact ⟨i, hi, by rw [us_of hi, getD_get hi, e]; rfl⟩
  · intro i hi
    rw [t_g0 hi]
    exact (h3 i hi).1
  · intro i j hi hj e
    have li := TabT.us_lt hi
    have lj := TabT.us_lt hj
    rw [t_g0 li, t_g0 lj] at e
    rcases Nat.lt_trichotomy i j with c | c | c
    · exact absurd e (tbl_dist h i j c lj (us_val hi))
    · exact c
    · exact absurd e.symm (tbl_dist h j i c li (us_val hj))
  · intro i hi m hm
    have li := TabT.us_lt hi
    have hv := us_val hi
    have := hc i (Nat.zero_le _) (by omega)
    obtain ⟨key, hkey⟩ : ∃ key : Nat, l.getD i 0 = key := ⟨(l.getD i 0).toNat, by omega⟩
    rw [t_g0 li, hkey] at hm ⊢
    rw [okCell, decide_eq_false (by omega), Bool.false_or, Bool.and_eq_true, hkey, Int.toNat_natCast, costN_cost li] at this
    have hw := (wayF_iff l key _ 0).1 this.2 m hm
    have hm2 := TabT.cost_lt li (key : Int)
    rw [Nat.add_zero, way_cell (by omega) (by omega)] at hw
    rw [us_of (TabT.cy_lt (by have := TabT.own_lt (n := l.length) (by omega) (key : Int); omega))]
    exact decide_eq_true hw
end Go.Proofs.Ytlphlmbkfgdmgaa.G
namespace Go.Proofs.Ytlphlmbkfgdmgaa.Pure
open Go.RowKit Go.Proofs.Ytlphlmbkfgdmgaa.G Go.Proofs.YtlphlmbkfgdmgaaW.PrintWords Go.Proofs.YtlphlmbkfgdmgaaW.PrintLast
set_option linter.unusedVariables false
set_option linter.unusedSimpArgs false
theorem place_l0 (l : List Int) (a : Int) (hn : l.length ≤ 4611686018427387904) : ∀ (d i : Nat), i + d = l.length → Ev (fun k => spec_prPlace.l0 k a l (l.length : Int) i) (ixF l a d i) := by
  intro d
  induction d with
  | zero =>
    intro i hd
    exact Ev.end_ fun k => by rw [spec_prPlace.l0, if_neg (by omega)]; rfl
  | succ d ih =>
    intro i hd
    rw [ixF]
    by_cases c : l.getD i 0 = a
    · rw [if_pos c]
      refine Ev.end_ fun k => ?_
      rw [spec_prPlace.l0, if_pos (by omega), if_pos (by omega), if_pos (by omega), rd_nat, if_pos c]
    · rw [if_neg c]
      refine Ev.one (ih (i + 1) (by omega)) fun k => ?_
      rw [spec_prPlace.l0, if_pos (by omega), if_pos (by omega), if_pos (by omega), rd_nat, if_neg c, wrap_next (n := l.length) (by omega) hn]
theorem place_ev (l : List Int) (a : Int) (hn : l.length ≤ 4611686018427387904) : Ev (fun k => spec_prPlace.f k l a) (ixF l a l.length 0) := by
  unfold spec_prPlace.f
  exact place_l0 l a hn l.length 0 (by omega)
def fkV (l : List Int) (a : Int) : Int × Int × Bool := if tblB l = true then (if 0 ≤ a ∧ a ≤ 999 then (if a ∈ l then (ixF l a l.length 0, ((costN l.length a.toNat (ixF l a l.length 0).toNat : Nat) : Int), true) else (0, 0, false)) else (0, 0, false)) else (0, 0, false)
theorem isKey_eq (a : Int) : impl_isKey.f a = some (decide (0 ≤ a ∧ a ≤ 999)) := by unfold impl_isKey.f; rw [between_eq]; rfl
theorem tbl_len {l : List Int} (h : tblB l = true) : 2 ≤ l.length ∧ l.length ≤ 12 := by
  unfold tblB at h
  simp only [Bool.and_eq_true, decide_eq_true_eq] at h
  omega
theorem impl_FindKey_ev (l : List Int) (a : Int) (hn : l.length ≤ 4611686018427387904) : Ev (fun k => impl_FindKey.f k l a) (fkV l a) := by
  unfold impl_FindKey.f fkV
  refine Ev.bind (isTable_ev l hn) ?_
  have stop : Ev (fun k => impl_FindKey.j0 k a true l) (0, 0, false) := Ev.end_ fun k => by rw [impl_FindKey.j0, if_pos rfl]
  cases h : tblB l with
  | false => simp only [Bool.false_eq_true, if_false]; exact stop
  | true =>
    have hl := tbl_len h
    simp only [if_true, isKey_eq, Option.bind_some, decide_eq_true_eq]
    by_cases ha : 0 ≤ a ∧ a ≤ 999
    · simp only [ha, and_self, if_true]
      refine Ev.bind (containsI_ev l a hn) ?_
      rcases ixF_spec l a l.length 0 (by omega) with ⟨h1, h2⟩ | ⟨j, h1, h2, h3, h4⟩
      · rw [List.drop_zero] at h2
        rw [decide_eq_false h2, if_neg h2]
        exact stop
      · rw [List.drop_zero] at h4
        obtain ⟨key, rfl⟩ : ∃ key : Nat, a = key := ⟨a.toNat, by omega⟩
        rw [if_pos h4, h1, decide_eq_true h4, Int.toNat_natCast, Int.toNat_natCast]
        refine Ev.step (f := fun k => (slices_Index_int_int.f k l (key : Int)).bind fun t229 => ((impl_Table_cost.f l t229).bind fun t230 => (some (t229, t230, true)))) (fun k => by rw [impl_FindKey.j0, if_neg (by decide)]) ?_
        refine Ev.bind (index_ev l (key : Int) hn) ?_
        rw [h1, tcost_eq (by omega) (by omega) h2 h3]
        exact Ev.now _
    · simp only [ha, if_false]; exact stop
end Go.Proofs.Ytlphlmbkfgdmgaa.Pure
namespace Go.Proofs.Ytlphlmbkfgdmgaa.Pure
open Go.RowKit Go.Proofs.Ytlphlmbkfgdmgaa.G Go.Proofs.YtlphlmbkfgdmgaaW.PrintWords Go.Proofs.YtlphlmbkfgdmgaaW.PrintLast Go.Proofs.YtlphlmbkfgdmgaaW.PrintMore
set_option linter.unusedVariables false
set_option linter.unusedSimpArgs false
set_option linter.unusedSectionVars false
def rmV (n : Nat) : Nat → List Int → Nat → Nat → List Int
  | 0, t, _, _ => t
  | d + 1, t, h, k => if k ≤ TabT.cost n (TabT.cy n (h + k)) (t.getD (TabT.cy n (h + k)) 0) then rmV n d ((t.set h (t.getD (TabT.cy n (h + k)) 0)).set (TabT.cy n (h + k)) (-1)) (TabT.cy n (h + k)) 1 else rmV n d t h (k + 1)
theorem rmV_len (n : Nat) : ∀ (d : Nat) (t : List Int) (h k : Nat), (rmV n d t h k).length = t.length
  | 0, _, _, _ => rfl
  | d + 1, t, h, k => by
    rw [rmV]
    split
    · rw [rmV_len n d]; simp
    · exact rmV_len n d _ _ _
theorem Cells.clear {t : List Int} (hc : Cells t) {p : Nat} (hp : p < t.length) : Cells (t.set p (-1)) := by
  intro i hi
  rw [List.length_set] at hi
  rw [← t_g0 (by rw [List.length_set]; exact hi), TabT.getD_set _ _ _ _ _ hp]
  split
  · omega
  · rw [t_g0 hi]; exact hc i hi
theorem add_arith {n h k : Nat} (hh : h < n) (hk : k < n) (hn : n ≤ 1000) : Int.tmod (wrap64 ((h : Int) + (k : Int))) (n : Int) = ((TabT.cy n (h + k) : Nat) : Int) := by
  rw [wrap_id (by omega) (by omega), ← TabT.cy_mod (by omega)]
  rfl
theorem back_arith {n h k : Nat} (hh : h < n) (hk : k < n) (hn : n ≤ 1000) : Int.tmod (wrap64 (wrap64 (((TabT.cy n (h + k) : Nat) : Int) - (h : Int)) + (n : Int))) (n : Int) = (k : Int) := by
  have hc : TabT.cy n (h + k) < n := TabT.cy_lt (by omega)
  rw [wrap_id (x := ((TabT.cy n (h + k) : Nat) : Int) - (h : Int)) (by omega) (by omega), wrap_id (by omega) (by omega)]
  have e : ((TabT.cy n (h + k) : Nat) : Int) - (h : Int) + (n : Int) = ((TabT.cy n (h + k) + n - h : Nat) : Int) := by omega
  rw [e]
  have e2 : (TabT.cy n (h + k) + n - h) % n = k := by
    unfold TabT.cy
    split
    · rw [show h + k + n - h = k + n by omega, Nat.add_mod_right, Nat.mod_eq_of_lt hk]
    · rw [show h + k - n + n - h = k by omega, Nat.mod_eq_of_lt hk]
  show (((TabT.cy n (h + k) + n - h) % n : Nat) : Int) = (k : Int)
  rw [e2]
end Go.Proofs.Ytlphlmbkfgdmgaa.Pure
namespace Go.Proofs.Ytlphlmbkfgdmgaa.Pure
open Go.RowKit Go.Proofs.Ytlphlmbkfgdmgaa.G Go.Proofs.YtlphlmbkfgdmgaaW.PrintWords Go.Proofs.YtlphlmbkfgdmgaaW.PrintLast Go.Proofs.YtlphlmbkfgdmgaaW.PrintMore
set_option linter.unusedVariables false
set_option linter.unusedSimpArgs false
set_option linter.unusedSectionVars false
section
variable {n : Nat} (h2 : 2 ≤ n) (h12 : n ≤ 12)
include h2 h12
/-- What holds behind a key that goes back into the hole. -/
theorem moved {t : List Int} (hl : t.length = n) (hc : Cells t) {h k d : Nat} (hh : h < n) (h1 : 1 ≤ k) (hd : k + (d + 1) < n) (hu : ∀ m, m < d + 1 → TabT.us t (TabT.cy n (h + (k + m))) = true) (hf : TabT.us t (TabT.cy n (h + (k + (d + 1)))) = false) :
    Cells ((t.set h (t.getD (TabT.cy n (h + k)) 0)).set (TabT.cy n (h + k)) (-1)) ∧ (∀ m, m < d → TabT.us ((t.set h (t.getD (TabT.cy n (h + k)) 0)).set (TabT.cy n (h + k)) (-1)) (TabT.cy n (TabT.cy n (h + k) + (1 + m))) = true) ∧
      TabT.us ((t.set h (t.getD (TabT.cy n (h + k)) 0)).set (TabT.cy n (h + k)) (-1)) (TabT.cy n (TabT.cy n (h + k) + (1 + d))) = false := by
  have hcl : TabT.cy n (h + k) < n := TabT.cy_lt (by omega)
  have hu0 := hu 0 (by omega)
  rw [Nat.add_zero] at hu0
  have hv := us_val hu0
  have hb := hc _ (by rw [hl]; exact hcl)
  have pos : ∀ m, m ≤ d → TabT.cy n (TabT.cy n (h + k) + (1 + m)) = TabT.cy n (h + (k + (m + 1))) := fun m hm => by unfold TabT.cy; split <;> split <;> split <;> omega
  have far : ∀ m, m ≤ d → TabT.cy n (h + (k + (m + 1))) ≠ h ∧ TabT.cy n (h + (k + (m + 1))) ≠ TabT.cy n (h + k) := fun m hm => by constructor <;> (unfold TabT.cy; split <;> (try split) <;> omega)
  have same : ∀ m, m ≤ d → TabT.us ((t.set h (t.getD (TabT.cy n (h + k)) 0)).set (TabT.cy n (h + k)) (-1)) (TabT.cy n (h + (k + (m + 1)))) = TabT.us t (TabT.cy n (h + (k + (m + 1)))) := fun m hm => by
    have := far m hm
    rw [TabT.us_clear _ _ _ (by rw [List.length_set]; omega), TabT.us_set _ _ _ _ (by omega) hv, decide_eq_false this.1, decide_eq_false this.2]
    simp
  refine ⟨Cells.clear (hc.set (by omega) hv hb.2) (by rw [List.length_set]; omega), fun m hm => ?_, ?_⟩
  · rw [pos m (by omega), same m (by omega)]; exact hu (m + 1) (by omega)
  · rw [pos d (by omega), same d (by omega)]; exact hf
theorem im_rm : ∀ (d : Nat) (t : List Int) (h k : Nat), t.length = n → Cells t → h < n → 1 ≤ k → k + d < n → (∀ m, m < d → TabT.us t (TabT.cy n (h + (k + m))) = true) → TabT.us t (TabT.cy n (h + (k + d))) = false →
    Ev (fun K => impl_RemoveKey.l0 K (h : Int) (n : Int) (k : Int) t) (rmV n d t h k, true) := by
  intro d
  induction d with
  | zero =>
    intro t h k hl hc hh h1 hd hu hf
    have hcl : TabT.cy n (h + k) < n := TabT.cy_lt (by omega)
    rw [Nat.add_zero] at hf
    have hv := us_free (t := t) (by rw [hl]; exact hcl) hf
    refine Ev.end_ fun K => ?_
    rw [impl_RemoveKey.l0, if_neg (by omega), add_arith hh (by omega) (by omega), if_pos (by omega), if_pos (by omega), rd_nat, if_neg (by omega), rmV]
  | succ d ih =>
    intro t h k hl hc hh h1 hd hu hf
    have hcl : TabT.cy n (h + k) < n := TabT.cy_lt (by omega)
    have hu0 := hu 0 (by omega)
    rw [Nat.add_zero] at hu0
    have hv := us_val hu0
    have hb := hc _ (by rw [hl]; exact hcl)
    obtain ⟨key, hkey⟩ : ∃ key : Nat, t.getD (TabT.cy n (h + k)) 0 = key := ⟨(t.getD (TabT.cy n (h + k)) 0).toNat, by omega⟩
    have hcost : impl_Table_cost.f t ((TabT.cy n (h + k) : Nat) : Int) = some ((TabT.cost n (TabT.cy n (h + k)) (key : Int) : Nat) : Int) := by
      rw [tcost_eq (l := t) (key := key) (by omega) (by omega) (by omega) hkey, hl, costN_cost hcl]
    rw [rmV]
    by_cases c : k ≤ TabT.cost n (TabT.cy n (h + k)) (t.getD (TabT.cy n (h + k)) 0)
    · rw [if_pos c]
      obtain ⟨m1, m2, m3⟩ := moved h2 h12 hl hc hh h1 hd hu hf
      have := ih _ (TabT.cy n (h + k)) 1 (by simp [hl]) m1 hcl (Nat.le_refl _) (by omega) m2 m3
      refine Ev.one this fun K => ?_
      rw [impl_RemoveKey.l0, if_neg (by omega), add_arith hh (by omega) (by omega), if_pos (by omega), if_pos (by omega), rd_nat, if_pos (by omega), hcost, Option.bind_some, if_pos (by rw [hkey] at c; omega), if_pos (by omega), if_pos (by omega), Int.toNat_natCast, Int.toNat_natCast]
      rfl
    · rw [if_neg c]
      have := ih t h (k + 1) hl hc hh (by omega) (by omega) (fun m hm => by rw [show k + 1 + m = k + (m + 1) by omega]; exact hu (m + 1) (by omega)) (by rw [show k + 1 + d = k + (d + 1) by omega]; exact hf)
      refine Ev.one this fun K => ?_
      rw [impl_RemoveKey.l0, if_neg (by omega), add_arith hh (by omega) (by omega), if_pos (by omega), if_pos (by omega), rd_nat, if_pos (by omega), hcost, Option.bind_some, if_neg (by rw [hkey] at c; omega), wrap_next (n := n) (by omega) (by omega)]
theorem sp_rm : ∀ (d : Nat) (t : List Int) (h k : Nat), t.length = n → Cells t → h < n → 1 ≤ k → k + d < n → (∀ m, m < d → TabT.us t (TabT.cy n (h + (k + m))) = true) → TabT.us t (TabT.cy n (h + (k + d))) = false →
    Ev (fun K => spec_RemoveKey.l0 K (n : Int) (h : Int) ((TabT.cy n (h + k) : Nat) : Int) t) (rmV n d t h k, true) := by
  intro d
  induction d with
  | zero =>
    intro t h k hl hc hh h1 hd hu hf
    have hcl : TabT.cy n (h + k) < n := TabT.cy_lt (by omega)
    rw [Nat.add_zero] at hf
    have hv := us_free (t := t) (by rw [hl]; exact hcl) hf
    have hb := hc _ (by rw [hl]; exact hcl)
    refine Ev.end_ fun K => ?_
    rw [spec_RemoveKey.l0, if_pos (by omega), if_pos (by omega), rd_nat, if_pos (by omega), rmV]
  | succ d ih =>
    intro t h k hl hc hh h1 hd hu hf
    have hcl : TabT.cy n (h + k) < n := TabT.cy_lt (by omega)
    have hu0 := hu 0 (by omega)
    rw [Nat.add_zero] at hu0
    have hv := us_val hu0
    have hb := hc _ (by rw [hl]; exact hcl)
    obtain ⟨key, hkey⟩ : ∃ key : Nat, t.getD (TabT.cy n (h + k)) 0 = key := ⟨(t.getD (TabT.cy n (h + k)) 0).toNat, by omega⟩
    have hcost : spec_prCost.f (key : Int) ((TabT.cy n (h + k) : Nat) : Int) (n : Int) = some ((TabT.cost n (TabT.cy n (h + k)) (key : Int) : Nat) : Int) := by
      rw [prCost_eq (by omega) (by omega) (by omega) hcl, costN_cost hcl]
    rw [rmV]
    by_cases c : k ≤ TabT.cost n (TabT.cy n (h + k)) (t.getD (TabT.cy n (h + k)) 0)
    · rw [if_pos c]
      obtain ⟨m1, m2, m3⟩ := moved h2 h12 hl hc hh h1 hd hu hf
      have := ih _ (TabT.cy n (h + k)) 1 (by simp [hl]) m1 hcl (Nat.le_refl _) (by omega) m2 m3
      refine Ev.one this fun K => ?_
      rw [spec_RemoveKey.l0, if_pos (by omega), if_pos (by omega), rd_nat, if_neg (by omega), hkey, hcost, Option.bind_some, if_neg (by omega), back_arith hh (by omega) (by omega), if_pos (by rw [hkey] at c; omega), if_pos (by omega), if_pos (by omega), Int.toNat_natCast, Int.toNat_natCast, step_arith hcl (by omega)]
    · rw [if_neg c]
      have := ih t h (k + 1) hl hc hh (by omega) (by omega) (fun m hm => by rw [show k + 1 + m = k + (m + 1) by omega]; exact hu (m + 1) (by omega)) (by rw [show k + 1 + d = k + (d + 1) by omega]; exact hf)
      rw [show TabT.cy n (h + (k + 1)) = TabT.cy n (TabT.cy n (h + k) + 1) by unfold TabT.cy; split <;> split <;> (try split) <;> omega] at this
      refine Ev.one this fun K => ?_
      rw [spec_RemoveKey.l0, if_pos (by omega), if_pos (by omega), rd_nat, if_neg (by omega), hkey, hcost, Option.bind_some, if_neg (by omega), back_arith hh (by omega) (by omega), if_neg (by rw [hkey] at c; omega), step_arith hcl (by omega)]
end
end Go.Proofs.Ytlphlmbkfgdmgaa.Pure
namespace Go.Proofs.Ytlphlmbkfgdmgaa.Pure
open Go.RowKit Go.Proofs.Ytlphlmbkfgdmgaa.G Go.Proofs.YtlphlmbkfgdmgaaW.PrintWords Go.Proofs.YtlphlmbkfgdmgaaW.PrintLast Go.Proofs.YtlphlmbkfgdmgaaW.PrintMore
set_option linter.unusedVariables false
set_option linter.unusedSimpArgs false
set_option linter.unusedSectionVars false
theorem rm_start {l : List Int} (hT : tblB l = true) {h : Nat} (hu : TabT.us l h = true) : ∃ d, 1 + d < l.length ∧ (∀ m, m < d → TabT.us (l.set h (-1)) (TabT.cy l.length (h + (1 + m))) = true) ∧ TabT.us (l.set h (-1)) (TabT.cy l.length (h + (1 + d))) = false := by
  have hh := TabT.us_lt hu
  obtain ⟨g, hg, hgh, hgu⟩ := ((tbl_valid hT).holed hu).other
  rw [List.length_set] at hg
  have start : ∃ e, 1 + e < l.length ∧ TabT.cy l.length (h + (1 + e)) = g := by
    by_cases c : h < g
    · exact ⟨g - h - 1, by omega, by unfold TabT.cy; split <;> omega⟩
    · exact ⟨g + l.length - h - 1, by omega, by unfold TabT.cy; split <;> omega⟩
  obtain ⟨e, he, heg⟩ := start
  obtain ⟨d, h1, h2, h3⟩ := TabT.least_nat (p := fun e => TabT.us (l.set h (-1)) (TabT.cy l.length (h + (1 + e))) = false) e (by show TabT.us (l.set h (-1)) (TabT.cy l.length (h + (1 + e))) = false; rw [heg]; exact hgu)
  exact ⟨d, by omega, fun m hm => by simpa using h3 m hm, h2⟩
theorem rm_both (l : List Int) (a : Int) (hn : l.length ≤ 4611686018427387904) : ∃ r : List Int × Bool, Ev (fun k => impl_RemoveKey.f k l a) r ∧ Ev (fun k => spec_RemoveKey.f k l a) r ∧ r.1.length ≤ l.length := by
  have gi := impl_FindKey_ev l a hn
  have stop : Ev (fun k => spec_RemoveKey.j0 k a true l) (([] : List Int), false) := Ev.end_ fun k => by rw [spec_RemoveKey.j0, if_pos rfl]
  have none_ : fkV l a = (0, 0, false) → Ev (fun k => impl_RemoveKey.f k l a) (([] : List Int), false) := fun e => by
    rw [e] at gi
    unfold impl_RemoveKey.f
    refine Ev.bind gi ?_
    simp only [Bool.false_eq_true, if_false]
    exact Ev.now _
  have hpk : spec_prKey.f a = some (decide (0 ≤ a ∧ a ≤ 999)) := by unfold spec_prKey.f; rw [l1In_eq]; rfl
  cases hT : tblB l with
  | false =>
    refine ⟨([], false), none_ (by rw [fkV, if_neg (by rw [hT]; decide)]), ?_, by simp⟩
    unfold spec_RemoveKey.f
    refine Ev.bind (prGood_ev l hn) ?_
    simp only [hT, Bool.false_eq_true, if_false]
    exact stop
  | true =>
    by_cases ha : 0 ≤ a ∧ a ≤ 999
    · by_cases hm : a ∈ l
      · obtain ⟨h1, h2, h3, h4⟩ := tblB_parts hT
        rcases ixF_spec l a l.length 0 (by omega) with ⟨_, q⟩ | ⟨j, e1, e2, e3, _⟩
        · rw [List.drop_zero] at q; exact absurd hm q
        · have hu : TabT.us l j = true := by rw [us_of e2, e3]; exact decide_eq_true ha.1
          obtain ⟨d, d1, d2, d3⟩ := rm_start hT hu
          have hc : Cells (l.set j (-1)) := Cells.clear (tbl_cells hT) e2
          have hf : fkV l a = ((j : Int), ((costN l.length a.toNat j : Nat) : Int), true) := by
            rw [fkV, if_pos hT, if_pos ha, if_pos hm, e1, Int.toNat_natCast]
          rw [hf] at gi
          refine ⟨(rmV l.length d (l.set j (-1)) j 1, true), ?_, ?_, by simp only [rmV_len, List.length_set]; omega⟩
          · unfold impl_RemoveKey.f
            refine Ev.bind gi ?_
            have hcp : impl_Table_copied.f l = some l := by
              unfold impl_Table_copied.f slices_Clone_int_int.f
              rw [if_pos (by omega)]; rfl
            simp only [if_true, hcp, Option.bind_some, show (0 : Int) ≤ (j : Int) by omega, show ((j : Int) < (l.length : Int)) by omega, Int.toNat_natCast]
            exact im_rm h1 h2 d (l.set j (-1)) j 1 (by simp) hc e2 (Nat.le_refl _) d1 d2 d3
          · unfold spec_RemoveKey.f
            refine Ev.bind (prGood_ev l hn) ?_
            simp only [hT, if_true, hpk, Option.bind_some, ha, and_self, decide_true]
            refine Ev.bind (place_ev l a hn) ?_
            rw [e1, decide_eq_false (show ¬ ((j : Nat) : Int) < 0 by omega)]
            have hown : spec_l1Own.f l = some l := by
              unfold spec_l1Own.f
              simp only [Option.bind_some, List.length_nil, Nat.zero_add, show l.length < 17592186044416 by omega, if_true, List.nil_append]
            refine Ev.step (f := fun k => (spec_prPlace.f k l a).bind fun t489 => (if 0 ≤ t489 then (if t489 < (l.length : Int) then (if (l.length : Int) = 0 then (none) else (spec_RemoveKey.l0 k (l.length : Int) t489 (Int.tmod (wrap64 (t489 + 1)) (l.length : Int)) (l.set (t489 : Int).toNat (-1)))) else (none)) else (none))) (fun k => by
              rw [spec_RemoveKey.j0, if_neg (by decide), hown]; rfl) ?_
            refine Ev.bind (place_ev l a hn) ?_
            rw [e1]
            simp only [show (0 : Int) ≤ (j : Int) by omega, show ((j : Int) < (l.length : Int)) by omega, show ¬ ((l.length : Int) = 0) by omega, if_true, if_false, Int.toNat_natCast, step_arith e2 (show l.length ≤ 1000 by omega)]
            exact sp_rm h1 h2 d (l.set j (-1)) j 1 (by simp) hc e2 (Nat.le_refl _) d1 d2 d3
      · refine ⟨([], false), none_ (by rw [fkV, if_pos hT, if_pos ha, if_neg hm]), ?_, by simp⟩
        unfold spec_RemoveKey.f
        refine Ev.bind (prGood_ev l hn) ?_
        simp only [hT, if_true, hpk, Option.bind_some, ha, and_self, decide_true]
        refine Ev.bind (place_ev l a hn) ?_
        rcases ixF_spec l a l.length 0 (by omega) with ⟨e1, _⟩ | ⟨j, _, _, _, q⟩
        · rw [e1]; exact stop
        · rw [List.drop_zero] at q; exact absurd q hm
    · refine ⟨([], false), none_ (by rw [fkV, if_pos hT, if_neg ha]), ?_, by simp⟩
      unfold spec_RemoveKey.f
      refine Ev.bind (prGood_ev l hn) ?_
      simp only [hT, if_true, hpk, Option.bind_some, ha, decide_false, Bool.false_eq_true, if_false]
      exact stop
end Go.Proofs.Ytlphlmbkfgdmgaa.Pure
namespace Go.Proofs.Ytlphlmbkfgdmgaa.Pure
open Go.RowKit Go.Proofs.Ytlphlmbkfgdmgaa.G Go.Proofs.YtlphlmbkfgdmgaaW.PrintWords Go.Proofs.YtlphlmbkfgdmgaaW.PrintLast
set_option linter.unusedVariables false
set_option linter.unusedSimpArgs false
theorem FnExactRemoveKey (l0 : List Int) (a1 : Int) (hm : l0.length ≤ maxLen) (hb : l0.length * 8 ≤ 140737488351232) (hw : ∀ x ∈ l0, (Lit.int .i64 x).wf = true) (hw1 : (Lit.int .i64 a1).wf = true) : ∃ k, laws_FnExactRemoveKey.f k l0 a1 = some true := by
  refine Ev.rounds ?_
  unfold laws_FnExactRemoveKey.f
  rw [szTable_eq l0 (by omega)]
  simp only [Option.bind_some]
  by_cases h : (l0.length : Int) > 1048576
  · rw [if_pos h]
    simp only [show ((-1 : Int) < 0) by decide, if_true]
    exact Ev.now _
  · rw [if_neg h]
    have hn : l0.length ≤ 1048576 := by omega
    obtain ⟨r, e1, e2, hl⟩ := rm_both l0 a1 (by omega)
    simp only [show ¬ ((1048576 : Int) - (l0.length : Int) < 0) by omega, if_false]
    refine Ev.bind (toTable_ev l0 (by omega)) ?_
    refine Ev.bind e2 ?_
    refine Ev.bind (toTable_ev l0 (by omega)) ?_
    refine Ev.bind e1 ?_
    refine Ev.bind (eqTable_ev _ _ (by omega)) ?_
    simp only [decide_true, if_true, bne_self_eq_false]
    refine Ev.step (fun k => by rw [laws_FnExactRemoveKey.j0, if_neg (by decide)]) ?_
    refine Ev.bind (toTable_ev l0 (by omega)) ?_
    refine Ev.bind (eqTable_ev l0 l0 (by omega)) ?_
    simp only [decide_true, if_true]
    refine Ev.bind (markTable_ev _ 1 (by omega) (by omega)) ?_
    simp only [nneg, if_false]
    refine Ev.bind (eqTable_ev _ _ (by omega)) ?_
    simp only [decide_true, if_true, bne_self_eq_false]
    refine Ev.step (fun k => by rw [laws_FnExactRemoveKey.j1, if_neg (by decide)]) ?_
    refine Ev.bind (markTable_ev _ 1 (by omega) (by omega)) ?_
    refine Ev.bind (heldTable_ev _ 1 (by omega) (by omega)) ?_
    simp only [nneg, if_false, if_true]
    refine Ev.bind (toTable_ev l0 (by omega)) ?_
    refine Ev.bind e1 ?_
    refine Ev.bind (eqTable_ev _ _ (by omega)) ?_
    simp only [decide_true, if_true, bne_self_eq_false]
    refine Ev.step (fun k => by rw [laws_FnExactRemoveKey.j2, if_neg (by decide)]) ?_
    refine Ev.bind (heldTable_ev _ 1 (by omega) (by omega)) ?_
    simp only [nneg, if_false, if_true]
    exact Ev.now _
end Go.Proofs.Ytlphlmbkfgdmgaa.Pure
namespace Go.Proofs.YtlphlmbkfgdmgaaW.PrintWords
open Go.ChangeShapes Go.WideShapes
theorem sized_ints {H : Type} {enc : TypeId × Value → H} {P : Program} {W : World} {base : Nat} {spare : Nat → Bool} {held : Bool} {t e : TypeId} {k : IntKind} {a : Option Addr} {len cap : Nat} {d : DataW H} {ps : List MemPlace} {ts : List TypeId} {ds : List (DataW H)} {j : Nat}
    (hsz : (DataW.weightsEach P ts ds).all (· ≤ reachBytes) = true) (ht : ts[j]? = some t) (hd : ds[j]? = some d) (hu : P.underlying t = some (.slice e)) (he : P.underlying e = some (.int k)) (hc : P.cellsOf e = 1) {B : Nat} (hB : P.bytesOf e = B)
    (h : DataW.Trod enc P W base spare held t (.slice a len cap) d ps) : len * B ≤ 140737488351232 := by
  obtain ⟨fuel, hf⟩ := h
  rcases open_ints hu he hc hf with ⟨hcs, _⟩ | ⟨x, l, c, zs, hcs, _, hl, _, hz, hx, _, _⟩
  · simp [Value.cells] at hcs
    obtain ⟨rfl, rfl, rfl⟩ := hcs
    simp
  · simp [Value.cells] at hcs
    obtain ⟨rfl, rfl, rfl⟩ := hcs
    obtain ⟨hx, _⟩ := Prod.mk.inj hx
    subst hx
    have z := sized_slice hsz ht hd hu
    rw [hB] at z
    have hl2 : len ≤ zs.length := by
      rw [hz]
      split
      · exact hl
      · exact Nat.le_refl _
    have h1 : (lits (H := H) k (zs.take len)).length + (lits (H := H) k (zs.drop len)).length = zs.length := by
      simp [lits]
      omega
    rw [h1] at z
    exact Nat.le_trans (Nat.mul_le_mul_right _ hl2) z
end Go.Proofs.YtlphlmbkfgdmgaaW.PrintWords
namespace Go.Proofs.Ytlphlmbkfgdmgaa.fnExactRemoveKey
open Go.ChangeShapes Go.WideShapes Go.ChangeAt Go.RowKit
open Go.ChangeMaps (open_string shut_string)
open Go.Proofs.YtlphlmbkfgdmgaaW.PrintWords Go.Proofs.YtlphlmbkfgdmgaaW.PrintLast Go.Proofs.YtlphlmbkfgdmgaaW.PrintMore
set_option linter.unusedVariables false
set_option linter.unusedSimpArgs false
theorem own : ownKnob Try.prog.godebug = none := by kernel_rfl
theorem laidOut : laidOutB Try.prog = true := by kernel_rfl
def IsRow (k : IntKind) (w : World) (a : Option Addr) (len cap : Nat) (zs : List Int) : Prop :=
  (a = none ∧ len = 0 ∧ cap = 0 ∧ zs = []) ∨
  ∃ x, a = some x ∧ len ≤ cap ∧ cap ≤ maxLen ∧ zs.length = cap ∧ (∀ i, i < zs.length → w.cell? (x.add i) = some (.int k (zs.getD i 0))) ∧ ∀ n ∈ zs, (Lit.int k n).wf = true
set_option maxHeartbeats 4000000 in
set_option maxRecDepth 100000 in
theorem lifted (os : Os) (started : os.Started) (H : Type) (enc : TypeId × Value → H) :
    ReturnsInHanded {} Try.checked os 3 .any (Rows.fnExactRemoveKeySpec.pre6 enc Try.prog Try.f3 Rows.fnExactRemoveKeyRow.domain false) (Rows.fnExactRemoveKeySpec.post enc Try.prog Try.f3 false true false false) := by
  refine returnsInHanded_of_change_sized (C := Try.checked) own started (by kernel_rfl) Try.func3
    (ChangeSpec.witness6 (enc := enc) (C := Try.checked) false ⟨#[], #[.agg #[.slice none 0 0], .int .i64 0], []⟩ 8 (by kernel_rfl) (by kernel_rfl) (by kernel_rfl) (by kernel_rfl)) ?_
  intro W base args ds gs before hval0 hW hcnd hsz0 _
  have hsz : (DataW.weightsEach Try.prog (Try.f3.params.toList ++ Rows.fnExactRemoveKeySpec.plain.varTypes Try.prog) (ds ++ gs)).all (· ≤ reachBytes) = true := hsz0
  have hval : ∀ (j : Nat) t v, Try.f3.params[j]? = some t → args[j]? = some v → Value.okWide Try.prog W .any base t v := hval0
  have hW' := hW
  obtain ⟨p, q, hA0, hV, rfl, hfz, hnd⟩ := hW
  have hA : DataW.TrodAll enc Try.prog W 0 (fun _ => true) true Try.f3.params.toList args.toList ds p := hA0
  rw [Try.params3] at hA hval hsz
  obtain ⟨v0, vs0, d0, ds0, p0, q0, hargs, rfl, rfl, h0, r0⟩ := trodAll_cons hA
  obtain ⟨v1, vs1, d1, ds1, p1, q1, hargs1, rfl, rfl, h1, r1⟩ := trodAll_cons r0
  obtain ⟨rfl, rfl, rfl⟩ := trodAll_nil r1
  obtain rfl : args = #[v0, v1] := by cases args; simp_all
  obtain ⟨rfl, rfl⟩ := trodVars_none hV
  obtain ⟨cs0, rfl, hcs0⟩ := okWide_struct Try.underlying24 (hval 0 24 v0 rfl rfl)
  have k0 := h0
  have lt0 : ∀ x ∈ p0, x.block < W.heap.size := by obtain ⟨m, hm⟩ := k0; exact DataW.trod_lt m _ _ _ hm
  obtain ⟨a0, len0, cap0, z0, rfl, w0, y0⟩ : ∃ a len cap zs, cs0 = #[.slice a len cap] ∧ IsRow .i64 W a len cap zs ∧ len * 8 ≤ 140737488351232 := by
    obtain ⟨fuel, hf⟩ := h0
    obtain ⟨y, m, hx, _, hf0⟩ := trod_struct1 Try.underlying24 hf
    have hsize : cs0.size = 1 := hcs0.trans (by kernel_rfl)
    obtain ⟨u, rfl⟩ : ∃ u, cs0 = #[u] := Array.size_eq_one_iff.1 hsize
    have hone : Try.prog.cellsOf 22 = 1 := by kernel_rfl
    have hf1 : DataW.trod enc Try.prog W 0 (fun _ => true) true m 22 [u] = some y := by simpa [Value.cells, hone] using hf0
    obtain ⟨rfl, rfl⟩ := Prod.mk.inj hx
    have hsz1 : (DataW.weightsEach Try.prog [22] [y.1]).all (· ≤ reachBytes) = true := by
      rw [List.all_eq_true]
      intro b hb
      refine List.all_eq_true.1 hsz b (DataW.weights_mem_each (j := 0) rfl rfl b ?_)
      rw [DataW.weights, Try.underlying24]
      exact hb
    rcases open_ints Try.underlying22 Try.underlying3 (by kernel_rfl) hf1 with ⟨hcs, _⟩ | ⟨x, l, c, zs, hcs, _, hl, hm, hz, _, hcell, hwz⟩
    · obtain rfl : u = .slice none 0 0 := by simpa using hcs
      exact ⟨none, 0, 0, [], rfl, .inl ⟨rfl, rfl, rfl, rfl⟩, by omega⟩
    · obtain rfl : u = .slice (some x) l c := by simpa using hcs
      have hy := Go.Proofs.YtlphlmbkfgdmgaaW.PrintWords.sized_ints hsz1 (j := 0) (t := 22) rfl rfl Try.underlying22 Try.underlying3 (by kernel_rfl) (B := 8) (by kernel_rfl) (⟨m, hf1⟩ : DataW.Trod enc Try.prog W 0 (fun _ => true) true 22 (.slice (some x) l c) y.1 y.2)
      exact ⟨some x, l, c, zs, rfl, .inr ⟨_, rfl, hl, hm, by simpa using hz, hcell, hwz⟩, hy⟩
  obtain ⟨a1, rfl, rfl, rfl, w1⟩ := open_int Try.underlying3 (hval 1 3 v1 rfl rfl) h1
  clear hA0 hval0 hsz0 hsz
  obtain ⟨l0, rfl, hr0, hm0, hw0, hc0⟩ := ReadsInt.ofRowC w0
  obtain ⟨k, h⟩ := Pure.FnExactRemoveKey l0 a1 hm0 y0 hw0 w1
  refine (G.laws_FnExactRemoveKey.calls k _ _ l0 a1 true W (Kd.C_of_reads (d := (0 : Int)) (h1 := fun _ => rfl) hr0) hc0 h).mono fun e W' hee => ?_
  obtain ⟨he, bel⟩ := hee
  subst he
  exact ⟨_, rfl, _, _, _, [], _, [], hW', trodAll_mk1 (shut_bool Try.underlying4 _), (trodAll_cons_mk (Below.trod laidOut (by kernel_rfl) (of_decide_eq_true (by kernel_rfl)) k0 bel lt0) (trodAll_cons_mk (shut_int Try.underlying3 w1) trodAll_mk0)), rfl, bel.frame _, fun h => by cases h⟩
theorem over : Rows.fnExactRemoveKeyRow.holds Try.pinned (OpenSpec.ofChange Rows.fnExactRemoveKeySpec) :=
  OpenClaim.holds_of_wide 3 Try.f3 rfl rfl rfl rfl rfl rfl rfl ⟨rfl, rfl, rfl, rfl, rfl⟩ rfl rfl rfl rfl rfl (by kernel_rfl) Try.func3 (by kernel_rfl)
    (of_decide_eq_true (by kernel_rfl)) (by unfold Func.isWrapper; first | (rw [if_pos (by decide +kernel)]; kernel_rfl) | (rw [if_neg (by decide +kernel)]; exact ⟨rfl, rfl⟩))
    (fun os started H enc _ => lifted os started H enc)
theorem proved : Rows.FnExactRemoveKeySaid := over
#print axioms proved
end Go.Proofs.Ytlphlmbkfgdmgaa.fnExactRemoveKey
namespace Go.Proofs.Ytlphlmbkfgdmgaa
/-- The row, under a short name, for the claim. -/
theorem fnExactRemoveKey_holds : Rows.FnExactRemoveKeySaid := fnExactRemoveKey.proved
end Go.Proofs.Ytlphlmbkfgdmgaa
