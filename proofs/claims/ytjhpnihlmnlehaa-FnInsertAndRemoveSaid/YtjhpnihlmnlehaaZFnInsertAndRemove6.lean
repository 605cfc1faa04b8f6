/- The law FnInsertAndRemove: part 6 of the printed functions and the facts on them that its row leans on (merged by this session's slim.py). -/
import Derived.Test.YtjhpnihlmnlehaaZFnInsertAndRemove5
set_option linter.unusedVariables false
set_option linter.unusedSimpArgs false
namespace TabT
/-- A key goes back into the hole. -/
theorem Holed.move {t : List Int} {h k : Nat} (hH : Holed t h) (hk : k < t.length) (h1 : 1 ≤ k) (hu : us t (cy t.length (h + k)) = true)
    (hc : k ≤ cost t.length (cy t.length (h + k)) (t.getD (cy t.length (h + k)) (-1))) :
    Holed ((t.set h (t.getD (cy t.length (h + k)) (-1))).set (cy t.length (h + k)) (-1)) (cy t.length (h + k)) := by
  have hn : 0 < t.length := by omega
  have hh := hH.hole.1
  have ha : cy t.length (h + k) < t.length := cy_lt (by omega)
  have hah : cy t.length (h + k) ≠ h := by unfold cy; split <;> omega
  obtain ⟨a, hae⟩ : ∃ a, a = cy t.length (h + k) := ⟨_, rfl⟩
  rw [← hae] at hu hc ha hah ⊢
  obtain ⟨x, hx⟩ : ∃ x, x = t.getD a (-1) := ⟨_, rfl⟩
  rw [← hx] at hc ⊢
  have hx0 : 0 ≤ x := by rw [hx]; simpa [us] using hu
  have gd : ∀ i, ((t.set h x).set a (-1)).getD i (-1) = if i = a then -1 else if i = h then x else t.getD i (-1) := by
    intro i
    rw [getD_set _ _ _ _ _ (by simpa using ha), getD_set _ _ _ _ _ hh]
  have uc : ∀ i, us ((t.set h x).set a (-1)) i = if i = a then false else if i = h then true else us t i := by
    intro i
    unfold us
    rw [gd]
    split
    · simp
    · split
      · simp [hx0]
      · rfl
  refine ⟨⟨by simpa using ha, by rw [gd]; simp⟩, ?_, ?_, ?_, ?_⟩
  · obtain ⟨g, hg, hgh, hgu⟩ := hH.other
    have hga : g ≠ a := fun e => by rw [e, hu] at hgu; cases hgu
    exact ⟨g, by simpa using hg, hga, by rw [uc, if_neg hga, if_neg hgh]; exact hgu⟩
  · intro i hi
    rw [gd]
    split
    · omega
    · split
      · omega
      · exact hH.ge i (by simpa using hi)
  · intro i j hi hj
    rw [uc] at hi hj
    rw [gd, gd]
    by_cases e1 : i = a
    · rw [if_pos e1] at hi; cases hi
    · by_cases e2 : j = a
      · rw [if_pos e2] at hj; cases hj
      · rw [if_neg e1] at hi ⊢
        rw [if_neg e2] at hj ⊢
        by_cases f1 : i = h
        · by_cases f2 : j = h
          · intro _; rw [f1, f2]
          · rw [if_pos f1, if_neg f2, hx]
            rw [if_neg f2] at hj
            intro e
            exact absurd (hH.nodup a j hu hj e).symm e2
        · by_cases f2 : j = h
          · rw [if_neg f1, if_pos f2, hx]
            rw [if_neg f1] at hi
            intro e
            exact absurd (hH.nodup i a hi hu e) e1
          · rw [if_neg f1, if_neg f2]
            rw [if_neg f1] at hi
            rw [if_neg f2] at hj
            exact hH.nodup i j hi hj
  · intro i hi m hm hne
    rw [List.length_set, List.length_set] at hm hne ⊢
    rw [uc] at hi
    rw [gd] at hm hne ⊢
    by_cases e1 : i = a
    · rw [if_pos e1] at hi; cases hi
    · rw [if_neg e1] at hi hm hne ⊢
      rw [uc, if_neg hne]
      by_cases f1 : i = h
      · -- the key that went back
        rw [if_pos f1] at hm hne ⊢
        have ho := own_lt hn x
        have hca := cost_lt ha x
        have hoca := own_cost ha x
        have hcc := cost_lt hh x
        have hocc := own_cost hh x
        have hpath := hH.path a hu
        rw [← hx] at hpath
        rw [f1] at hm
        generalize cost t.length a x = c at *
        generalize cost t.length h x = d at *
        generalize own t.length x = o at *
        have hdc : d + k = c := by revert hoca hocc; rw [hae]; unfold cy; split <;> split <;> split <;> omega
        by_cases f2 : cy t.length (o + m) = h
        · rw [if_pos f2]
        · rw [if_neg f2]
          exact hpath m (by omega) f2
      · rw [if_neg f1] at hi hm hne ⊢
        by_cases f2 : cy t.length (own t.length (t.getD i (-1)) + m) = h
        · rw [if_pos f2]
        · rw [if_neg f2]
          exact hH.path i hi m hm f2
def keys (t : List Int) : List Int := t.filter fun k => decide (0 ≤ k)
theorem keys_set : ∀ (t : List Int) (p : Nat) (k : Int), p < t.length → us t p = false → 0 ≤ k → (keys (t.set p k)).Perm (k :: keys t)
  | [], p, k, h, _, _ => by simp at h
  | x :: t, 0, k, _, hu, hk => by
    have : ¬ 0 ≤ x := by simpa [us] using hu
    simp [keys, this, hk]
  | x :: t, p + 1, k, h, hu, hk => by
    have ih := keys_set t p k (by simpa using h) (by simpa [us] using hu) hk
    simp only [keys, List.set_cons_succ, List.filter_cons] at ih ⊢
    split
    · exact (ih.cons x).trans (List.Perm.swap _ _ _)
    · exact ih
theorem mem_keys {t : List Int} {k : Int} : k ∈ keys t ↔ ∃ i, us t i = true ∧ t.getD i (-1) = k := by
  unfold keys
  rw [List.mem_filter, List.mem_iff_getElem]
  constructor
  · rintro ⟨⟨i, hi, rfl⟩, hk⟩
    have e : t.getD i (-1) = t[i] := by rw [List.getD_eq_getElem?_getD, List.getElem?_eq_getElem hi]; rfl
    exact ⟨i, by rw [us, e]; exact hk, e⟩
  · rintro ⟨i, hu, rfl⟩
    have hi := us_lt hu
    have e : t.getD i (-1) = t[i] := by rw [List.getD_eq_getElem?_getD, List.getElem?_eq_getElem hi]; rfl
    exact ⟨⟨i, hi, e.symm⟩, by rw [us] at hu; exact hu⟩
def empty (n : Nat) : List Int := List.replicate n (-1)
theorem us_empty (n i : Nat) : us (empty n) i = false := by
  unfold us empty
  rw [List.getD_eq_getElem?_getD, List.getElem?_replicate]
  split <;> simp
theorem keys_empty (n : Nat) : keys (empty n) = [] := by
  unfold keys empty
  rw [List.filter_eq_nil_iff]
  intro x hx
  rw [List.mem_replicate] at hx
  simp [hx.2]
theorem many_keys (t : List Int) : many t = (keys t).length := rfl
theorem Part.keys_le {p t : List Int} (hP : Part p t) : many p ≤ many t := by
  have key : ∀ (p t : List Int), p.length = t.length → (∀ i, us p i = true → us t i = true) → many p ≤ many t := by
    intro p
    induction p with
    | nil => intro t _ _; simp [many]
    | cons x p ih =>
      intro t hl hu
      cases t with
      | nil => simp at hl
      | cons y t =>
        have h0 := hu 0
        have := ih t (by simpa using hl) (fun i hi => by simpa [us] using hu (i + 1) (by simpa [us] using hi))
        simp [us] at h0
        simp only [many, List.filter_cons] at this ⊢
        by_cases hx : 0 ≤ x
        · have hy := h0 hx
          simp only [hx, hy, decide_true, if_true, List.length_cons]; omega
        · simp only [hx, decide_false, Bool.false_eq_true, if_false]
          split
          · simp only [List.length_cons]; omega
          · omega
  exact key p t hP.1 (fun i hi => (hP.2 i hi).1)
/-- From a part, the keys that are left in an order that makes the table. -/
theorem complete {t : List Int} (hV : Valid t) : ∀ (d : Nat) (p : List Int), Part p t → (∀ i, i < p.length → -1 ≤ p.getD i (-1)) → many t ≤ many p + d → ∃ ks, insAll p ks = t ∧ (keys p ++ ks).Perm (keys t) ∧ many p + ks.length = many t := by
  intro d
  induction d with
  | zero =>
    intro p hP hg hm
    refine ⟨[], ?_, ?_⟩
    · show p = t
      apply Classical.byContradiction
      intro hne
      have : ∃ i, us t i = true ∧ us p i = false := by
        apply Classical.byContradiction
        intro hn
        exact hne (hP.full hV.ge hg fun i hi => by
          cases h : us p i with
          | true => rfl
          | false => exact absurd ⟨i, hi, h⟩ hn)
      obtain ⟨i, hi, hpi⟩ := this
      have := Part.keys_le (hP.set hi)
      rw [many_set p i _ hpi (by rw [hP.1]; exact us_lt hi) (by simpa [us] using hi)] at this
      omega
    · have hle := hP.keys_le
      have : p = t := by
        apply Classical.byContradiction
        intro hne
        have : ∃ i, us t i = true ∧ us p i = false := by
          apply Classical.byContradiction
          intro hn
          exact hne (hP.full hV.ge hg fun i hi => by
            cases h : us p i with
            | true => rfl
            | false => exact absurd ⟨i, hi, h⟩ hn)
        obtain ⟨i, hi, hpi⟩ := this
        have := Part.keys_le (hP.set hi)
        rw [many_set p i _ hpi (by rw [hP.1]; exact us_lt hi) (by simpa [us] using hi)] at this
        omega
      rw [this]; simp
  | succ d ih =>
    intro p hP hg hm
    by_cases hx : ∃ i, us t i = true ∧ us p i = false
    · obtain ⟨i, hR⟩ := exists_ready hV hx
      have hk : 0 ≤ t.getD i (-1) := by have := hR.1; rw [us] at this; exact of_decide_eq_true this
      have hip : i < p.length := by rw [hP.1]; exact us_lt hR.1
      have e : ins p (t.getD i (-1)) = p.set i (t.getD i (-1)) := by rw [ins, ready_pos hP hR]
      obtain ⟨ks, h1, h2, h3⟩ := ih (ins p (t.getD i (-1))) (by rw [e]; exact hP.set hR.1) (by
        intro j hj
        rw [e, getD_set _ _ _ _ _ hip]
        split
        · omega
        · exact hg j (by simpa using hj)) (by rw [e, many_set p i _ hR.2.1 hip hk]; omega)
      rw [e, many_set p i _ hR.2.1 hip hk] at h3
      refine ⟨t.getD i (-1) :: ks, h1, ?_, by simp; omega⟩
      have hp := keys_set p i _ hip hR.2.1 hk
      rw [← e] at hp
      refine List.Perm.trans ?_ h2
      refine List.Perm.trans ?_ (hp.symm.append_right ks)
      rw [List.cons_append]
      exact List.perm_middle
    · have : p = t := hP.full hV.ge hg fun i hi => by
          cases h : us p i with
          | true => rfl
          | false => exact absurd ⟨i, hi, h⟩ hx
      exact ⟨[], by rw [this]; rfl, by rw [this]; simp, by rw [this]; rfl⟩
theorem Part.empty (t : List Int) : Part (empty t.length) t := ⟨by simp [TabT.empty], fun i hi => by rw [us_empty] at hi; cases hi⟩
theorem ge_empty (n : Nat) : ∀ i, i < (empty n).length → -1 ≤ (empty n).getD i (-1) := by
  intro i _
  unfold empty
  rw [List.getD_eq_getElem?_getD, List.getElem?_replicate]
  split <;> simp
theorem Valid.order {t : List Int} (hV : Valid t) : ∃ ks, insAll (empty t.length) ks = t ∧ ks.Perm (keys t) := by
  obtain ⟨ks, h1, h2, _⟩ := complete hV (many t) (empty t.length) (Part.empty t) (ge_empty _) (by omega)
  rw [keys_empty] at h2
  exact ⟨ks, h1, h2⟩
/-- TWO VALID TABLES WITH THE SAME KEYS have the same used cells and the same sum of costs. -/
theorem alike_of_keys {t u : List Int} (ht : Valid t) (hu : Valid u) (hl : t.length = u.length) (hk : (keys t).Perm (keys u)) : Alike t u ∧ total t = total u := by
  obtain ⟨ks, h1, h2⟩ := ht.order
  obtain ⟨ls, h3, h4⟩ := hu.order
  have hp : ks.Perm ls := h2.trans (hk.trans h4.symm)
  have := insAll_perm hp (empty t.length) (empty u.length) (by rw [hl]; exact Alike.refl _) (by rw [hl]) (fun k hkm => by
      have := h2.mem_iff.1 hkm
      obtain ⟨i, hi, rfl⟩ := mem_keys.1 this
      rw [us] at hi; exact of_decide_eq_true hi) (by
      have : many (empty t.length) = 0 := by rw [many_keys, keys_empty]; rfl
      rw [this, h2.length_eq, ← many_keys]
      have := many_of_free ht.free
      simp [empty]; omega)
  rw [h1, h3] at this
  exact this
/-- A key in a cell comes ahead of another one in the next cell. -/
def Bef (n i : Nat) (x y : Int) : Prop := cost n (cy n (i + 1)) y < cost n i x + 1 ∨ cost n (cy n (i + 1)) y = cost n i x + 1 ∧ y < x
structure Robin (t : List Int) : Prop where
  valid : Valid t
  sorted : ∀ i, us t i = true → us t (cy t.length (i + 1)) = true → Bef t.length i (t.getD i (-1)) (t.getD (cy t.length (i + 1)) (-1))
def Over (n i : Nat) (h o : Int) : Prop := cost n i o < cost n i h ∨ cost n i h = cost n i o ∧ o < h
instance (n i : Nat) (h o : Int) : Decidable (Over n i h o) := by unfold Over; infer_instance
def robGo : Nat → List Int → Int → Nat → List Int
  | 0, t, h, a => t.set a h
  | d + 1, t, h, a => if Over t.length a h (t.getD a (-1)) then robGo d (t.set a h) (t.getD a (-1)) (cy t.length (a + 1)) else robGo d t h (cy t.length (a + 1))
def rob (t : List Int) (k : Int) : List Int := robGo (ff t (own t.length k)) t k (own t.length k)
/-- What holds at a cell, with a key in hand. -/
structure Hand (t : List Int) (h : Int) (a : Nat) : Prop where
  robin : Robin t
  two : 2 ≤ t.length
  at_ : a < t.length
  pos : 0 ≤ h
  new : ∀ i, us t i = true → t.getD i (-1) ≠ h
  path : ∀ m, m < cost t.length a h → us t (cy t.length (own t.length h + m)) = true
  ahead : us t (cy t.length (a + t.length - 1)) = true → Bef t.length (cy t.length (a + t.length - 1)) (t.getD (cy t.length (a + t.length - 1)) (-1)) h
theorem cost_next {n a : Nat} (ha : a < n) (h2 : 2 ≤ n) (h : Int) (hc : cost n a h + 1 < n) : cost n (cy n (a + 1)) h = cost n a h + 1 := by
  have ho := own_lt (n := n) (by omega) h
  revert hc
  unfold cost cy
  generalize own n h = o at *
  split <;> split <;> split <;> omega
theorem prev_next {n a : Nat} (ha : a < n) (h2 : 2 ≤ n) : cy n (cy n (a + 1) + n - 1) = a := by unfold cy; split <;> split <;> omega
theorem next_prev {n a : Nat} (ha : a < n) (h2 : 2 ≤ n) : cy n (cy n (a + n - 1) + 1) = a := by unfold cy; split <;> split <;> omega
theorem next_ne {n a : Nat} (ha : a < n) (h2 : 2 ≤ n) : cy n (a + 1) ≠ a := by unfold cy; split <;> omega
/-- A key whose path is used up to a used cell costs less than n - 1 there. -/
theorem cost_small {t : List Int} (hF : Free t) {a : Nat} {h : Int} (ha : us t a = true) (hp : ∀ m, m < cost t.length a h → us t (cy t.length (own t.length h + m)) = true) : cost t.length a h + 1 < t.length := by
  have hal := us_lt ha
  have hc := cost_lt hal h
  have hoc := own_cost hal h
  have ho := own_lt (n := t.length) (by omega) h
  apply Classical.byContradiction
  intro hn
  obtain ⟨g, hg, hgu⟩ := hF
  have hcn : cost t.length a h = t.length - 1 := by omega
  generalize cost t.length a h = c at *
  generalize own t.length h = o at *
  -- the free cell is some o + m
  have e : cy t.length (o + cy t.length (g + t.length - o)) = g := by unfold cy; split <;> split <;> omega
  have hm : cy t.length (g + t.length - o) < t.length := cy_lt (by omega)
  rcases Nat.lt_or_ge (cy t.length (g + t.length - o)) c with h1 | h1
  · have := hp _ h1
    rw [e, hgu] at this; cases this
  · have : cy t.length (g + t.length - o) = c := by omega
    rw [this, hoc] at e
    rw [← e, ha] at hgu; cases hgu
theorem Hand.pass {t : List Int} {h : Int} {a : Nat} (H : Hand t h a) (hu : us t a = true) (hn : ¬ Over t.length a h (t.getD a (-1))) : Hand t h (cy t.length (a + 1)) := by
  have hs := cost_small H.robin.valid.free hu H.path
  have hcn := cost_next H.at_ H.two h hs
  refine ⟨H.robin, H.two, cy_lt (by have := H.at_; omega), H.pos, H.new, ?_, ?_⟩
  · intro m hm
    rw [hcn] at hm
    rcases Nat.lt_or_ge m (cost t.length a h) with h1 | h1
    · exact H.path m h1
    · have : m = cost t.length a h := by omega
      rw [this, own_cost H.at_]; exact hu
  · rw [prev_next H.at_ H.two]
    intro _
    unfold Bef
    rw [hcn]
    unfold Over at hn
    have := H.new a hu
    omega
theorem us_same {t : List Int} {a : Nat} {h : Int} (ha : us t a = true) (hh : 0 ≤ h) (i : Nat) : us (t.set a h) i = us t i := by
  rw [us_set _ _ _ _ (us_lt ha) hh]
  by_cases e : i = a
  · subst e; simp [ha]
  · simp [e]
theorem Hand.swap {t : List Int} {h : Int} {a : Nat} (H : Hand t h a) (hu : us t a = true) (ho : Over t.length a h (t.getD a (-1))) : Hand (t.set a h) (t.getD a (-1)) (cy t.length (a + 1)) := by
  have hal := H.at_
  have h2 := H.two
  have hV := H.robin.valid
  have us' : ∀ i, us (t.set a h) i = us t i := us_same hu H.pos
  have gd : ∀ i, (t.set a h).getD i (-1) = if i = a then h else t.getD i (-1) := fun i => getD_set _ _ _ _ _ hal
  have hl : (t.set a h).length = t.length := by simp
  obtain ⟨o, hoe⟩ : ∃ o, o = t.getD a (-1) := ⟨_, rfl⟩
  have hpo := hV.path a hu
  rw [← hoe] at ho hpo ⊢
  have ho0 : 0 ≤ o := by rw [us] at hu; rw [hoe]; exact of_decide_eq_true hu
  have hsm := cost_small hV.free hu hpo
  have hcn := cost_next hal h2 o hsm
  have hnew := H.new
  refine ⟨⟨⟨?_, ?_, ?_, ?_⟩, ?_⟩, by rw [hl]; exact h2, by rw [hl]; exact cy_lt (by omega), ho0, ?_, ?_, ?_⟩
  · obtain ⟨g, hg, hgu⟩ := hV.free
    exact ⟨g, by rw [hl]; exact hg, by rw [us']; exact hgu⟩
  · intro i hi
    rw [gd]
    split
    · have := H.pos; omega
    · exact hV.ge i (by rw [hl] at hi; exact hi)
  · intro i j hi hj
    rw [us'] at hi hj
    rw [gd, gd]
    split
    · split
      · intro _; omega
      · intro e; exact absurd e.symm (hnew j hj)
    · split
      · intro e; exact absurd e (hnew i hi)
      · exact hV.nodup i j hi hj
  · intro i hi m hm
    rw [us'] at hi
    rw [gd, hl] at hm ⊢
    rw [us']
    split
    · rename_i e; subst e; rw [if_pos rfl] at hm; exact H.path m hm
    · rename_i e; rw [if_neg e] at hm; exact hV.path i hi m hm
  · intro i hi hi1
    rw [us', hl] at hi1
    rw [us'] at hi
    rw [gd, gd, hl]
    have hil := us_lt hi
    by_cases e1 : i = a
    · subst e1
      rw [if_pos rfl, if_neg (next_ne hal h2)]
      have := H.robin.sorted i hi hi1
      rw [← hoe] at this
      unfold Bef at this ⊢
      unfold Over at ho
      omega
    · rw [if_neg e1]
      by_cases e2 : cy t.length (i + 1) = a
      · rw [if_pos e2]
        have ep : cy t.length (a + t.length - 1) = i := by rw [← e2]; exact prev_next hil h2
        have := H.ahead
        rw [ep] at this
        exact this hi
      · rw [if_neg e2]
        exact H.robin.sorted i hi hi1
  · intro i hi
    rw [us'] at hi
    rw [gd]
    split
    · intro e
      exact hnew a hu (by rw [← hoe, e])
    · rename_i e
      intro e'
      exact e (hV.nodup i a hi hu (by rw [e', hoe]))
  · intro m hm
    rw [hl] at hm ⊢
    rw [us']
    rw [hcn] at hm
    rcases Nat.lt_or_ge m (cost t.length a o) with h1 | h1
    · exact hpo m h1
    · have : m = cost t.length a o := by omega
      rw [this, own_cost hal]; exact hu
  · rw [hl, prev_next hal h2]
    intro _
    rw [gd, if_pos rfl]
    unfold Bef
    rw [hcn]
    unfold Over at ho
    omega
theorem Hand.put {t : List Int} {h : Int} {a : Nat} (H : Hand t h a) (hu : us t a = false) (hm : many t + 1 < t.length) : Robin (t.set a h) := by
  have hal := H.at_
  have h2 := H.two
  have hV := H.robin.valid
  have us' : ∀ i, us (t.set a h) i = (decide (i = a) || us t i) := fun i => us_set _ _ _ _ hal H.pos
  have gd : ∀ i, (t.set a h).getD i (-1) = if i = a then h else t.getD i (-1) := fun i => getD_set _ _ _ _ _ hal
  have hl : (t.set a h).length = t.length := by simp
  have ua : ∀ i, us t i = true → i ≠ a := fun i hi e => by rw [e, hu] at hi; cases hi
  refine ⟨⟨?_, ?_, ?_, ?_⟩, ?_⟩
  · exact free_of_many _ (by rw [many_set t a h hu hal H.pos, hl]; exact hm)
  · intro i hi
    rw [gd]
    split
    · have := H.pos; omega
    · exact hV.ge i (by rw [hl] at hi; exact hi)
  · intro i j hi hj
    rw [us'] at hi hj
    rw [gd, gd]
    by_cases e1 : i = a
    · by_cases e2 : j = a
      · intro _; omega
      · rw [if_pos e1, if_neg e2]
        simp [e2] at hj
        intro e; exact absurd e.symm (H.new j hj)
    · simp [e1] at hi
      by_cases e2 : j = a
      · rw [if_neg e1, if_pos e2]
        intro e; exact absurd e (H.new i hi)
      · simp [e2] at hj
        rw [if_neg e1, if_neg e2]
        exact hV.nodup i j hi hj
  · intro i hi m hm'
    rw [us'] at hi
    rw [gd, hl] at hm' ⊢
    rw [us']
    by_cases e1 : i = a
    · rw [if_pos e1] at hm' ⊢
      subst e1
      rw [H.path m hm']; simp
    · simp [e1] at hi
      rw [if_neg e1] at hm' ⊢
      rw [hV.path i hi m hm']; simp
  · intro i hi hi1
    rw [hl] at hi1 ⊢
    rw [us'] at hi hi1
    rw [gd, gd]
    by_cases e1 : i = a
    · subst e1
      have hne := next_ne hal h2
      rw [if_pos rfl, if_neg hne]
      simp [hne] at hi1
      -- the key behind has its own cell there
      have hil := us_lt hi1
      have hp := hV.path _ hi1
      have hc0 : cost t.length (cy t.length (i + 1)) (t.getD (cy t.length (i + 1)) (-1)) = 0 := by
        have hoc := own_cost hil (t.getD (cy t.length (i + 1)) (-1))
        have hlt := cost_lt hil (t.getD (cy t.length (i + 1)) (-1))
        have ho := own_lt (n := t.length) (by omega) (t.getD (cy t.length (i + 1)) (-1))
        generalize cost t.length (cy t.length (i + 1)) (t.getD (cy t.length (i + 1)) (-1)) = c at *
        generalize own t.length (t.getD (cy t.length (i + 1)) (-1)) = o at *
        rcases Nat.eq_zero_or_pos c with h0 | h0
        · exact h0
        · have := hp (c - 1) (by omega)
          have e : cy t.length (o + (c - 1)) = i := by revert hoc; unfold cy; split <;> split <;> split <;> omega
          rw [e, hu] at this; cases this
      unfold Bef
      rw [hc0]
      omega
    · simp [e1] at hi
      rw [if_neg e1]
      by_cases e2 : cy t.length (i + 1) = a
      · rw [if_pos e2]
        have ep : cy t.length (a + t.length - 1) = i := by rw [← e2]; exact prev_next (us_lt hi) h2
        have := H.ahead
        rw [ep] at this
        exact this hi
      · simp [e2] at hi1
        rw [if_neg e2]
        exact H.robin.sorted i hi hi1
theorem keys_swap : ∀ (t : List Int) (p : Nat) (k : Int), us t p = true → 0 ≤ k → (t.getD p (-1) :: keys (t.set p k)).Perm (k :: keys t)
  | [], p, k, h, _ => by have := us_lt h; simp at this
  | x :: t, 0, k, hu, hk => by
    have : 0 ≤ x := by rw [us] at hu; exact of_decide_eq_true hu
    simp only [keys, List.set_cons_zero, List.filter_cons, this, hk, decide_true, if_true, List.getD_cons_zero]
    exact List.Perm.swap _ _ _
  | x :: t, p + 1, k, hu, hk => by
    have ih := keys_swap t p k (by simpa [us] using hu) hk
    simp only [keys, List.set_cons_succ, List.filter_cons, List.getD_cons_succ] at ih ⊢
    split
    · exact (List.Perm.swap _ _ _).trans ((ih.cons x).trans (List.Perm.swap _ _ _))
    · exact ih
theorem hand_go : ∀ (d : Nat) (t : List Int) (h : Int) (a : Nat), Hand t h a → many t + 1 < t.length → d < t.length → (∀ m, m < d → us t (cy t.length (a + m)) = true) → us t (cy t.length (a + d)) = false →
    Robin (robGo d t h a) ∧ (keys (robGo d t h a)).Perm (h :: keys t) ∧ (robGo d t h a).length = t.length
  | 0, t, h, a, H, hm, hd, _, hf => by
    have e : cy t.length (a + 0) = a := by have := H.at_; unfold cy; split <;> omega
    rw [e] at hf
    exact ⟨H.put hf hm, keys_set t a h H.at_ hf H.pos, by simp [robGo]⟩
  | d + 1, t, h, a, H, hm, hd, hu, hf => by
    have hua : us t a = true := by
      have := hu 0 (by omega)
      have e : cy t.length (a + 0) = a := by have := H.at_; unfold cy; split <;> omega
      rwa [e] at this
    have sh : ∀ m, m + 1 ≤ d + 1 → cy t.length (cy t.length (a + 1) + m) = cy t.length (a + (m + 1)) := by
      intro m hmd
      have := H.at_
      unfold cy; split <;> split <;> split <;> omega
    unfold robGo
    by_cases ho : Over t.length a h (t.getD a (-1))
    · rw [if_pos ho]
      have H' := H.swap hua ho
      have us' : ∀ i, us (t.set a h) i = us t i := us_same hua H.pos
      have al : Alike (t.set a h) t := ⟨by simp, us'⟩
      have := hand_go d (t.set a h) (t.getD a (-1)) (cy t.length (a + 1)) H' (by rw [many_alike al, List.length_set]; exact hm) (by rw [List.length_set]; omega)
        (fun m hmd => by rw [List.length_set, us', sh m (by omega)]; exact hu (m + 1) (by omega)) (by rw [List.length_set, us', sh d (by omega)]; exact hf)
      exact ⟨this.1, this.2.1.trans (keys_swap t a h hua H.pos), by rw [this.2.2]; simp⟩
    · rw [if_neg ho]
      have := hand_go d t h (cy t.length (a + 1)) (H.pass hua ho) hm (by omega) (fun m hmd => by rw [sh m (by omega)]; exact hu (m + 1) (by omega)) (by rw [sh d (by omega)]; exact hf)
      exact this
theorem Robin.hand {t : List Int} (hR : Robin t) (h2 : 2 ≤ t.length) {k : Int} (hk : 0 ≤ k) (hn : k ∉ keys t) : Hand t k (own t.length k) := by
  have ho := own_lt (n := t.length) (by omega) k
  have hc : cost t.length (own t.length k) k = 0 := by unfold cost cy; split <;> omega
  refine ⟨hR, h2, ho, hk, ?_, ?_, ?_⟩
  · intro i hi e
    exact hn (mem_keys.2 ⟨i, hi, e⟩)
  · intro m hm; rw [hc] at hm; omega
  · intro _
    unfold Bef
    rw [next_prev ho h2, hc]
    omega
theorem rob_spec {t : List Int} (hR : Robin t) (h2 : 2 ≤ t.length) {k : Int} (hk : 0 ≤ k) (hn : k ∉ keys t) (hm : many t + 1 < t.length) : Robin (rob t k) ∧ (keys (rob t k)).Perm (k :: keys t) ∧ (rob t k).length = t.length := by
  have hF := hR.valid.free
  have s := ff_spec hF (own_lt (n := t.length) (by omega) k)
  exact hand_go _ t k _ (hR.hand h2 hk hn) hm s.1 s.2.2 s.2.1
theorem Valid.empty {n : Nat} (h : 0 < n) : Valid (empty n) :=
  ⟨⟨0, by simp [TabT.empty, h], us_empty n 0⟩, ge_empty n, fun i j hi => (by rw [us_empty] at hi; cases hi), fun i hi => (by rw [us_empty] at hi; cases hi)⟩
theorem Robin.empty {n : Nat} (h : 0 < n) : Robin (empty n) := ⟨Valid.empty h, fun i hi => (by rw [us_empty] at hi; cases hi)⟩
/-- How far behind the cell g a key's own cell lies. -/
def off (n g : Nat) (k : Int) : Nat := cy n (own n k + n - g)
theorem off_spec {t : List Int} (hV : Valid t) {g : Nat} (hg : g < t.length) (hgu : us t g = false) {e : Nat} (he : e < t.length) (hu : us t (cy t.length (g + e)) = true) :
    1 ≤ off t.length g (t.getD (cy t.length (g + e)) (-1)) ∧ off t.length g (t.getD (cy t.length (g + e)) (-1)) + cost t.length (cy t.length (g + e)) (t.getD (cy t.length (g + e)) (-1)) = e ∧
      ∀ m, off t.length g (t.getD (cy t.length (g + e)) (-1)) ≤ m → m ≤ e → us t (cy t.length (g + m)) = true := by
  have hil := us_lt hu
  have hp := hV.path _ hu
  have ho := own_lt (n := t.length) (by omega) (t.getD (cy t.length (g + e)) (-1))
  have hoc := own_cost hil (t.getD (cy t.length (g + e)) (-1))
  have hcl := cost_lt hil (t.getD (cy t.length (g + e)) (-1))
  unfold off
  generalize cost t.length (cy t.length (g + e)) (t.getD (cy t.length (g + e)) (-1)) = c at *
  generalize own t.length (t.getD (cy t.length (g + e)) (-1)) = o at *
  have he1 : e ≠ 0 := by
    intro h0
    have : cy t.length (g + e) = g := by rw [h0]; unfold cy; split <;> omega
    rw [this, hgu] at hu; cases hu
  have hce : c < e := by
    rcases Nat.lt_or_ge c e with h | h
    · exact h
    · have := hp (c - e) (by omega)
      have e1 : cy t.length (o + (c - e)) = g := by revert hoc; unfold cy; split <;> split <;> split <;> omega
      rw [e1, hgu] at this; cases this
  have hof : cy t.length (o + t.length - g) = e - c := by revert hoc; unfold cy; split <;> split <;> split <;> omega
  rw [hof]
  refine ⟨by omega, by omega, fun m h1 h2 => ?_⟩
  rcases Nat.lt_or_ge m e with h3 | h3
  · have := hp (m - (e - c)) (by omega)
    have e2 : cy t.length (o + (m - (e - c))) = cy t.length (g + m) := by revert hoc; unfold cy; split <;> split <;> split <;> split <;> omega
    rwa [e2] at this
  · have : m = e := by omega
    rw [this]; exact hu
/-- Along used cells, keys come in one order. -/
def Lt (n g : Nat) (x y : Int) : Prop := off n g x < off n g y ∨ off n g x = off n g y ∧ y < x
theorem Lt.trans {n g : Nat} {x y z : Int} (h : Lt n g x y) (k : Lt n g y z) : Lt n g x z := by unfold Lt at *; omega
theorem Robin.next {t : List Int} (hR : Robin t) {g : Nat} (hg : g < t.length) (hgu : us t g = false) {e : Nat} (he : e + 1 < t.length) (h1 : us t (cy t.length (g + e)) = true) (h2 : us t (cy t.length (g + (e + 1))) = true) :
    Lt t.length g (t.getD (cy t.length (g + e)) (-1)) (t.getD (cy t.length (g + (e + 1))) (-1)) := by
  have s1 := off_spec hR.valid hg hgu (by omega) h1
  have s2 := off_spec hR.valid hg hgu he h2
  have en : cy t.length (cy t.length (g + e) + 1) = cy t.length (g + (e + 1)) := by unfold cy; split <;> split <;> split <;> omega
  have := hR.sorted _ h1
  rw [en] at this
  have := this h2
  unfold Bef at this
  rw [en] at this
  unfold Lt
  omega
end TabT
namespace Go.Proofs.Ytjhpnihlmnlehaa.G
open Go.RowKit Go.Proofs.YtjhpnihlmnlehaaW.PrintWords Go.Proofs.YtjhpnihlmnlehaaW.PrintLast Go.Proofs.YtjhpnihlmnlehaaW.PrintMore
set_option linter.unusedSectionVars false
theorem t_g0 {t : List Int} {i : Nat} (h : i < t.length) : t.getD i (-1) = t.getD i 0 := by
  rw [List.getD_eq_getElem?_getD, List.getD_eq_getElem?_getD, List.getElem?_eq_getElem h]; rfl
theorem cy_self {n a : Nat} (h : a < n) : TabT.cy n (a + 0) = a := by unfold TabT.cy; split <;> omega
theorem cy_shift {n a d m : Nat} (ha : a < n) (hd : d + 1 < n) (hm : m ≤ d) : TabT.cy n (TabT.cy n (a + 1) + m) = TabT.cy n (a + (m + 1)) := by
  unfold TabT.cy; split <;> split <;> split <;> omega
theorem step_arith {n a : Nat} (ha : a < n) (hn : n ≤ 1000) : Int.tmod (wrap64 ((a : Int) + 1)) (n : Int) = ((TabT.cy n (a + 1) : Nat) : Int) := by
  rw [wrap_next (n := n) ha (by omega), ← TabT.cy_mod (by omega)]
  rfl
theorem own_arith (key n : Nat) : Int.tmod (key : Int) (n : Int) = ((TabT.own n (key : Int) : Nat) : Int) := by
  unfold TabT.own
  show ((key % n : Nat) : Int) = (((key : Int) % (n : Int)).toNat : Int)
  rw [show ((key : Int) % (n : Int)) = ((key % n : Nat) : Int) from rfl, Int.toNat_natCast]
theorem us_val {t : List Int} {i : Nat} (h : TabT.us t i = true) : 0 ≤ t.getD i 0 := by
  have hi := TabT.us_lt h
  rw [TabT.us, decide_eq_true_eq, t_g0 hi] at h
  exact h
theorem us_free {t : List Int} {i : Nat} (hi : i < t.length) (h : TabT.us t i = false) : t.getD i 0 < 0 := by
  rw [TabT.us, decide_eq_false_iff_not, t_g0 hi] at h
  omega
/-- What the cells of a table may hold. -/
def Cells (t : List Int) : Prop := ∀ i, i < t.length → -1 ≤ t.getD i 0 ∧ t.getD i 0 ≤ 999
theorem Cells.set {t : List Int} (h : Cells t) {p : Nat} {k : Int} (hp : p < t.length) (h0 : 0 ≤ k) (h9 : k ≤ 999) : Cells (t.set p k) := by
  intro i hi
  rw [List.length_set] at hi
  rw [TabT.getD_set _ _ _ _ _ hp]
  split
  · omega
  · exact h i hi
theorem Cells.empty (n : Nat) : Cells (TabT.empty n) := by
  intro i hi
  have hi2 : i < n := by simpa [TabT.empty] using hi
  unfold TabT.empty
  rw [List.getD_eq_getElem?_getD, List.getElem?_replicate, if_pos hi2]
  simp
theorem Cells.ins {t : List Int} (h : Cells t) (hF : TabT.Free t) {k : Int} (h0 : 0 ≤ k) (h9 : k ≤ 999) : Cells (TabT.ins t k) := h.set (TabT.pos_lt hF k) h0 h9
theorem ins_len (t : List Int) (k : Int) : (TabT.ins t k).length = t.length := by simp [TabT.ins]
end Go.Proofs.Ytjhpnihlmnlehaa.G
namespace Go.Proofs.Ytjhpnihlmnlehaa.G
open Go.RowKit Go.Proofs.YtjhpnihlmnlehaaW.PrintWords Go.Proofs.YtjhpnihlmnlehaaW.PrintLast Go.Proofs.YtjhpnihlmnlehaaW.PrintMore
set_option linter.unusedSectionVars false
section
variable (t : List Int) (key : Nat) (hn : 1 ≤ t.length) (hn2 : t.length ≤ 1000) (hc : Cells t) (hk : key ≤ 999)
include hn hn2 hc hk
theorem sp_ins : ∀ (d a : Nat), a < t.length → d < t.length → (∀ m, m < d → TabT.us t (TabT.cy t.length (a + m)) = true) → TabT.us t (TabT.cy t.length (a + d)) = false →
    Ev (fun k => spec_prInsert.l0 k t (key : Int) (a : Int)) (((TabT.cy t.length (a + d) : Nat) : Int), t.set (TabT.cy t.length (a + d)) (key : Int)) := by
  intro d
  induction d with
  | zero =>
    intro a ha hd _ hf
    rw [cy_self ha] at hf ⊢
    have h1 := us_free ha hf
    have h2 := hc a ha
    refine Ev.end_ fun k => ?_
    rw [spec_prInsert.l0, if_pos (by omega), if_pos (by omega), rd_nat, if_pos (by omega), Int.toNat_natCast]
  | succ d ih =>
    intro a ha hd hu hf
    have h0 := hu 0 (by omega)
    rw [cy_self ha] at h0
    have h1 := us_val h0
    have hlt := TabT.cy_lt (n := t.length) (i := a + 1) (by omega)
    have := ih (TabT.cy t.length (a + 1)) hlt (by omega) (fun m hm => by rw [cy_shift ha hd (by omega)]; exact hu (m + 1) (by omega)) (by rw [cy_shift ha hd (Nat.le_refl _)]; exact hf)
    rw [cy_shift ha hd (Nat.le_refl _)] at this
    refine Ev.one this fun k => ?_
    rw [spec_prInsert.l0, if_pos (by omega), if_pos (by omega), rd_nat, if_neg (by omega), if_neg (by omega), step_arith ha hn2]
theorem im_ins : ∀ (d a : Nat), a < t.length → d < t.length → (∀ m, m < d → TabT.us t (TabT.cy t.length (a + m)) = true) → TabT.us t (TabT.cy t.length (a + d)) = false →
    Ev (fun k => impl_Table_insert.l0 k (key : Int) (a : Int) t) (((TabT.cy t.length (a + d) : Nat) : Int), t.set (TabT.cy t.length (a + d)) (key : Int)) := by
  intro d
  induction d with
  | zero =>
    intro a ha hd _ hf
    rw [cy_self ha] at hf ⊢
    have h1 := us_free ha hf
    have h2 := hc a ha
    refine Ev.end_ fun k => ?_
    rw [impl_Table_insert.l0, if_pos (by omega), if_pos (by omega), rd_nat, if_neg (by omega), Int.toNat_natCast]
  | succ d ih =>
    intro a ha hd hu hf
    have h0 := hu 0 (by omega)
    rw [cy_self ha] at h0
    have h1 := us_val h0
    have hlt := TabT.cy_lt (n := t.length) (i := a + 1) (by omega)
    have := ih (TabT.cy t.length (a + 1)) hlt (by omega) (fun m hm => by rw [cy_shift ha hd (by omega)]; exact hu (m + 1) (by omega)) (by rw [cy_shift ha hd (Nat.le_refl _)]; exact hf)
    rw [cy_shift ha hd (Nat.le_refl _)] at this
    refine Ev.one this fun k => ?_
    rw [impl_Table_insert.l0, if_pos (by omega), if_pos (by omega), rd_nat, if_pos (by omega), if_neg (by omega), step_arith ha hn2]
theorem prInsert_nat (hF : TabT.Free t) : Ev (fun k => spec_prInsert.f k t (key : Int)) (((TabT.pos t (key : Int) : Nat) : Int), TabT.ins t (key : Int)) := by
  unfold spec_prInsert.f
  have ho := TabT.own_lt (n := t.length) (by omega) (key : Int)
  have s := TabT.ff_spec hF ho
  have := sp_ins t key hn hn2 hc hk _ _ ho s.1 s.2.2 s.2.1
  have e : ((t.length : Int) = 0) = False := eq_false (by omega)
  simp only [e, if_false, own_arith]
  exact this
theorem tInsert_nat (hF : TabT.Free t) : Ev (fun k => impl_Table_insert.f k t (key : Int)) (((TabT.pos t (key : Int) : Nat) : Int), TabT.ins t (key : Int)) := by
  unfold impl_Table_insert.f
  have ho := TabT.own_lt (n := t.length) (by omega) (key : Int)
  have s := TabT.ff_spec hF ho
  have := im_ins t key hn hn2 hc hk _ _ ho s.1 s.2.2 s.2.1
  have e : ((t.length : Int) = 0) = False := eq_false (by omega)
  simp only [e, if_false, own_arith]
  exact this
end
end Go.Proofs.Ytjhpnihlmnlehaa.G
namespace Go.Proofs.Ytjhpnihlmnlehaa.G
open Go.RowKit Go.Proofs.YtjhpnihlmnlehaaW.PrintWords Go.Proofs.YtjhpnihlmnlehaaW.PrintLast Go.Proofs.YtjhpnihlmnlehaaW.PrintMore
set_option linter.unusedSectionVars false
theorem prInsert_ev (t : List Int) (key : Int) (hn : 1 ≤ t.length) (hn2 : t.length ≤ 1000) (hc : Cells t) (hF : TabT.Free t) (h0 : 0 ≤ key) (h9 : key ≤ 999) : Ev (fun k => spec_prInsert.f k t key) (((TabT.pos t key : Nat) : Int), TabT.ins t key) := by
  obtain ⟨m, rfl⟩ : ∃ m : Nat, key = m := ⟨key.toNat, by omega⟩
  exact prInsert_nat t m hn hn2 hc (by omega) hF
theorem tInsert_ev (t : List Int) (key : Int) (hn : 1 ≤ t.length) (hn2 : t.length ≤ 1000) (hc : Cells t) (hF : TabT.Free t) (h0 : 0 ≤ key) (h9 : key ≤ 999) : Ev (fun k => impl_Table_insert.f k t key) (((TabT.pos t key : Nat) : Int), TabT.ins t key) := by
  obtain ⟨m, rfl⟩ : ∃ m : Nat, key = m := ⟨key.toNat, by omega⟩
  exact tInsert_nat t m hn hn2 hc (by omega) hF
theorem t_prEmpty_ev (n : Nat) (hn : n ≤ 1000) : Ev (fun k => spec_prEmpty.f k (n : Int)) (TabT.empty n) := by
  unfold spec_prEmpty.f TabT.empty
  refine Ev.up0 n (fun q => List.replicate q (-1 : Int)) (fun k s q => spec_prEmpty.l0 k (n : Int) q s) (List.replicate n (-1)) (fun q hq h => Ev.one h fun k => ?_) (Ev.end_ fun k => ?_)
  · rw [spec_prEmpty.l0, if_pos (by omega), if_pos (by simp; omega), wrap_next (n := n) hq (by omega), List.replicate_succ']
  · rw [spec_prEmpty.l0, if_neg (by omega)]
theorem t_empty_eq (n : Nat) (hn : n ≤ 1000) : impl_empty.f (n : Int) = some (TabT.empty n) := by
  unfold impl_empty.f slices_Repeat_int_int.f TabT.empty
  rw [if_pos ⟨rfl, by omega, by omega⟩]
  rfl
theorem many_empty (n : Nat) : TabT.many (TabT.empty n) = 0 := by
  rw [TabT.many_keys, TabT.keys_empty]; rfl
theorem insAll_snoc (t : List Int) (ks : List Int) (k : Int) : TabT.insAll t (ks ++ [k]) = TabT.ins (TabT.insAll t ks) k := by
  simp [TabT.insAll, List.foldl_append]
/-- What holds when q of the keys are in. -/
structure Filled (n : Nat) (t : List Int) (q : Nat) : Prop where
  len_ : t.length = n
  cells : Cells t
  many_ : TabT.many t = q
theorem Filled.free {n q : Nat} {t : List Int} (h : Filled n t q) (hq : q < n) : TabT.Free t := TabT.free_of_many t (by rw [h.many_, h.len_]; exact hq)
theorem filled {n : Nat} (ks : List Int) (hl : ks.length < n) (hk : ∀ x ∈ ks, 0 ≤ x ∧ x ≤ 999) : ∀ q, q ≤ ks.length → Filled n (TabT.insAll (TabT.empty n) (ks.take q)) q := by
  intro q
  induction q with
  | zero => intro _; exact ⟨by simp [TabT.insAll, TabT.empty], Cells.empty n, many_empty n⟩
  | succ q ih =>
    intro hq
    have F := ih (by omega)
    have hfr := F.free (by omega)
    have hm := hk (ks.getD q 0) (by rw [List.getD_eq_getElem?_getD, List.getElem?_eq_getElem (by omega : q < ks.length)]; exact List.getElem_mem _)
    rw [take_succ_getD (by omega), insAll_snoc]
    exact ⟨by rw [ins_len, F.len_], F.cells.ins hfr hm.1 hm.2, by rw [TabT.many_ins hfr hm.1, F.many_]⟩
end Go.Proofs.Ytjhpnihlmnlehaa.G
namespace Go.Proofs.Ytjhpnihlmnlehaa.G
open Go.RowKit Go.Proofs.YtjhpnihlmnlehaaW.PrintWords Go.Proofs.YtjhpnihlmnlehaaW.PrintLast Go.Proofs.YtjhpnihlmnlehaaW.PrintMore
set_option linter.unusedSectionVars false
section
variable (n : Nat) (ks : List Int) (h2 : 2 ≤ n) (h12 : n ≤ 12) (hl : ks.length < n) (hk : ∀ x ∈ ks, 0 ≤ x ∧ x ≤ 999)
include h2 h12 hl hk
theorem prOf_ev : Ev (fun k => spec_prOf.f k (n : Int) ks) (TabT.insAll (TabT.empty n) ks) := by
  unfold spec_prOf.f
  refine Ev.bind (t_prEmpty_ev n (by omega)) ?_
  have := Ev.up0 ks.length (fun q => TabT.insAll (TabT.empty n) (ks.take q)) (fun k s q => spec_prOf.l0 k ks (ks.length : Int) q s) (TabT.insAll (TabT.empty n) ks) (fun q hq h => ?_) (Ev.end_ fun k => ?_)
  · simpa [TabT.insAll] using this
  · have F := filled ks hl hk q (by omega)
    have hm := hk (ks.getD q 0) (by rw [List.getD_eq_getElem?_getD, List.getElem?_eq_getElem hq]; exact List.getElem_mem hq)
    rw [take_succ_getD hq, insAll_snoc] at h
    refine Ev.step (f := fun k => (spec_prInsert.f k (TabT.insAll (TabT.empty n) (ks.take q)) (ks.getD q 0)).bind fun bt => (spec_prOf.l0 k ks (ks.length : Int) ((q + 1 : Nat) : Int) bt.2)) (fun k => by
      rw [spec_prOf.l0, if_pos (by omega), if_pos (by omega), if_pos (by omega), rd_nat, wrap_next (n := ks.length) hq (by omega)]) ?_
    exact Ev.bind (prInsert_ev _ _ (by rw [F.len_]; omega) (by rw [F.len_]; omega) F.cells (F.free (by omega)) hm.1 hm.2) h
  · rw [spec_prOf.l0, if_neg (by omega), List.take_length]
theorem tableOf_ev : Ev (fun k => impl_TableOf.l0 k ks (ks.length : Int) 0 (TabT.empty n)) (TabT.insAll (TabT.empty n) ks, true) := by
  have := Ev.up0 ks.length (fun q => TabT.insAll (TabT.empty n) (ks.take q)) (fun k s q => impl_TableOf.l0 k ks (ks.length : Int) q s) (TabT.insAll (TabT.empty n) ks, true) (fun q hq h => ?_) (Ev.end_ fun k => ?_)
  · simpa [TabT.insAll] using this
  · have F := filled ks hl hk q (by omega)
    have hm := hk (ks.getD q 0) (by rw [List.getD_eq_getElem?_getD, List.getElem?_eq_getElem hq]; exact List.getElem_mem hq)
    rw [take_succ_getD hq, insAll_snoc] at h
    refine Ev.step (f := fun k => (impl_Table_insert.f k (TabT.insAll (TabT.empty n) (ks.take q)) (ks.getD q 0)).bind fun bt => (impl_TableOf.l0 k ks (ks.length : Int) ((q + 1 : Nat) : Int) bt.2)) (fun k => by
      rw [impl_TableOf.l0, if_pos (by omega), if_pos (by omega), if_pos (by omega), rd_nat, wrap_next (n := ks.length) hq (by omega)]) ?_
    exact Ev.bind (tInsert_ev _ _ (by rw [F.len_]; omega) (by rw [F.len_]; omega) F.cells (F.free (by omega)) hm.1 hm.2) h
  · rw [impl_TableOf.l0, if_neg (by omega), List.take_length]
end
end Go.Proofs.Ytjhpnihlmnlehaa.G
namespace Go.Proofs.Ytjhpnihlmnlehaa.G
open Go.RowKit Go.Proofs.YtjhpnihlmnlehaaW.PrintWords Go.Proofs.YtjhpnihlmnlehaaW.PrintLast Go.Proofs.YtjhpnihlmnlehaaW.PrintMore
set_option linter.unusedSectionVars false
theorem costN_cost {n key a : Nat} (ha : a < n) : costN n key a = TabT.cost n a (key : Int) := by
  have hm := Nat.mod_lt key (show 0 < n by omega)
  have ho : TabT.own n (key : Int) = key % n := by
    unfold TabT.own
    rw [show ((key : Int) % (n : Int)) = ((key % n : Nat) : Int) from rfl, Int.toNat_natCast]
  unfold costN TabT.cost
  rw [ho, TabT.cy_mod (by omega)]
theorem robGo_cells : ∀ (d : Nat) (t : List Int) (h : Int) (a : Nat), Cells t → a < t.length → 0 ≤ h → h ≤ 999 → d < t.length → (∀ m, m < d → TabT.us t (TabT.cy t.length (a + m)) = true) → Cells (TabT.robGo d t h a)
  | 0, t, h, a, hc, ha, h0, h9, _, _ => hc.set ha h0 h9
  | d + 1, t, h, a, hc, ha, h0, h9, hd, hu => by
    have hua := hu 0 (by omega)
    rw [cy_self ha] at hua
    have ho := us_val hua
    have ho9 := hc a ha
    have hlt := TabT.cy_lt (n := t.length) (i := a + 1) (by omega)
    rw [TabT.robGo]
    split
    · refine robGo_cells d _ _ _ (hc.set ha h0 h9) (by rw [List.length_set]; exact hlt) (by rw [t_g0 ha]; exact ho) (by rw [t_g0 ha]; exact ho9.2) (by rw [List.length_set]; omega) (fun m hm => ?_)
      rw [List.length_set, TabT.us_same hua h0, cy_shift ha hd (by omega)]
      exact hu (m + 1) (by omega)
    · refine robGo_cells d _ _ _ hc hlt h0 h9 (by omega) (fun m hm => ?_)
      rw [cy_shift ha hd (by omega)]
      exact hu (m + 1) (by omega)
end Go.Proofs.Ytjhpnihlmnlehaa.G
namespace Go.Proofs.Ytjhpnihlmnlehaa.G
open Go.RowKit Go.Proofs.YtjhpnihlmnlehaaW.PrintWords Go.Proofs.YtjhpnihlmnlehaaW.PrintLast Go.Proofs.YtjhpnihlmnlehaaW.PrintMore
set_option linter.unusedSectionVars false
section
variable (n : Nat) (h2 : 2 ≤ n) (h12 : n ≤ 12) (ks : List Int) (q : Nat)
include h2 h12
theorem sp_rob (r : List Int) : ∀ (d : Nat) (t : List Int) (h : Int) (a : Nat), t.length = n → Cells t → 0 ≤ h → h ≤ 999 → a < n → d < n → (∀ m, m < d → TabT.us t (TabT.cy n (a + m)) = true) → TabT.us t (TabT.cy n (a + d)) = false →
    Ev (fun k => spec_prRobin.l0 k (n : Int) ks (ks.length : Int) (wrap64 ((q : Int) + 1)) (TabT.robGo d t h a)) r → Ev (fun k => spec_prRobin.l1 k (n : Int) h (a : Int) ks (ks.length : Int) (q : Int) t) r := by
  intro d
  induction d with
  | zero =>
    intro t h a hl hc h0 h9 ha hd _ hf hr
    rw [cy_self ha] at hf
    have e1 := us_free (by omega) hf
    have e2 := hc a (by omega)
    refine Ev.one hr fun k => ?_
    rw [spec_prRobin.l1, if_pos (by omega), if_pos (by omega), rd_nat, if_pos (by omega), Int.toNat_natCast]
    rfl
  | succ d ih =>
    intro t h a hl hc h0 h9 ha hd hu hf hr
    have hua := hu 0 (by omega)
    rw [cy_self ha] at hua
    have ho := us_val hua
    have ho9 := hc a (by omega)
    have hlt := TabT.cy_lt (n := n) (i := a + 1) (by omega)
    obtain ⟨kh, rfl⟩ : ∃ m : Nat, h = m := ⟨h.toNat, by omega⟩
    obtain ⟨ko, hko⟩ : ∃ m : Nat, t.getD a 0 = m := ⟨(t.getD a 0).toNat, by omega⟩
    rw [TabT.robGo, hl, t_g0 (by omega : a < t.length), hko] at hr
    have c1 := prCost_eq (n := n) (key := kh) (at_ := a) (by omega) (by omega) (by omega) ha
    have c2 := prCost_eq (n := n) (key := ko) (at_ := a) (by omega) (by omega) (by omega) ha
    rw [costN_cost ha] at c1 c2
    by_cases hov : TabT.Over n a (kh : Int) (ko : Int)
    · rw [if_pos hov] at hr
      have := ih (t.set a (kh : Int)) (ko : Int) (TabT.cy n (a + 1)) (by rw [List.length_set]; exact hl) (hc.set (by omega) h0 h9) (by omega) (by omega) hlt (by omega)
        (fun m hm => by rw [TabT.us_same hua h0, cy_shift ha hd (by omega)]; exact hu (m + 1) (by omega)) (by rw [TabT.us_same hua h0, cy_shift ha hd (Nat.le_refl _)]; exact hf) hr
      refine Ev.one this fun k => ?_
      rw [spec_prRobin.l1, if_pos (by omega), if_pos (by omega), rd_nat, if_neg (by omega), hko, c1, Option.bind_some, c2, Option.bind_some, Int.toNat_natCast, step_arith ha (by omega)]
      unfold TabT.Over at hov
      rcases hov with hov | ⟨hov, hov2⟩
      · rw [if_pos (by omega), if_neg (by omega)]
      · rw [if_neg (by omega), if_pos (by omega), if_pos (by omega), if_neg (by omega)]
    · rw [if_neg hov] at hr
      have := ih t (kh : Int) (TabT.cy n (a + 1)) hl hc h0 h9 hlt (by omega)
        (fun m hm => by rw [cy_shift ha hd (by omega)]; exact hu (m + 1) (by omega)) (by rw [cy_shift ha hd (Nat.le_refl _)]; exact hf) hr
      refine Ev.one this fun k => ?_
      rw [spec_prRobin.l1, if_pos (by omega), if_pos (by omega), rd_nat, if_neg (by omega), hko, c1, Option.bind_some, c2, Option.bind_some, Int.toNat_natCast, step_arith ha (by omega)]
      unfold TabT.Over at hov
      rw [if_neg (by omega)]
      by_cases e : ((TabT.cost n a (kh : Int) : Nat) : Int) = ((TabT.cost n a (ko : Int) : Nat) : Int)
      · rw [if_pos e, if_neg (by omega), if_neg (by omega)]
      · rw [if_neg e, if_neg (by omega)]
end
end Go.Proofs.Ytjhpnihlmnlehaa.G
namespace Go.Proofs.Ytjhpnihlmnlehaa.G
open Go.RowKit Go.Proofs.YtjhpnihlmnlehaaW.PrintWords Go.Proofs.YtjhpnihlmnlehaaW.PrintLast Go.Proofs.YtjhpnihlmnlehaaW.PrintMore
set_option linter.unusedSectionVars false
def robAll (t : List Int) (ks : List Int) : List Int := ks.foldl TabT.rob t
theorem robAll_snoc (t : List Int) (ks : List Int) (k : Int) : robAll t (ks ++ [k]) = TabT.rob (robAll t ks) k := by
  simp [robAll, List.foldl_append]
structure RFilled (n : Nat) (t : List Int) (ks : List Int) : Prop where
  len_ : t.length = n
  cells : Cells t
  robin : TabT.Robin t
  keys_ : (TabT.keys t).Perm ks
theorem RFilled.many_ {n : Nat} {t ks : List Int} (h : RFilled n t ks) : TabT.many t = ks.length := by
  rw [TabT.many_keys]; exact h.keys_.length_eq
theorem RFilled.hand {n : Nat} {t ks : List Int} (h : RFilled n t ks) (h2 : 2 ≤ n) {k : Int} (h0 : 0 ≤ k) (hn : k ∉ ks) : TabT.Hand t k (TabT.own n k) := by
  have := h.robin.hand (by rw [h.len_]; exact h2) h0 (fun e => hn (h.keys_.mem_iff.mp e))
  rwa [h.len_] at this
theorem rfilled {n : Nat} (h2 : 2 ≤ n) (ks : List Int) (hl : ks.length < n) (hk : ∀ x ∈ ks, 0 ≤ x ∧ x ≤ 999) (hnd : ks.Nodup) : ∀ q, q ≤ ks.length → RFilled n (robAll (TabT.empty n) (ks.take q)) (ks.take q) := by
  intro q
  induction q with
  | zero =>
    intro _
    refine ⟨by simp [robAll, TabT.empty], Cells.empty n, TabT.Robin.empty (by omega), ?_⟩
    show (TabT.keys (TabT.empty n)).Perm []
    rw [TabT.keys_empty]
  | succ q ih =>
    intro hq
    have F := ih (by omega)
    have hm := hk (ks.getD q 0) (by rw [List.getD_eq_getElem?_getD, List.getElem?_eq_getElem (by omega : q < ks.length)]; exact List.getElem_mem _)
    have hnew : ks.getD q 0 ∉ ks.take q := by
      intro hmem
      obtain ⟨i, hi, e⟩ := List.mem_take_iff_getElem.mp hmem
      unfold List.Nodup at hnd
      rw [List.pairwise_iff_getElem] at hnd
      rw [List.getD_eq_getElem?_getD, List.getElem?_eq_getElem (by omega : q < ks.length)] at e
      exact hnd i q (by omega) (by omega) (by omega) e
    have hmany : TabT.many (robAll (TabT.empty n) (ks.take q)) = q := by rw [F.many_, List.length_take]; omega
    have hF := F.robin.valid.free
    have s := TabT.ff_spec hF (TabT.own_lt (n := (robAll (TabT.empty n) (ks.take q)).length) (by rw [F.len_]; omega) (ks.getD q 0))
    have R := TabT.rob_spec F.robin (by rw [F.len_]; exact h2) hm.1 (fun e => hnew (F.keys_.mem_iff.mp e)) (by rw [hmany, F.len_]; omega)
    rw [take_succ_getD (by omega), robAll_snoc]
    refine ⟨by rw [R.2.2, F.len_], ?_, R.1, ?_⟩
    · exact robGo_cells _ _ _ _ F.cells (TabT.own_lt (by rw [F.len_]; omega) _) hm.1 hm.2 s.1 s.2.2
    · exact R.2.1.trans ((F.keys_.cons _).trans (List.perm_append_comm (l₁ := [ks.getD q 0])))
end Go.Proofs.Ytjhpnihlmnlehaa.G
namespace Go.Proofs.Ytjhpnihlmnlehaa.G
open Go.RowKit Go.Proofs.YtjhpnihlmnlehaaW.PrintWords Go.Proofs.YtjhpnihlmnlehaaW.PrintLast Go.Proofs.YtjhpnihlmnlehaaW.PrintMore
set_option linter.unusedSectionVars false
section
variable (n : Nat) (ks : List Int) (h2 : 2 ≤ n) (h12 : n ≤ 12) (hl : ks.length < n) (hk : ∀ x ∈ ks, 0 ≤ x ∧ x ≤ 999) (hnd : ks.Nodup)
include h2 h12 hl hk hnd
theorem prRobin_ev : Ev (fun k => spec_prRobin.f k (n : Int) ks) (robAll (TabT.empty n) ks) := by
  unfold spec_prRobin.f
  refine Ev.bind (t_prEmpty_ev n (by omega)) ?_
  have := Ev.up0 ks.length (fun q => robAll (TabT.empty n) (ks.take q)) (fun k s q => spec_prRobin.l0 k (n : Int) ks (ks.length : Int) q s) (robAll (TabT.empty n) ks) (fun q hq h => ?_) (Ev.end_ fun k => ?_)
  · simpa [robAll] using this
  · have F := rfilled h2 ks hl hk hnd q (by omega)
    have hm := hk (ks.getD q 0) (by rw [List.getD_eq_getElem?_getD, List.getElem?_eq_getElem hq]; exact List.getElem_mem hq)
    have hF := F.robin.valid.free
    have ho := TabT.own_lt (n := n) (by omega) (ks.getD q 0)
    have s := TabT.ff_spec hF (by rw [F.len_]; exact ho)
    rw [F.len_] at s
    rw [take_succ_getD hq, robAll_snoc, TabT.rob, F.len_] at h
    have := sp_rob n h2 h12 ks q (robAll (TabT.empty n) ks) _ _ (ks.getD q 0) (TabT.own n (ks.getD q 0)) F.len_ F.cells hm.1 hm.2 ho s.1 s.2.2 s.2.1 (by rw [wrap_next (n := ks.length) hq (by omega)]; exact h)
    refine Ev.one this fun k => ?_
    obtain ⟨m, hmk⟩ : ∃ m : Nat, ks.getD q 0 = m := ⟨(ks.getD q 0).toNat, by omega⟩
    rw [spec_prRobin.l0, if_pos (by omega), if_pos (by omega), if_pos (by omega), if_neg (by omega), rd_nat, hmk, own_arith]
  · rw [spec_prRobin.l0, if_neg (by omega), List.take_length]
end
end Go.Proofs.Ytjhpnihlmnlehaa.G
namespace TabT
theorem Valid.ins {t : List Int} (hV : Valid t) {k : Int} (hk : 0 ≤ k) (hn : k ∉ keys t) (hm : many t + 1 < t.length) : Valid (ins t k) := by
  have hF := hV.free
  have hp := pos_lt hF k
  have hpf := pos_free hF k
  have hlen : (TabT.ins t k).length = t.length := by simp [TabT.ins]
  have hg : ∀ i, (TabT.ins t k).getD i (-1) = if i = pos t k then k else t.getD i (-1) := fun i => getD_set _ _ _ _ _ hp
  have hu : ∀ i, us (TabT.ins t k) i = (decide (i = pos t k) || us t i) := fun i => us_set _ _ _ _ hp hk
  refine ⟨?_, ?_, ?_, ?_⟩
  · exact free_of_many _ (by rw [many_ins hF hk, hlen]; exact hm)
  · intro i hi
    rw [hg]; split
    · omega
    · exact hV.ge i (by rw [← hlen]; exact hi)
  · intro i j hi hj e
    rw [hu, Bool.or_eq_true, decide_eq_true_eq] at hi hj
    rw [hg, hg] at e
    by_cases c1 : i = pos t k <;> by_cases c2 : j = pos t k
    · omega
    · rw [if_pos c1, if_neg c2] at e
      exact absurd (mem_keys.2 ⟨j, hj.resolve_left c2, e.symm⟩) hn
    · rw [if_neg c1, if_pos c2] at e
      exact absurd (mem_keys.2 ⟨i, hi.resolve_left c1, e⟩) hn
    · rw [if_neg c1, if_neg c2] at e
      exact hV.nodup i j (hi.resolve_left c1) (hj.resolve_left c2) e
  · intro i hi m hm'
    rw [hu, Bool.or_eq_true, decide_eq_true_eq] at hi
    rw [hlen, hg] at hm'
    rw [hlen, hg, hu, Bool.or_eq_true, decide_eq_true_eq]
    right
    by_cases c : i = pos t k
    · rw [if_pos c] at hm' ⊢
      have s := ff_spec hF (own_lt (n := t.length) (by omega) k)
      have hc : cost t.length (pos t k) k = ff t (own t.length k) := cost_own s.1 k
      rw [c, hc] at hm'
      exact s.2.2 m hm'
    · rw [if_neg c] at hm' ⊢
      exact hV.path i (hi.resolve_left c) m hm'
end TabT
namespace Go.Proofs.Ytjhpnihlmnlehaa.G
open Go.RowKit Go.Proofs.YtjhpnihlmnlehaaW.PrintWords Go.Proofs.YtjhpnihlmnlehaaW.PrintLast Go.Proofs.YtjhpnihlmnlehaaW.PrintMore
set_option linter.unusedSectionVars false
theorem wayF_iff (l : List Int) (key : Nat) : ∀ (c s : Nat), wayF l key s c = true ↔ ∀ m, m < c → 0 ≤ l.getD ((key + s + m) % l.length) 0
  | 0, s => by simp [wayF]
  | c + 1, s => by
    rw [wayF, Bool.and_eq_true, decide_eq_true_eq, wayF_iff l key c (s + 1)]
    constructor
    · rintro ⟨h0, h⟩ m hm
      cases m with
      | zero => exact h0
      | succ m => have := h m (by omega); rwa [show key + (s + 1) + m = key + s + (m + 1) by omega] at this
    · intro h
      exact ⟨h 0 (by omega), fun m hm => by have := h (m + 1) (by omega); rwa [show key + s + (m + 1) = key + (s + 1) + m by omega] at this⟩
theorem okFrom_iff (l : List Int) : ∀ (d i : Nat), okFrom l d i = true ↔ ∀ j, i ≤ j → j < i + d → okCell l j = true
  | 0, i => by
    rw [okFrom]
    exact ⟨fun _ j h1 h2 => by omega, fun _ => rfl⟩
  | d + 1, i => by
    rw [okFrom, Bool.and_eq_true, okFrom_iff l d (i + 1)]
    constructor
    · rintro ⟨h0, h⟩ j h1 h2
      by_cases e : j = i
      · rw [e]; exact h0
      · exact h j (by omega) (by omega)
    · intro h
      exact ⟨h i (Nat.le_refl _) (by omega), fun j h1 h2 => h j (by omega) (by omega)⟩
theorem own_nat (key n : Nat) : TabT.own n (key : Int) = key % n := rfl
theorem way_cell {n key m : Nat} (hn : 0 < n) (hm : m < n) : (key + m) % n = TabT.cy n (TabT.own n (key : Int) + m) := by
  have := Nat.mod_lt key hn
  rw [own_nat, ← TabT.cy_mod (by omega), Nat.mod_add_mod]
theorem us_of {l : List Int} {i : Nat} (hi : i < l.length) : TabT.us l i = decide (0 ≤ l.getD i 0) := by
  rw [TabT.us, t_g0 hi]
theorem tbl_cells {l : List Int} (h : tblB l = true) : Cells l := (tblB_parts h).2.2.1
theorem tbl_valid {l : List Int} (h : tblB l = true) : TabT.Valid l := by
  obtain ⟨h1, h2, h3, h4⟩ := tblB_parts h
  have hok : okFrom l l.length 0 = true := by
    unfold tblB at h
    simp only [Bool.and_eq_true] at h
    exact h.2
  have hc := (okFrom_iff l l.length 0).1 hok
  refine ⟨?_, ?_, ?_, ?_⟩
  · obtain ⟨i, hi, e⟩ := List.getElem_of_mem h4
    exact ⟨i, hi, by rw [us_of hi, getD_get hi, e]; rfl⟩
  · intro i hi
    rw [t_g0 hi]
    exact (h3 i hi).1
  · intro i j hi hj e
    have li := TabT.us_lt hi
    have lj := TabT.us_lt hj
    rw [t_g0 li, t_g0 lj] at e
    rcases Nat.lt_trichotomy i j with c | c | c
    · exact absurd e (tbl_dist h i j c lj (us_val hi))
    · exact c
    · exact absurd e.symm (tbl_dist h j i c li (us_val hj))
  · intro i hi m hm
    have li := TabT.us_lt hi
    have hv := us_val hi
    have := hc i (Nat.zero_le _) (by omega)
    obtain ⟨key, hkey⟩ : ∃ key : Nat, l.getD i 0 = key := ⟨(l.getD i 0).toNat, by omega⟩
    rw [t_g0 li, hkey] at hm ⊢
    rw [okCell, decide_eq_false (by omega), Bool.false_or, Bool.and_eq_true, hkey, Int.toNat_natCast, costN_cost li] at this
    have hw := (wayF_iff l key _ 0).1 this.2 m hm
    have hm2 := TabT.cost_lt li (key : Int)
    rw [Nat.add_zero, way_cell (by omega) (by omega)] at hw
    rw [us_of (TabT.cy_lt (by have := TabT.own_lt (n := l.length) (by omega) (key : Int); omega))]
    exact decide_eq_true hw
theorem valid_tbl {l : List Int} (h1 : 2 ≤ l.length) (h2 : l.length ≤ 12) (hc : Cells l) (hV : TabT.Valid l) : tblB l = true := by
  unfold tblB
  simp only [Bool.and_eq_true, decide_eq_true_eq]
  refine ⟨⟨⟨by omega, ?_⟩, ?_⟩, ?_⟩
  · rw [List.all_eq_true]
    intro x hx
    obtain ⟨i, hi, e⟩ := List.getElem_of_mem hx
    have := hc i hi
    rw [getD_get hi, e] at this
    exact decide_eq_true this
  · obtain ⟨i, hi, hu⟩ := hV.free
    have := hc i hi
    rw [us_of hi, decide_eq_false_iff_not] at hu
    have e : l.getD i 0 = -1 := by omega
    rw [← e]
    exact getD_mem hi
  · rw [okFrom_iff]
    intro j _ hj
    rw [Nat.zero_add] at hj
    by_cases c : l.getD j 0 < 0
    · rw [okCell, decide_eq_true c, Bool.true_or]
    · have hu : TabT.us l j = true := by rw [us_of hj]; exact decide_eq_true (by omega)
      obtain ⟨key, hkey⟩ : ∃ key : Nat, l.getD j 0 = key := ⟨(l.getD j 0).toNat, by omega⟩
      rw [okCell, decide_eq_false c, Bool.false_or, Bool.and_eq_true, hkey, Int.toNat_natCast, costN_cost hj]
      constructor
      · rw [Bool.not_eq_true', decide_eq_false_iff_not]
        intro hm
        obtain ⟨i, hi, e⟩ := List.getElem_of_mem hm
        rw [List.length_take] at hi
        rw [List.getElem_take] at e
        have hi2 : i < l.length := by omega
        have ei : l.getD i 0 = key := by rw [getD_get hi2]; exact e
        have := hV.nodup i j (by rw [us_of hi2, ei]; exact decide_eq_true (by omega)) hu (by rw [t_g0 hi2, t_g0 hj, ei, hkey])
        omega
      · rw [wayF_iff]
        intro m hm
        have hm2 := TabT.cost_lt hj (key : Int)
        have := hV.path j hu m (by rw [t_g0 hj, hkey]; exact hm)
        rw [t_g0 hj, hkey, us_of (TabT.cy_lt (by have := TabT.own_lt (n := l.length) (by omega) (key : Int); omega))] at this
        rw [Nat.add_zero, way_cell (by omega) (by omega)]
        exact of_decide_eq_true this
theorem idxs_alike {t u : List Int} (h : TabT.Alike t u) : ∀ q, q ≤ t.length → idxsTo posP t q = idxsTo posP u q
  | 0, _ => rfl
  | q + 1, hq => by
    have e := h.2 q
    rw [us_of (by omega), us_of (by have := h.1; omega)] at e
    rw [idxsTo, idxsTo, idxs_alike h q (by omega), show posP (t.getD q 0) = posP (u.getD q 0) by rw [posP, posP]; exact e]
theorem used_alike {t u : List Int} (h : TabT.Alike t u) : idxsTo posP t t.length = idxsTo posP u u.length := by rw [idxs_alike h _ (Nat.le_refl _), h.1]
theorem costs_len (l : List Int) : (TabT.costs l).length = l.length := by simp [TabT.costs]
theorem cosTo_sum (l : List Int) : ∀ q, q ≤ l.length → (cosTo l q).sum = ((((TabT.costs l).take q).sum : Nat) : Int)
  | 0, _ => by simp [cosTo, idxsTo]
  | q + 1, hq => by
    have e : (TabT.costs l).take (q + 1) = (TabT.costs l).take q ++ [(TabT.costs l).getD q 0] := by
      have hl := costs_len l
      rw [List.take_add_one, List.getElem?_eq_getElem (by omega), Option.toList_some, List.getD_eq_getElem?_getD, List.getElem?_eq_getElem (by omega)]
      rfl
    rw [cosTo_succ, List.sum_append, cosTo_sum l q (by omega), e, List.sum_append, List.sum_singleton, TabT.getD_costs l q (by omega), t_g0 (by omega), Int.natCast_add]
    congr 1
    unfold posP
    by_cases c : 0 ≤ l.getD q 0
    · obtain ⟨key, hkey⟩ : ∃ key : Nat, l.getD q 0 = key := ⟨(l.getD q 0).toNat, by omega⟩
      rw [if_pos (decide_eq_true c), if_pos c, List.sum_singleton, cellC, Int.toNat_natCast, hkey, Int.toNat_natCast, costN_cost (by omega)]
    · rw [if_neg (by rw [decide_eq_false c]; decide), if_neg c]
      rfl
theorem costsV_sum (l : List Int) : (costsV l).sum = ((TabT.total l : Nat) : Int) := by
  rw [costsV, cosTo_sum l _ (Nat.le_refl _), TabT.total, ← costs_len l, List.take_length]
theorem keysZ_keys (l : List Int) : (keysZ l).Perm (TabT.keys l) := keysZ_perm l
end Go.Proofs.Ytjhpnihlmnlehaa.G
namespace Go.Proofs.Ytjhpnihlmnlehaa.G
open Go.RowKit Go.Proofs.YtjhpnihlmnlehaaW.PrintWords Go.Proofs.YtjhpnihlmnlehaaW.PrintLast Go.Proofs.YtjhpnihlmnlehaaW.PrintMore
def Bytes (l : List Int) : Prop := ∀ x ∈ l, 0 ≤ x ∧ x ≤ 255
theorem bytes_of {l : List Int} (h : ∀ x ∈ l, (Lit.int .u8 x).wf = true) : Bytes l := by
  intro x hx
  have h2 := h x hx
  simp only [Lit.wf, Bool.and_eq_true, decide_eq_true_eq] at h2
  have e1 : IntKind.u8.min = 0 := by decide
  have e2 : IntKind.u8.max = 255 := by decide
  rw [e1, e2] at h2
  exact h2
theorem Bytes.get {l : List Int} (h : Bytes l) (j : Nat) : 0 ≤ l.getD j 0 ∧ l.getD j 0 ≤ 255 := by
  rcases Nat.lt_or_ge j l.length with hj | hj
  · exact h _ (by rw [List.getD_eq_getElem?_getD, List.getElem?_eq_getElem hj]; exact List.getElem_mem hj)
  · rw [List.getD_eq_getElem?_getD, List.getElem?_eq_none hj]; simp
theorem and255 (x : Int) : 0 ≤ Go.bits .and .u64 x 255 ∧ Go.bits .and .u64 x 255 ≤ 255 := by
  obtain ⟨a, ha⟩ : ∃ a : BitVec 64, a = BitVec.ofInt 64 x := ⟨_, rfl⟩
  have e : Go.bits .and .u64 x 255 = IntKind.u64.wrap ((BitVec.ofInt 64 x &&& BitVec.ofInt 64 255).toNat : Int) := rfl
  have hle : (BitVec.ofInt 64 x &&& BitVec.ofInt 64 255).toNat ≤ 255 := by
    rw [BitVec.toNat_and]
    exact Nat.le_trans Nat.and_le_right (by decide)
  rw [e, IntKind.wrap_u64]
  omega
theorem next_ok {l : List Int} (hb : Bytes l) (p s : Int) (h0 : 0 ≤ p) (h1 : p ≤ 1000000000000000000) : ∃ v s', spec_l1Cur_next.f l p s = some (v, p + 1, s') ∧ 0 ≤ v ∧ v ≤ 255 := by
  have hw : wrap64 (p + 1) = p + 1 := wrap_id (by omega) (by omega)
  have hr : 0 ≤ rd l p ∧ rd l p ≤ 255 := hb.get _
  unfold spec_l1Cur_next.f
  rw [hw]
  by_cases c1 : p < (l.length : Int)
  · rw [if_pos c1, if_pos h0]
    by_cases c2 : p + 1 ≤ (l.length : Int)
    · rw [if_pos c2]
      exact ⟨_, _, rfl, by rw [wrap_id (by omega) (by omega)]; exact hr⟩
    · omega
  · rw [if_neg c1]
    rw [if_neg (by omega)]
    refine ⟨_, _, rfl, ?_⟩
    have := and255 ((IntKind.u64.wrap ((IntKind.u64.wrap (IntKind.u64.wrap (s * 6364136223846793005))) + 1442695040888963407)) / 1099511627776)
    rw [wrap_id (by omega) (by omega)]
    exact this
theorem tmod_ok {v a : Int} (hv : 0 ≤ v) (ha : 0 < a) : 0 ≤ Int.tmod v a ∧ Int.tmod v a < a := by
  rw [Int.tmod_eq_emod_of_nonneg hv]
  exact ⟨Int.emod_nonneg _ (by omega), Int.emod_lt_of_pos _ ha⟩
theorem pick_ok {l : List Int} (hb : Bytes l) (p s a : Int) (h0 : 0 ≤ p) (h1 : p ≤ 100000000000000000) : ∃ r p' s', spec_l1Cur_pick.f l p s a = some (r, p', s') ∧ 0 ≤ r ∧ (r < a ∨ r = 0) ∧ p ≤ p' ∧ p' ≤ p + 2 := by
  unfold spec_l1Cur_pick.f
  by_cases c1 : a ≤ 1
  · rw [if_pos c1]
    exact ⟨0, p, s, rfl, by omega, Or.inr rfl, by omega, by omega⟩
  · rw [if_neg c1]
    obtain ⟨v, s1, e1, b1, b2⟩ := next_ok hb p s h0 (by omega)
    rw [e1, Option.bind_some]
    by_cases c2 : a > 200
    · rw [if_pos c2]
      obtain ⟨v2, s2, e2, b3, b4⟩ := next_ok hb (p + 1) s1 (by omega) (by omega)
      simp only [e2, Option.bind_some]
      rw [if_neg (by omega)]
      have hw : wrap64 (wrap64 (v * 256) + v2) = v * 256 + v2 := by rw [wrap_id (x := v * 256) (by omega) (by omega), wrap_id (by omega) (by omega)]
      have := tmod_ok (v := v * 256 + v2) (a := a) (by omega) (by omega)
      rw [hw]
      exact ⟨_, _, _, rfl, this.1, Or.inl this.2, by omega, by omega⟩
    · rw [if_neg c2, if_neg (by omega)]
      have := tmod_ok (v := v) (a := a) (by omega) (by omega)
      exact ⟨_, _, _, rfl, this.1, Or.inl this.2, by show p ≤ p + 1; omega, by show p + 1 ≤ p + 2; omega⟩
theorem among_ok {l : List Int} (hb : Bytes l) (p s : Int) (q : List Int) (hq : 0 < q.length) (h0 : 0 ≤ p) (h1 : p ≤ 100000000000000000) : ∃ v p' s', spec_l1Cur_among.f l p s q = some (v, p', s') ∧ p ≤ p' ∧ p' ≤ p + 2 := by
  obtain ⟨r, p', s', e, b1, b2, b3, b4⟩ := pick_ok hb p s (q.length : Int) h0 h1
  unfold spec_l1Cur_among.f
  rw [e, Option.bind_some]
  simp only [b1, if_true]
  rw [if_pos (by omega)]
  exact ⟨_, _, _, rfl, b3, b4⟩
theorem one_ok {l : List Int} (hb : Bytes l) (p s a : Int) (h0 : 0 ≤ p) (h1 : p ≤ 100000000000000000) : ∃ v p' s', spec_l1Cur_one.f l p s a = some (v, p', s') ∧ p ≤ p' ∧ p' ≤ p + 2 := by
  obtain ⟨r, p', s', e, b1, b2, b3, b4⟩ := pick_ok hb p s a h0 h1
  unfold spec_l1Cur_one.f
  rw [e, Option.bind_some]
  exact ⟨_, _, _, rfl, b3, b4⟩
theorem big_eq (a b : List Int) : ∃ r, laws_big.f a b = some r := by
  unfold laws_big.f
  split
  · exact ⟨_, rfl⟩
  · exact ⟨_, rfl⟩
theorem keys_l0 {l : List Int} (hb : Bytes l) (S : Int) : ∀ (d : Nat) (x : List Int) (p s : Int), x.length + d ≤ 20 → 0 ≤ p → p + 8 * d ≤ 1000000000000000 →
    ∃ size out p' s', Ev (fun k => spec_l1Cur_keys.l0 k S x (d : Int) l p s) (size, out, p', s') ∧ out.length ≤ 21 ∧ 0 ≤ p' ∧ p' ≤ p + 8 * d + 8 := by
  intro d
  induction d with
  | zero =>
    intro x p s hx h0 h1
    obtain ⟨r, p1, s1, e1, b1, b2, b3, b4⟩ := pick_ok hb p s 24 h0 (by omega)
    by_cases c0 : r = 0
    · obtain ⟨v, p2, s2, e2, b5, b6⟩ := among_ok hb p1 s1 [-1, 999, 1000] (by simp) (by omega) (by omega)
      refine ⟨S, x ++ [v], p2, s2, Ev.end_ fun k => ?_, by simp; omega, by omega, by omega⟩
      rw [spec_l1Cur_keys.l0, if_neg (by omega), e1, Option.bind_some]
      simp only [c0, if_true]
      rw [e2, Option.bind_some, if_pos (by omega)]
    · by_cases c1 : r = 1
      · obtain ⟨v, p2, s2, e2, b5, b6⟩ := among_ok hb p1 s1 [0, 1, -1, 12, 13] (by simp) (by omega) (by omega)
        refine ⟨v, x, p2, s2, Ev.end_ fun k => ?_, by omega, by omega, by omega⟩
        rw [spec_l1Cur_keys.l0, if_neg (by omega), e1, Option.bind_some]
        subst c1
        rw [if_neg (show ¬ (1 : Int) = 0 by decide), if_pos rfl, e2, Option.bind_some]
      · refine ⟨S, x, p1, s1, Ev.end_ fun k => ?_, by omega, by omega, by omega⟩
        rw [spec_l1Cur_keys.l0, if_neg (by omega), e1, Option.bind_some]
        simp only [c0, c1, if_false]
  | succ d ih =>
    intro x p s hx h0 h1
    obtain ⟨v, p1, s1, e1, b1, b2⟩ := among_ok hb p s [12, 40, 1000] (by simp) h0 (by omega)
    obtain ⟨r, p2, s2, e2, b3, b4, b5, b6⟩ := pick_ok hb p1 s1 v (by omega) (by omega)
    have hw : wrap64 (((d + 1 : Nat) : Int) - 1) = (d : Int) := by rw [wrap_id (by omega) (by omega)]; omega
    by_cases c : r ∈ x
    · obtain ⟨b, p3, s3, e3, b7, b8⟩ := one_ok hb p2 s2 20 (by omega) (by omega)
      cases b with
      | true =>
        obtain ⟨size, out, p', s', he, ho, q1, q2⟩ := ih (x ++ [r]) p3 s3 (by simp; omega) (by omega) (by omega)
        refine ⟨size, out, p', s', ?_, ho, q1, by omega⟩
        refine Ev.step (f := fun k => (spec_l1Has.f k x r).bind fun t571 => (if t571 = true then (spec_l1Cur_keys.l0 k S (x ++ [r]) (d : Int) l p3 s3) else (spec_l1Cur_keys.l0 k S (x ++ [r]) (d : Int) l p2 s2))) (fun k => by
          rw [spec_l1Cur_keys.l0, if_pos (by omega), e1, Option.bind_some, e2, Option.bind_some]
          simp only [e3, Option.bind_some, if_true, hw]
          rw [if_pos (by omega), if_pos (by omega)]) ?_
        refine Ev.bind (l1Has_ev x r (by omega)) ?_
        simp only [c, decide_true, if_true]
        exact he
      | false =>
        obtain ⟨size, out, p', s', he, ho, q1, q2⟩ := ih x p3 s3 (by omega) (by omega) (by omega)
        refine ⟨size, out, p', s', ?_, ho, q1, by omega⟩
        refine Ev.step (f := fun k => (spec_l1Has.f k x r).bind fun t571 => (if t571 = true then (spec_l1Cur_keys.l0 k S x (d : Int) l p3 s3) else (spec_l1Cur_keys.l0 k S (x ++ [r]) (d : Int) l p2 s2))) (fun k => by
          rw [spec_l1Cur_keys.l0, if_pos (by omega), e1, Option.bind_some, e2, Option.bind_some]
          simp only [e3, Option.bind_some, Bool.false_eq_true, if_false, hw]
          rw [if_pos (by omega)]) ?_
        refine Ev.bind (l1Has_ev x r (by omega)) ?_
        simp only [c, decide_true, if_true]
        exact he
    · obtain ⟨size, out, p', s', he, ho, q1, q2⟩ := ih (x ++ [r]) p2 s2 (by simp; omega) (by omega) (by omega)
      refine ⟨size, out, p', s', ?_, ho, q1, by omega⟩
      obtain ⟨b, p3, s3, e3, b7, b8⟩ := one_ok hb p2 s2 20 (by omega) (by omega)
      refine Ev.step (f := fun k => (spec_l1Has.f k x r).bind fun t571 => (if t571 = true then (if b = true then (spec_l1Cur_keys.l0 k S (x ++ [r]) (d : Int) l p3 s3) else (spec_l1Cur_keys.l0 k S x (d : Int) l p3 s3)) else (spec_l1Cur_keys.l0 k S (x ++ [r]) (d : Int) l p2 s2))) (fun k => by
        rw [spec_l1Cur_keys.l0, if_pos (by omega), e1, Option.bind_some, e2, Option.bind_some]
        simp only [e3, Option.bind_some, hw, show x.length < 17592186044416 by omega, if_true]) ?_
      refine Ev.bind (l1Has_ev x r (by omega)) ?_
      simp only [c, decide_false, Bool.false_eq_true, if_false]
      exact he
theorem keys_ok {l : List Int} (hb : Bytes l) (p s : Int) (h0 : 0 ≤ p) (h1 : p ≤ 10000000000) : ∃ size out p' s', Ev (fun k => spec_l1Cur_keys.f k l p s) (size, out, p', s') ∧ out.length ≤ 21 ∧ 0 ≤ p' ∧ p' ≤ p + 200 := by
  have many : ∃ v p1 s1, spec_l1Cur_among.f l p s [4, 7, 11] = some (v, p1, s1) ∧ v ≤ 11 ∧ p ≤ p1 ∧ p1 ≤ p + 2 := by
    obtain ⟨r, p1, s1, e1, b1, b2, b3, b4⟩ := pick_ok hb p s 3 h0 (by omega)
    refine ⟨rd [4, 7, 11] r, p1, s1, ?_, ?_, b3, b4⟩
    · unfold spec_l1Cur_among.f
      rw [show (([4, 7, 11] : List Int).length : Int) = 3 by rfl, e1, Option.bind_some]
      simp only [b1, if_true]
      rw [if_pos (by omega)]
    · obtain ⟨q, rfl⟩ : ∃ q : Nat, r = q := ⟨r.toNat, by omega⟩
      have : q = 0 ∨ q = 1 ∨ q = 2 := by omega
      rcases this with rfl | rfl | rfl <;> decide
  obtain ⟨v, p1, s1, e1, hv, b1, b2⟩ := many
  obtain ⟨r, p2, s2, e2, b3, b4, b5, b6⟩ := pick_ok hb p1 s1 v (by omega) (by omega)
  have hw1 : wrap64 (2 + r) = 2 + r := wrap_id (by omega) (by omega)
  have hw2 : wrap64 (2 + r + 1) = 2 + r + 1 := wrap_id (by omega) (by omega)
  obtain ⟨n, p3, s3, e3, b7, b8, b9, b10⟩ := pick_ok hb p2 s2 (2 + r + 1) (by omega) (by omega)
  obtain ⟨size, out, p', s', he, ho, q1, q2⟩ := keys_l0 hb (2 + r) n.toNat [] p3 s3 (by simp; omega) (by omega) (by omega)
  refine ⟨size, out, p', s', ?_, ho, q1, by omega⟩
  unfold spec_l1Cur_keys.f
  rw [show (n.toNat : Int) = n by omega] at he
  simp only [e1, Option.bind_some, e2, hw1, hw2, e3]
  exact he
theorem table_j0 {l : List Int} (hb : Bytes l) (n : Nat) (h2 : 2 ≤ n) (t : List Int) (ht : t.length = n) (p s : Int) (h0 : 0 ≤ p) (h1 : p ≤ 100000000000) : ∃ out p' s', Ev (fun k => spec_l1Cur_table.j0 k (n : Int) l p s t) (out, p', s') ∧ out.length = n ∧ 0 ≤ p' ∧ p' ≤ p + 10 := by
  obtain ⟨b, p1, s1, e1, b1, b2⟩ := one_ok hb p s 12 h0 (by omega)
  cases b with
  | true =>
    obtain ⟨r, p2, s2, e2, b3, b4, b5, b6⟩ := pick_ok hb p1 s1 (n : Int) (by omega) (by omega)
    obtain ⟨v, p3, s3, e3, b7, b8⟩ := among_ok hb p2 s2 [-1, -2, 0, 5, 1000] (by simp) (by omega) (by omega)
    refine ⟨t.set r.toNat v, p3, s3, Ev.end_ fun k => ?_, by simpa using ht, by omega, by omega⟩
    rw [spec_l1Cur_table.j0, e1, Option.bind_some]
    simp only [if_true, e2, Option.bind_some, e3]
    rw [if_pos b3, if_pos (by omega)]
  | false =>
    refine ⟨t, p1, s1, Ev.end_ fun k => ?_, ht, by omega, by omega⟩
    rw [spec_l1Cur_table.j0, e1, Option.bind_some]
    simp only [Bool.false_eq_true, if_false]
theorem table_ok {l : List Int} (hb : Bytes l) (p s : Int) (h0 : 0 ≤ p) (h1 : p ≤ 10000000000) : ∃ out p' s', Ev (fun k => spec_l1Cur_table.f k l p s) (out, p', s') ∧ out.length ≤ 21 ∧ 0 ≤ p' ∧ p' ≤ p + 300 := by
  obtain ⟨size, ks, p1, s1, he, ho, q1, q2⟩ := keys_ok hb p s h0 h1
  cases hv : keysB ks size with
  | false =>
    refine ⟨ks, p1, s1, ?_, ho, q1, by omega⟩
    unfold spec_l1Cur_table.f
    refine Ev.bind he ?_
    refine Ev.bind (prKeys_ev ks size (by omega)) ?_
    simp only [hv, Bool.false_eq_true, if_false]
    exact Ev.now _
  | true =>
    obtain ⟨h1', h2', h3', h4', h5'⟩ := keysB_parts hv
    obtain ⟨n, rfl⟩ : ∃ n : Nat, size = n := ⟨size.toNat, by omega⟩
    obtain ⟨b, p2, s2, e2, b1, b2⟩ := one_ok hb p1 s1 3 q1 (by omega)
    have F1 := filled (n := n) ks (by omega) h4' ks.length (Nat.le_refl _)
    have F2 := rfilled (n := n) (by omega) ks (by omega) h4' h5' ks.length (Nat.le_refl _)
    rw [List.take_length] at F1 F2
    obtain ⟨o1, p3, s3, f1, g1, g2, g3⟩ := table_j0 hb n (by omega) _ F1.len_ p2 s2 (by omega) (by omega)
    obtain ⟨o2, p4, s4, f2, g4, g5, g6⟩ := table_j0 hb n (by omega) _ F2.len_ p2 s2 (by omega) (by omega)
    cases b with
    | true =>
      refine ⟨o2, p4, s4, ?_, by omega, g5, by omega⟩
      unfold spec_l1Cur_table.f
      refine Ev.bind he ?_
      refine Ev.bind (prKeys_ev ks (n : Int) (by omega)) ?_
      simp only [hv, if_true]
      refine Ev.bind (prOf_ev n ks (by omega) (by omega) (by omega) h4') ?_
      simp only [e2, Option.bind_some, if_true]
      refine Ev.bind (prRobin_ev n ks (by omega) (by omega) (by omega) h4' h5') ?_
      exact f2
    | false =>
      refine ⟨o1, p3, s3, ?_, by omega, g2, by omega⟩
      unfold spec_l1Cur_table.f
      refine Ev.bind he ?_
      refine Ev.bind (prKeys_ev ks (n : Int) (by omega)) ?_
      simp only [hv, if_true]
      refine Ev.bind (prOf_ev n ks (by omega) (by omega) (by omega) h4') ?_
      simp only [e2, Option.bind_some, Bool.false_eq_true, if_false]
      exact f1
theorem t_jSame_ev (a b : List Int) (hn : a.length ≤ 1000000) : Ev (fun k => laws_jSame.f k a b) (decide (a = b)) := by
  unfold laws_jSame.f
  by_cases h : a.length = b.length
  · have e : ((a.length : Int) = (b.length : Int)) = True := eq_true (by omega)
    simp only [e, if_true]
    have := same_loop laws_jSame.l0 (fun k x0 x1 x12 x13 => by rw [laws_jSame.l0]) a b h hn a.length 0 (by omega)
    simpa using this
  · have e : ((a.length : Int) = (b.length : Int)) = False := eq_false (by omega)
    simp only [e, if_false]
    rw [decide_eq_false (fun e2 => h (by rw [e2]))]
    exact Ev.now _
theorem t_jTable_ev (a b : List Int) (hn : a.length ≤ 1000000) : Ev (fun k => laws_jTable.f k a b) (decide (a = b)) := by
  unfold laws_jTable.f
  exact Ev.bind (t_jSame_ev a b hn) (Ev.now _)
end Go.Proofs.Ytjhpnihlmnlehaa.G
namespace Go.Proofs.Ytjhpnihlmnlehaa.Pure
open Go.RowKit Go.Proofs.Ytjhpnihlmnlehaa.G Go.Proofs.YtjhpnihlmnlehaaW.PrintWords Go.Proofs.YtjhpnihlmnlehaaW.PrintLast
theorem place_l0 (l : List Int) (a : Int) (hn : l.length ≤ 4611686018427387904) : ∀ (d i : Nat), i + d = l.length → Ev (fun k => spec_prPlace.l0 k a l (l.length : Int) i) (ixF l a d i) := by
  intro d
  induction d with
  | zero =>
    intro i hd
    exact Ev.end_ fun k => by rw [spec_prPlace.l0, if_neg (by omega)]; rfl
  | succ d ih =>
    intro i hd
    rw [ixF]
    by_cases c : l.getD i 0 = a
    · rw [if_pos c]
      refine Ev.end_ fun k => ?_
      rw [spec_prPlace.l0, if_pos (by omega), if_pos (by omega), if_pos (by omega), rd_nat, if_pos c]
    · rw [if_neg c]
      refine Ev.one (ih (i + 1) (by omega)) fun k => ?_
      rw [spec_prPlace.l0, if_pos (by omega), if_pos (by omega), if_pos (by omega), rd_nat, if_neg c, wrap_next (n := l.length) (by omega) hn]
theorem place_ev (l : List Int) (a : Int) (hn : l.length ≤ 4611686018427387904) : Ev (fun k => spec_prPlace.f k l a) (ixF l a l.length 0) := by
  unfold spec_prPlace.f
  exact place_l0 l a hn l.length 0 (by omega)
def fkV (l : List Int) (a : Int) : Int × Int × Bool := if tblB l = true then (if 0 ≤ a ∧ a ≤ 999 then (if a ∈ l then (ixF l a l.length 0, ((costN l.length a.toNat (ixF l a l.length 0).toNat : Nat) : Int), true) else (0, 0, false)) else (0, 0, false)) else (0, 0, false)
theorem isKey_eq (a : Int) : impl_isKey.f a = some (decide (0 ≤ a ∧ a ≤ 999)) := by unfold impl_isKey.f; rw [between_eq]; rfl
theorem tbl_len {l : List Int} (h : tblB l = true) : 2 ≤ l.length ∧ l.length ≤ 12 := by
  unfold tblB at h
  simp only [Bool.and_eq_true, decide_eq_true_eq] at h
  omega
theorem impl_FindKey_ev (l : List Int) (a : Int) (hn : l.length ≤ 4611686018427387904) : Ev (fun k => impl_FindKey.f k l a) (fkV l a) := by
  unfold impl_FindKey.f fkV
  refine Ev.bind (isTable_ev l hn) ?_
  have stop : Ev (fun k => impl_FindKey.j0 k a true l) (0, 0, false) := Ev.end_ fun k => by rw [impl_FindKey.j0, if_pos rfl]
  cases h : tblB l with
  | false => simp only [Bool.false_eq_true, if_false]; exact stop
  | true =>
    have hl := tbl_len h
    simp only [if_true, isKey_eq, Option.bind_some, decide_eq_true_eq]
    by_cases ha : 0 ≤ a ∧ a ≤ 999
    · simp only [ha, and_self, if_true]
      refine Ev.bind (containsI_ev l a hn) ?_
      rcases ixF_spec l a l.length 0 (by omega) with ⟨h1, h2⟩ | ⟨j, h1, h2, h3, h4⟩
      · rw [List.drop_zero] at h2
        rw [decide_eq_false h2, if_neg h2]
        exact stop
      · rw [List.drop_zero] at h4
        obtain ⟨key, rfl⟩ : ∃ key : Nat, a = key := ⟨a.toNat, by omega⟩
        rw [if_pos h4, h1, decide_eq_true h4, Int.toNat_natCast, Int.toNat_natCast]
        refine Ev.step (f := fun k => (slices_Index_int_int.f k l (key : Int)).bind fun t229 => ((impl_Table_cost.f l t229).bind fun t230 => (some (t229, t230, true)))) (fun k => by rw [impl_FindKey.j0, if_neg (by decide)]) ?_
        refine Ev.bind (index_ev l (key : Int) hn) ?_
        rw [h1, tcost_eq (by omega) (by omega) h2 h3]
        exact Ev.now _
    · simp only [ha, if_false]; exact stop
end Go.Proofs.Ytjhpnihlmnlehaa.Pure
namespace Go.Proofs.Ytjhpnihlmnlehaa.Pure
open Go.RowKit Go.Proofs.Ytjhpnihlmnlehaa.G Go.Proofs.YtjhpnihlmnlehaaW.PrintWords Go.Proofs.YtjhpnihlmnlehaaW.PrintLast Go.Proofs.YtjhpnihlmnlehaaW.PrintMore
set_option linter.unusedSectionVars false
/-- What a key costs where it is found. -/
def keyC (l : List Int) (a : Int) : Int := ((costN l.length a.toNat (ixF l a l.length 0).toNat : Nat) : Int)
theorem ix_of {l : List Int} (h : tblB l = true) {i : Nat} (hi : i < l.length) (h0 : 0 ≤ l.getD i 0) : ixF l (l.getD i 0) l.length 0 = (i : Int) := by
  rcases ixF_spec l (l.getD i 0) l.length 0 (by omega) with ⟨_, h2⟩ | ⟨j, h1, h2, h3, h4⟩
  · rw [List.drop_zero] at h2
    exact absurd (getD_mem hi) h2
  · rw [h1]
    rcases Nat.lt_trichotomy i j with c | c | c
    · exact absurd h3.symm (tbl_dist h i j c h2 h0)
    · rw [c]
    · exact absurd h3 (tbl_dist h j i c hi (by rw [h3]; exact h0))
theorem keyC_range {l : List Int} (hn : 2 ≤ l.length) (a : Int) : 0 ≤ keyC l a ∧ keyC l a < (l.length : Int) := by
  have := costN_lt (n := l.length) (key := a.toNat) (at_ := (ixF l a l.length 0).toNat) (by omega)
  unfold keyC
  omega
/-- A key of a table is found: its cell, and that its cost leads there. -/
theorem found {l : List Int} (h : tblB l = true) {a : Int} (ha : a ∈ TabT.keys l) : ∃ j : Nat, fkV l a = ((j : Int), keyC l a, true) ∧ j < l.length ∧ l.getD j 0 = a ∧ Int.tmod (wrap64 (a + keyC l a)) (l.length : Int) = (j : Int) := by
  obtain ⟨h1, h2, h3, h4⟩ := tblB_parts h
  unfold TabT.keys at ha
  obtain ⟨hm, h0⟩ := List.mem_filter.1 ha
  have h0 := of_decide_eq_true h0
  obtain ⟨i, hi, e⟩ := List.getElem_of_mem hm
  have ei : l.getD i 0 = a := by rw [getD_get hi]; exact e
  have hr := h3 i hi
  have hix := ix_of h hi (by rw [ei]; exact h0)
  rw [ei] at hix hr
  obtain ⟨key, rfl⟩ : ∃ key : Nat, a = key := ⟨a.toNat, by omega⟩
  refine ⟨i, ?_, hi, ei, ?_⟩
  · rw [fkV, if_pos h, if_pos (by omega), if_pos hm, hix]
    unfold keyC
    rw [hix]
  · have hk := keyC_range (l := l) h1 (key : Int)
    unfold keyC
    unfold keyC at hk
    rw [hix, Int.toNat_natCast, Int.toNat_natCast] at *
    rw [wrap_id (by omega) (by omega), show (key : Int) + ((costN l.length key i : Nat) : Int) = ((key + costN l.length key i : Nat) : Int) by omega]
    show (((key + costN l.length key i) % l.length : Nat) : Int) = (i : Int)
    rw [way_cell (by omega) (costN_lt (by omega)), costN_cost hi, TabT.own_cost hi]
def rmV (n : Nat) : Nat → List Int → Nat → Nat → List Int
  | 0, t, _, _ => t
  | d + 1, t, h, k => if k ≤ TabT.cost n (TabT.cy n (h + k)) (t.getD (TabT.cy n (h + k)) 0) then rmV n d ((t.set h (t.getD (TabT.cy n (h + k)) 0)).set (TabT.cy n (h + k)) (-1)) (TabT.cy n (h + k)) 1 else rmV n d t h (k + 1)
theorem rmV_len (n : Nat) : ∀ (d : Nat) (t : List Int) (h k : Nat), (rmV n d t h k).length = t.length
  | 0, _, _, _ => rfl
  | d + 1, t, h, k => by
    rw [rmV]
    split
    · rw [rmV_len n d]; simp
    · exact rmV_len n d _ _ _
theorem Cells.clear {t : List Int} (hc : Cells t) {p : Nat} (hp : p < t.length) : Cells (t.set p (-1)) := by
  intro i hi
  rw [List.length_set] at hi
  rw [← t_g0 (by rw [List.length_set]; exact hi), TabT.getD_set _ _ _ _ _ hp]
  split
  · omega
  · rw [t_g0 hi]; exact hc i hi
theorem add_arith {n h k : Nat} (hh : h < n) (hk : k < n) (hn : n ≤ 1000) : Int.tmod (wrap64 ((h : Int) + (k : Int))) (n : Int) = ((TabT.cy n (h + k) : Nat) : Int) := by
  rw [wrap_id (by omega) (by omega), ← TabT.cy_mod (by omega)]
  rfl
theorem back_arith {n h k : Nat} (hh : h < n) (hk : k < n) (hn : n ≤ 1000) : Int.tmod (wrap64 (wrap64 (((TabT.cy n (h + k) : Nat) : Int) - (h : Int)) + (n : Int))) (n : Int) = (k : Int) := by
  have hc : TabT.cy n (h + k) < n := TabT.cy_lt (by omega)
  rw [wrap_id (x := ((TabT.cy n (h + k) : Nat) : Int) - (h : Int)) (by omega) (by omega), wrap_id (by omega) (by omega)]
  have e : ((TabT.cy n (h + k) : Nat) : Int) - (h : Int) + (n : Int) = ((TabT.cy n (h + k) + n - h : Nat) : Int) := by omega
  rw [e]
  have e2 : (TabT.cy n (h + k) + n - h) % n = k := by
    unfold TabT.cy
    split
    · rw [show h + k + n - h = k + n by omega, Nat.add_mod_right, Nat.mod_eq_of_lt hk]
    · rw [show h + k - n + n - h = k by omega, Nat.mod_eq_of_lt hk]
  show (((TabT.cy n (h + k) + n - h) % n : Nat) : Int) = (k : Int)
  rw [e2]
end Go.Proofs.Ytjhpnihlmnlehaa.Pure
namespace Go.Proofs.Ytjhpnihlmnlehaa.Pure
open Go.RowKit Go.Proofs.Ytjhpnihlmnlehaa.G Go.Proofs.YtjhpnihlmnlehaaW.PrintWords Go.Proofs.YtjhpnihlmnlehaaW.PrintLast Go.Proofs.YtjhpnihlmnlehaaW.PrintMore
set_option linter.unusedSectionVars false
section
variable {n : Nat} (h2 : 2 ≤ n) (h12 : n ≤ 12)
include h2 h12
/-- What holds behind a key that goes back into the hole. -/
theorem moved {t : List Int} (hl : t.length = n) (hc : Cells t) {h k d : Nat} (hh : h < n) (h1 : 1 ≤ k) (hd : k + (d + 1) < n) (hu : ∀ m, m < d + 1 → TabT.us t (TabT.cy n (h + (k + m))) = true) (hf : TabT.us t (TabT.cy n (h + (k + (d + 1)))) = false) :
    Cells ((t.set h (t.getD (TabT.cy n (h + k)) 0)).set (TabT.cy n (h + k)) (-1)) ∧ (∀ m, m < d → TabT.us ((t.set h (t.getD (TabT.cy n (h + k)) 0)).set (TabT.cy n (h + k)) (-1)) (TabT.cy n (TabT.cy n (h + k) + (1 + m))) = true) ∧
      TabT.us ((t.set h (t.getD (TabT.cy n (h + k)) 0)).set (TabT.cy n (h + k)) (-1)) (TabT.cy n (TabT.cy n (h + k) + (1 + d))) = false := by
  have hcl : TabT.cy n (h + k) < n := TabT.cy_lt (by omega)
  have hu0 := hu 0 (by omega)
  rw [Nat.add_zero] at hu0
  have hv := us_val hu0
  have hb := hc _ (by rw [hl]; exact hcl)
  have pos : ∀ m, m ≤ d → TabT.cy n (TabT.cy n (h + k) + (1 + m)) = TabT.cy n (h + (k + (m + 1))) := fun m hm => by unfold TabT.cy; split <;> split <;> split <;> omega
  have far : ∀ m, m ≤ d → TabT.cy n (h + (k + (m + 1))) ≠ h ∧ TabT.cy n (h + (k + (m + 1))) ≠ TabT.cy n (h + k) := fun m hm => by constructor <;> (unfold TabT.cy; split <;> (try split) <;> omega)
  have same : ∀ m, m ≤ d → TabT.us ((t.set h (t.getD (TabT.cy n (h + k)) 0)).set (TabT.cy n (h + k)) (-1)) (TabT.cy n (h + (k + (m + 1)))) = TabT.us t (TabT.cy n (h + (k + (m + 1)))) := fun m hm => by
    have := far m hm
    rw [TabT.us_clear _ _ _ (by rw [List.length_set]; omega), TabT.us_set _ _ _ _ (by omega) hv, decide_eq_false this.1, decide_eq_false this.2]
    simp
  refine ⟨Cells.clear (hc.set (by omega) hv hb.2) (by rw [List.length_set]; omega), fun m hm => ?_, ?_⟩
  · rw [pos m (by omega), same m (by omega)]; exact hu (m + 1) (by omega)
  · rw [pos d (by omega), same d (by omega)]; exact hf
theorem im_rm : ∀ (d : Nat) (t : List Int) (h k : Nat), t.length = n → Cells t → h < n → 1 ≤ k → k + d < n → (∀ m, m < d → TabT.us t (TabT.cy n (h + (k + m))) = true) → TabT.us t (TabT.cy n (h + (k + d))) = false →
    Ev (fun K => impl_RemoveKey.l0 K (h : Int) (n : Int) (k : Int) t) (rmV n d t h k, true) := by
  intro d
  induction d with
  | zero =>
    intro t h k hl hc hh h1 hd hu hf
    have hcl : TabT.cy n (h + k) < n := TabT.cy_lt (by omega)
    rw [Nat.add_zero] at hf
    have hv := us_free (t := t) (by rw [hl]; exact hcl) hf
    refine Ev.end_ fun K => ?_
    rw [impl_RemoveKey.l0, if_neg (by omega), add_arith hh (by omega) (by omega), if_pos (by omega), if_pos (by omega), rd_nat, if_neg (by omega), rmV]
  | succ d ih =>
    intro t h k hl hc hh h1 hd hu hf
    have hcl : TabT.cy n (h + k) < n := TabT.cy_lt (by omega)
    have hu0 := hu 0 (by omega)
    rw [Nat.add_zero] at hu0
    have hv := us_val hu0
    have hb := hc _ (by rw [hl]; exact hcl)
    obtain ⟨key, hkey⟩ : ∃ key : Nat, t.getD (TabT.cy n (h + k)) 0 = key := ⟨(t.getD (TabT.cy n (h + k)) 0).toNat, by omega⟩
    have hcost : impl_Table_cost.f t ((TabT.cy n (h + k) : Nat) : Int) = some ((TabT.cost n (TabT.cy n (h + k)) (key : Int) : Nat) : Int) := by
      rw [tcost_eq (l := t) (key := key) (by omega) (by omega) (by omega) hkey, hl, costN_cost hcl]
    rw [rmV]
    by_cases c : k ≤ TabT.cost n (TabT.cy n (h + k)) (t.getD (TabT.cy n (h + k)) 0)
    · rw [if_pos c]
      obtain ⟨m1, m2, m3⟩ := moved h2 h12 hl hc hh h1 hd hu hf
      have := ih _ (TabT.cy n (h + k)) 1 (by simp [hl]) m1 hcl (Nat.le_refl _) (by omega) m2 m3
      refine Ev.one this fun K => ?_
      rw [impl_RemoveKey.l0, if_neg (by omega), add_arith hh (by omega) (by omega), if_pos (by omega), if_pos (by omega), rd_nat, if_pos (by omega), hcost, Option.bind_some, if_pos (by rw [hkey] at c; omega), if_pos (by omega), if_pos (by omega), Int.toNat_natCast, Int.toNat_natCast]
      rfl
    · rw [if_neg c]
      have := ih t h (k + 1) hl hc hh (by omega) (by omega) (fun m hm => by rw [show k + 1 + m = k + (m + 1) by omega]; exact hu (m + 1) (by omega)) (by rw [show k + 1 + d = k + (d + 1) by omega]; exact hf)
      refine Ev.one this fun K => ?_
      rw [impl_RemoveKey.l0, if_neg (by omega), add_arith hh (by omega) (by omega), if_pos (by omega), if_pos (by omega), rd_nat, if_pos (by omega), hcost, Option.bind_some, if_neg (by rw [hkey] at c; omega), wrap_next (n := n) (by omega) (by omega)]
theorem sp_rm : ∀ (d : Nat) (t : List Int) (h k : Nat), t.length = n → Cells t → h < n → 1 ≤ k → k + d < n → (∀ m, m < d → TabT.us t (TabT.cy n (h + (k + m))) = true) → TabT.us t (TabT.cy n (h + (k + d))) = false →
    Ev (fun K => spec_RemoveKey.l0 K (n : Int) (h : Int) ((TabT.cy n (h + k) : Nat) : Int) t) (rmV n d t h k, true) := by
  intro d
  induction d with
  | zero =>
    intro t h k hl hc hh h1 hd hu hf
    have hcl : TabT.cy n (h + k) < n := TabT.cy_lt (by omega)
    rw [Nat.add_zero] at hf
    have hv := us_free (t := t) (by rw [hl]; exact hcl) hf
    have hb := hc _ (by rw [hl]; exact hcl)
    refine Ev.end_ fun K => ?_
    rw [spec_RemoveKey.l0, if_pos (by omega), if_pos (by omega), rd_nat, if_pos (by omega), rmV]
  | succ d ih =>
    intro t h k hl hc hh h1 hd hu hf
    have hcl : TabT.cy n (h + k) < n := TabT.cy_lt (by omega)
    have hu0 := hu 0 (by omega)
    rw [Nat.add_zero] at hu0
    have hv := us_val hu0
    have hb := hc _ (by rw [hl]; exact hcl)
    obtain ⟨key, hkey⟩ : ∃ key : Nat, t.getD (TabT.cy n (h + k)) 0 = key := ⟨(t.getD (TabT.cy n (h + k)) 0).toNat, by omega⟩
    have hcost : spec_prCost.f (key : Int) ((TabT.cy n (h + k) : Nat) : Int) (n : Int) = some ((TabT.cost n (TabT.cy n (h + k)) (key : Int) : Nat) : Int) := by
      rw [prCost_eq (by omega) (by omega) (by omega) hcl, costN_cost hcl]
    rw [rmV]
    by_cases c : k ≤ TabT.cost n (TabT.cy n (h + k)) (t.getD (TabT.cy n (h + k)) 0)
    · rw [if_pos c]
      obtain ⟨m1, m2, m3⟩ := moved h2 h12 hl hc hh h1 hd hu hf
      have := ih _ (TabT.cy n (h + k)) 1 (by simp [hl]) m1 hcl (Nat.le_refl _) (by omega) m2 m3
      refine Ev.one this fun K => ?_
      rw [spec_RemoveKey.l0, if_pos (by omega), if_pos (by omega), rd_nat, if_neg (by omega), hkey, hcost, Option.bind_some, if_neg (by omega), back_arith hh (by omega) (by omega), if_pos (by rw [hkey] at c; omega), if_pos (by omega), if_pos (by omega), Int.toNat_natCast, Int.toNat_natCast, step_arith hcl (by omega)]
    · rw [if_neg c]
      have := ih t h (k + 1) hl hc hh (by omega) (by omega) (fun m hm => by rw [show k + 1 + m = k + (m + 1) by omega]; exact hu (m + 1) (by omega)) (by rw [show k + 1 + d = k + (d + 1) by omega]; exact hf)
      rw [show TabT.cy n (h + (k + 1)) = TabT.cy n (TabT.cy n (h + k) + 1) by unfold TabT.cy; split <;> split <;> (try split) <;> omega] at this
      refine Ev.one this fun K => ?_
      rw [spec_RemoveKey.l0, if_pos (by omega), if_pos (by omega), rd_nat, if_neg (by omega), hkey, hcost, Option.bind_some, if_neg (by omega), back_arith hh (by omega) (by omega), if_neg (by rw [hkey] at c; omega), step_arith hcl (by omega)]
end
end Go.Proofs.Ytjhpnihlmnlehaa.Pure
namespace Go.Proofs.Ytjhpnihlmnlehaa.Pure
open Go.RowKit Go.Proofs.Ytjhpnihlmnlehaa.G Go.Proofs.YtjhpnihlmnlehaaW.PrintWords Go.Proofs.YtjhpnihlmnlehaaW.PrintLast Go.Proofs.YtjhpnihlmnlehaaW.PrintMore
set_option linter.unusedSectionVars false
theorem rm_start {l : List Int} (hT : tblB l = true) {h : Nat} (hu : TabT.us l h = true) : ∃ d, 1 + d < l.length ∧ (∀ m, m < d → TabT.us (l.set h (-1)) (TabT.cy l.length (h + (1 + m))) = true) ∧ TabT.us (l.set h (-1)) (TabT.cy l.length (h + (1 + d))) = false := by
  have hh := TabT.us_lt hu
  obtain ⟨g, hg, hgh, hgu⟩ := ((tbl_valid hT).holed hu).other
  rw [List.length_set] at hg
  have start : ∃ e, 1 + e < l.length ∧ TabT.cy l.length (h + (1 + e)) = g := by
    by_cases c : h < g
    · exact ⟨g - h - 1, by omega, by unfold TabT.cy; split <;> omega⟩
    · exact ⟨g + l.length - h - 1, by omega, by unfold TabT.cy; split <;> omega⟩
  obtain ⟨e, he, heg⟩ := start
  obtain ⟨d, h1, h2, h3⟩ := TabT.least_nat (p := fun e => TabT.us (l.set h (-1)) (TabT.cy l.length (h + (1 + e))) = false) e (by show TabT.us (l.set h (-1)) (TabT.cy l.length (h + (1 + e))) = false; rw [heg]; exact hgu)
  exact ⟨d, by omega, fun m hm => by simpa using h3 m hm, h2⟩
theorem rm_both (l : List Int) (a : Int) (hn : l.length ≤ 4611686018427387904) : ∃ r : List Int × Bool, Ev (fun k => impl_RemoveKey.f k l a) r ∧ Ev (fun k => spec_RemoveKey.f k l a) r ∧ r.1.length ≤ l.length := by
  have gi := impl_FindKey_ev l a hn
  have stop : Ev (fun k => spec_RemoveKey.j0 k a true l) (([] : List Int), false) := Ev.end_ fun k => by rw [spec_RemoveKey.j0, if_pos rfl]
  have none_ : fkV l a = (0, 0, false) → Ev (fun k => impl_RemoveKey.f k l a) (([] : List Int), false) := fun e => by
    rw [e] at gi
    unfold impl_RemoveKey.f
    refine Ev.bind gi ?_
    simp only [Bool.false_eq_true, if_false]
    exact Ev.now _
  have hpk : spec_prKey.f a = some (decide (0 ≤ a ∧ a ≤ 999)) := by unfold spec_prKey.f; rw [l1In_eq]; rfl
  cases hT : tblB l with
  | false =>
    refine ⟨([], false), none_ (by rw [fkV, if_neg (by rw [hT]; decide)]), ?_, by simp⟩
    unfold spec_RemoveKey.f
    refine Ev.bind (prGood_ev l hn) ?_
    simp only [hT, Bool.false_eq_true, if_false]
    exact stop
  | true =>
    by_cases ha : 0 ≤ a ∧ a ≤ 999
    · by_cases hm : a ∈ l
      · obtain ⟨h1, h2, h3, h4⟩ := tblB_parts hT
        rcases ixF_spec l a l.length 0 (by omega) with ⟨_, q⟩ | ⟨j, e1, e2, e3, _⟩
        · rw [List.drop_zero] at q; exact absurd hm q
        · have hu : TabT.us l j = true := by rw [us_of e2, e3]; exact decide_eq_true ha.1
          obtain ⟨d, d1, d2, d3⟩ := rm_start hT hu
          have hc : Cells (l.set j (-1)) := Cells.clear (tbl_cells hT) e2
          have hf : fkV l a = ((j : Int), ((costN l.length a.toNat j : Nat) : Int), true) := by
            rw [fkV, if_pos hT, if_pos ha, if_pos hm, e1, Int.toNat_natCast]
          rw [hf] at gi
          refine ⟨(rmV l.length d (l.set j (-1)) j 1, true), ?_, ?_, by simp only [rmV_len, List.length_set]; omega⟩
          · unfold impl_RemoveKey.f
            refine Ev.bind gi ?_
            have hcp : impl_Table_copied.f l = some l := by
              unfold impl_Table_copied.f slices_Clone_int_int.f
              rw [if_pos (by omega)]; rfl
            simp only [if_true, hcp, Option.bind_some, show (0 : Int) ≤ (j : Int) by omega, show ((j : Int) < (l.length : Int)) by omega, Int.toNat_natCast]
            exact im_rm h1 h2 d (l.set j (-1)) j 1 (by simp) hc e2 (Nat.le_refl _) d1 d2 d3
          · unfold spec_RemoveKey.f
            refine Ev.bind (prGood_ev l hn) ?_
            simp only [hT, if_true, hpk, Option.bind_some, ha, and_self, decide_true]
            refine Ev.bind (place_ev l a hn) ?_
            rw [e1, decide_eq_false (show ¬ ((j : Nat) : Int) < 0 by omega)]
            have hown : spec_l1Own.f l = some l := by
              unfold spec_l1Own.f
              simp only [Option.bind_some, List.length_nil, Nat.zero_add, show l.length < 17592186044416 by omega, if_true, List.nil_append]
            refine Ev.step (f := fun k => (spec_prPlace.f k l a).bind fun t489 => (if 0 ≤ t489 then (if t489 < (l.length : Int) then (if (l.length : Int) = 0 then (none) else (spec_RemoveKey.l0 k (l.length : Int) t489 (Int.tmod (wrap64 (t489 + 1)) (l.length : Int)) (l.set (t489 : Int).toNat (-1)))) else (none)) else (none))) (fun k => by
              rw [spec_RemoveKey.j0, if_neg (by decide), hown]; rfl) ?_
            refine Ev.bind (place_ev l a hn) ?_
            rw [e1]
            simp only [show (0 : Int) ≤ (j : Int) by omega, show ((j : Int) < (l.length : Int)) by omega, show ¬ ((l.length : Int) = 0) by omega, if_true, if_false, Int.toNat_natCast, step_arith e2 (show l.length ≤ 1000 by omega)]
            exact sp_rm h1 h2 d (l.set j (-1)) j 1 (by simp) hc e2 (Nat.le_refl _) d1 d2 d3
      · refine ⟨([], false), none_ (by rw [fkV, if_pos hT, if_pos ha, if_neg hm]), ?_, by simp⟩
        unfold spec_RemoveKey.f
        refine Ev.bind (prGood_ev l hn) ?_
        simp only [hT, if_true, hpk, Option.bind_some, ha, and_self, decide_true]
        refine Ev.bind (place_ev l a hn) ?_
        rcases ixF_spec l a l.length 0 (by omega) with ⟨e1, _⟩ | ⟨j, _, _, _, q⟩
        · rw [e1]; exact stop
        · rw [List.drop_zero] at q; exact absurd q hm
    · refine ⟨([], false), none_ (by rw [fkV, if_pos hT, if_neg ha]), ?_, by simp⟩
      unfold spec_RemoveKey.f
      refine Ev.bind (prGood_ev l hn) ?_
      simp only [hT, if_true, hpk, Option.bind_some, ha, decide_false, Bool.false_eq_true, if_false]
      exact stop
end Go.Proofs.Ytjhpnihlmnlehaa.Pure
namespace Go.Proofs.Ytjhpnihlmnlehaa.Pure
open Go.RowKit Go.Proofs.Ytjhpnihlmnlehaa.G Go.Proofs.YtjhpnihlmnlehaaW.PrintWords Go.Proofs.YtjhpnihlmnlehaaW.PrintLast
def partOf (l S : List Int) : List Int := l.map fun x => if x ∈ S then x else -1
theorem part_len (l S : List Int) : (partOf l S).length = l.length := by simp [partOf]
theorem part_get (l S : List Int) {i : Nat} (hi : i < l.length) : (partOf l S).getD i 0 = if l.getD i 0 ∈ S then l.getD i 0 else -1 := by
  unfold partOf
  rw [getD_get (by simpa using hi), getD_get hi]
  simp
theorem part_nil (l : List Int) : partOf l [] = TabT.empty l.length := by
  unfold partOf TabT.empty
  refine List.ext_getElem (by simp) (fun i _ _ => by simp)
/-- A key may come next behind S. -/
def rdyB (l S : List Int) (x : Int) : Bool := wayS l S x (cstK l x) 0 && !decide (x ∈ S)
theorem index_at (l : List Int) (a : Int) (hn : l.length ≤ 1000) : ∀ (d i : Nat), i + d = l.length → ∀ k, d + 1 ≤ k → slices_Index_int_int.l0 k l a (l.length : Int) i = some (ixF l a d i) := by
  intro d
  induction d with
  | zero =>
    intro i hd k hk
    obtain ⟨k, rfl⟩ : ∃ q, k = q + 1 := ⟨k - 1, by omega⟩
    rw [slices_Index_int_int.l0, if_neg (by omega)]; rfl
  | succ d ih =>
    intro i hd k hk
    obtain ⟨k, rfl⟩ : ∃ q, k = q + 1 := ⟨k - 1, by omega⟩
    rw [ixF]
    by_cases c : l.getD i 0 = a
    · rw [if_pos c, slices_Index_int_int.l0, if_pos (by omega), if_pos (by omega), if_pos (by omega), rd_nat, if_pos c.symm]
    · rw [if_neg c, slices_Index_int_int.l0, if_pos (by omega), if_pos (by omega), if_pos (by omega), rd_nat, if_neg (fun e => c e.symm), wrap_next (n := l.length) (by omega) (by omega)]
      exact ih (i + 1) (by omega) k (by omega)
theorem index_at0 (l : List Int) (a : Int) (hn : l.length ≤ 1000) : slices_Index_int_int.f 2000 l a = some (ixF l a l.length 0) := index_at l a hn l.length 0 (by omega) 2000 (by omega)
theorem ix_here {l : List Int} (h : tblB l = true) {i : Nat} (hi : i < l.length) (h0 : 0 ≤ l.getD i 0) : ixF l (l.getD i 0) l.length 0 = (i : Int) := by
  rcases ixF_spec l (l.getD i 0) l.length 0 (by omega) with ⟨_, h2⟩ | ⟨j, h1, h2, h3, _⟩
  · exact absurd (by rw [List.drop_zero]; exact getD_mem hi) h2
  · rw [h1]
    rcases Nat.lt_trichotomy i j with c | c | c
    · exact absurd h3.symm (tbl_dist h i j c h2 h0)
    · rw [c]
    · exact absurd h3 (tbl_dist h j i c hi (by rw [h3]; exact h0))
theorem atK_here {l : List Int} (h : tblB l = true) {i : Nat} (hi : i < l.length) (h0 : 0 ≤ l.getD i 0) : slices_Index_int_int.f 2000 l (l.getD i 0) = some (i : Int) ∧ atK l (l.getD i 0) = (i : Int) := by
  have h2 := (tblB_parts h).2.1
  have e := index_at0 l (l.getD i 0) (by omega)
  rw [ix_here h hi h0] at e
  exact ⟨e, by unfold atK; rw [e]; rfl⟩
theorem cst_here {l : List Int} (h : tblB l = true) {i : Nat} (hi : i < l.length) (h0 : 0 ≤ l.getD i 0) : impl_Table_cost.f l (i : Int) = some ((costN l.length (l.getD i 0).toNat i : Nat) : Int) ∧ cstK l (l.getD i 0) = costN l.length (l.getD i 0).toNat i := by
  obtain ⟨h1, h2, h3, h4⟩ := tblB_parts h
  have hv := h3 i hi
  have e := tcost_eq (l := l) (key := (l.getD i 0).toNat) (at_ := i) (by omega) (by omega) hi (by omega)
  refine ⟨e, ?_⟩
  unfold cstK
  rw [(atK_here h hi h0).2, e]
  simp
theorem key_at {l : List Int} {x : Int} (hx : x ∈ keysZ l) : ∃ i, i < l.length ∧ l.getD i 0 = x ∧ 0 ≤ x := by
  obtain ⟨h1, h2⟩ := keysZ_mem.1 hx
  obtain ⟨i, hi, e⟩ := List.getElem_of_mem h1
  exact ⟨i, hi, by rw [getD_get hi]; exact e, h2⟩
theorem keys_okB {l : List Int} (h : tblB l = true) : (keysZ l).all (keyOk l) = true := by
  obtain ⟨h1, h2, h3, h4⟩ := tblB_parts h
  rw [List.all_eq_true]
  intro x hx
  obtain ⟨i, hi, rfl, h0⟩ := key_at hx
  have hv := h3 i hi
  obtain ⟨a1, a2⟩ := atK_here h hi h0
  obtain ⟨b1, b2⟩ := cst_here h hi h0
  have hl := costN_lt (n := l.length) (key := (l.getD i 0).toNat) (at_ := i) (by omega)
  unfold keyOk
  rw [a2, b2]
  simp only [Bool.and_eq_true, decide_eq_true_eq]
  exact ⟨⟨⟨⟨h0, hv.2⟩, a1⟩, b1⟩, by omega⟩
theorem cells_okB {l : List Int} (h : tblB l = true) : l.all cellOk = true := by
  obtain ⟨h1, h2, h3, h4⟩ := tblB_parts h
  rw [List.all_eq_true]
  intro x hx
  obtain ⟨i, hi, e⟩ := List.getElem_of_mem hx
  have := h3 i hi
  rw [getD_get hi, e] at this
  unfold cellOk
  simp only [Bool.and_eq_true, decide_eq_true_eq]
  exact this
def fo (l : List Int) : Nat → List Int → List Int
  | 0, S => S
  | d + 1, S => match (keysZ l).filter (rdyB l S) with
    | [] => S
    | x :: _ => fo l d (S ++ [x])
theorem sub_len : ∀ (a b : List Int), a.Nodup → (∀ x ∈ a, x ∈ b) → a.length ≤ b.length
  | [], b, _, _ => by simp
  | x :: a, b, hn, hs => by
    rw [List.nodup_cons] at hn
    have hx := hs x List.mem_cons_self
    have := sub_len a (b.erase x) hn.2 (fun y hy => by
      have e : y ≠ x := fun e => hn.1 (e ▸ hy)
      exact (List.mem_erase_of_ne e).2 (hs y (List.mem_cons_of_mem _ hy)))
    rw [List.length_erase_of_mem hx] at this
    have hp := List.length_pos_of_mem hx
    rw [List.length_cons]
    omega
theorem wayS_iff (l S : List Int) (x : Int) : ∀ (c s : Nat), wayS l S x c s = true ↔ ∀ m, m < c → l.getD ((x.toNat + s + m) % l.length) 0 ∈ S
  | 0, s => by simp [wayS]
  | c + 1, s => by
    rw [wayS, Bool.and_eq_true, decide_eq_true_eq, wayS_iff l S x c (s + 1)]
    constructor
    · rintro ⟨h1, h2⟩ m hm
      cases m with
      | zero => exact h1
      | succ m => have := h2 m (by omega); rw [show x.toNat + s + (m + 1) = x.toNat + (s + 1) + m by omega]; exact this
    · intro h
      refine ⟨h 0 (by omega), fun m hm => ?_⟩
      have := h (m + 1) (by omega)
      rw [show x.toNat + (s + 1) + m = x.toNat + s + (m + 1) by omega]; exact this
theorem us_part {l S : List Int} (hS : ∀ x ∈ S, 0 ≤ x) {i : Nat} (hi : i < l.length) : TabT.us (partOf l S) i = decide (l.getD i 0 ∈ S) := by
  rw [us_of (by rw [part_len]; exact hi), part_get l S hi]
  by_cases c : l.getD i 0 ∈ S
  · rw [if_pos c, decide_eq_true c]; exact decide_eq_true (hS _ c)
  · rw [if_neg c, decide_eq_false c]; rfl
theorem some_ready {l S : List Int} (h : tblB l = true) (hS : ∀ x ∈ S, 0 ≤ x) {x : Int} (hx : x ∈ keysZ l) (hxS : x ∉ S) : (keysZ l).filter (rdyB l S) ≠ [] := by
  obtain ⟨h1, h2, h3, h4⟩ := tblB_parts h
  obtain ⟨i, hi, rfl, h0⟩ := key_at hx
  obtain ⟨j, hj1, hj2, hj3⟩ := TabT.exists_ready (p := partOf l S) (tbl_valid h) ⟨i, by rw [us_of hi]; exact decide_eq_true h0, by rw [us_part hS hi]; exact decide_eq_false hxS⟩
  have lj := TabT.us_lt hj1
  have vj := us_val hj1
  obtain ⟨key, hkey⟩ : ∃ key : Nat, l.getD j 0 = key := ⟨(l.getD j 0).toNat, by omega⟩
  have hr : rdyB l S (l.getD j 0) = true := by
    rw [rdyB, Bool.and_eq_true]
    constructor
    · rw [wayS_iff, (cst_here h lj vj).2, hkey, Int.toNat_natCast]
      intro m hm
      rw [costN_cost lj] at hm
      rw [t_g0 lj, hkey] at hj3
      have hu := hj3 m hm
      have hm2 := TabT.cost_lt lj (key : Int)
      have hcy := TabT.cy_lt (n := l.length) (i := TabT.own l.length (key : Int) + m) (by have := TabT.own_lt (n := l.length) (by omega) (key : Int); omega)
      rw [us_part hS hcy] at hu
      rw [Nat.add_zero, way_cell (by omega) (by omega)]
      exact of_decide_eq_true hu
    · rw [us_part hS lj] at hj2
      rw [hj2]; rfl
  intro e
  have : l.getD j 0 ∈ (keysZ l).filter (rdyB l S) := List.mem_filter.2 ⟨keysZ_mem.2 ⟨getD_mem lj, vj⟩, hr⟩
  rw [e] at this
  cases this
theorem idx_head (p : Int → Bool) : ∀ (ks : List Int) (i : Int), (ks.filter p = [] → idxF p ks i = -1) ∧ ∀ x r, ks.filter p = x :: r → ∃ j : Nat, idxF p ks i = i + j ∧ ks.getD j 0 = x ∧ j < ks.length
  | [], i => by simp [idxF]
  | y :: ks, i => by
    by_cases c : p y = true
    · refine ⟨fun e => by simp [c] at e, fun x r e => ?_⟩
      rw [List.filter_cons_of_pos c] at e
      exact ⟨0, by rw [idxF, if_pos c]; simp, by simpa using (List.cons.inj e).1, by simp⟩
    · obtain ⟨h1, h2⟩ := idx_head p ks (i + 1)
      rw [List.filter_cons_of_neg c, idxF, if_neg c]
      refine ⟨h1, fun x r e => ?_⟩
      obtain ⟨j, e1, e2, e3⟩ := h2 x r e
      exact ⟨j + 1, by rw [e1]; omega, by simpa using e2, by simpa using e3⟩
structure Done (l S : List Int) : Prop where
  mem : ∀ x ∈ S, x ∈ keysZ l
  nodup : S.Nodup
theorem Done.nonneg {l S : List Int} (D : Done l S) : ∀ x ∈ S, 0 ≤ x := fun x hx => (keysZ_mem.1 (D.mem x hx)).2
theorem Done.le {l S : List Int} (D : Done l S) : S.length ≤ (keysZ l).length := sub_len _ _ D.nodup D.mem
theorem Done.snoc {l S : List Int} (D : Done l S) {x : Int} {r : List Int} (e : (keysZ l).filter (rdyB l S) = x :: r) : Done l (S ++ [x]) ∧ x ∈ keysZ l ∧ x ∉ S := by
  have hx : x ∈ (keysZ l).filter (rdyB l S) := by rw [e]; exact List.mem_cons_self
  obtain ⟨h1, h2⟩ := List.mem_filter.1 hx
  have h3 : x ∉ S := by
    rw [rdyB, Bool.and_eq_true] at h2
    simpa using h2.2
  refine ⟨⟨fun y hy => ?_, ?_⟩, h1, h3⟩
  · rcases List.mem_append.1 hy with hy | hy
    · exact D.mem y hy
    · rw [List.mem_singleton.1 hy]; exact h1
  · rw [List.nodup_append]
    exact ⟨D.nodup, by simp, fun a ha b hb e => h3 (by rw [List.mem_singleton] at hb; rw [← hb, ← e]; exact ha)⟩
theorem Done.nil (l : List Int) : Done l [] := ⟨by simp, by simp⟩
theorem fo_done {l : List Int} : ∀ (d : Nat) (S : List Int), Done l S → Done l (fo l d S)
  | 0, S, D => D
  | d + 1, S, D => by
    rw [fo]
    split
    · exact D
    · rename_i x r e
      exact fo_done d _ (D.snoc e).1
theorem not_done {l S : List Int} (h : tblB l = true) (D : Done l S) (hl : S.length < (keysZ l).length) : (keysZ l).filter (rdyB l S) ≠ [] := by
  by_cases c : ∃ x, x ∈ keysZ l ∧ x ∉ S
  · obtain ⟨x, h1, h2⟩ := c
    exact some_ready h D.nonneg h1 h2
  · have hn := (keysZ_perm l).nodup_iff.mpr (filter_nodup (tbl_dist h))
    have := sub_len (keysZ l) S hn (fun x hx => by
      by_cases c2 : x ∈ S
      · exact c2
      · exact absurd ⟨x, hx, c2⟩ c)
    omega
theorem firstGo_eq {l : List Int} (h : tblB l = true) : ∀ (d : Nat) (S : List Int), Done l S → S.length + d = (keysZ l).length → firstGo l (keysZ l) d S = some (fo l d S)
  | 0, S, D, hl => rfl
  | d + 1, S, D, hl => by
    have hne := not_done h D (by omega)
    rw [firstGo, fo]
    cases e : (keysZ l).filter (rdyB l S) with
    | nil => exact absurd e hne
    | cons x r =>
      obtain ⟨j, e1, e2, e3⟩ := (idx_head (rdyB l S) (keysZ l) 0).2 x r e
      have e4 : idxF (comesF l S) (keysZ l) 0 = (j : Int) := by rw [show comesF l S = rdyB l S from rfl, e1]; omega
      rw [e4, if_pos (by omega), rd_nat, e2]
      exact firstGo_eq h d _ (D.snoc e).1 (by rw [List.length_append, List.length_singleton]; omega)
theorem first_f {l : List Int} (h : tblB l = true) : impl_Table_first.f l = some (fo l (keysZ l).length []) := by
  obtain ⟨h1, h2, h3, h4⟩ := tblB_parts h
  unfold impl_Table_first.f
  rw [if_pos ⟨by omega, by omega, cells_okB h, keys_okB h⟩]
  exact firstGo_eq h _ _ (Done.nil l) (by simp)
theorem part_set {l S : List Int} (h : tblB l = true) {i : Nat} (hi : i < l.length) (h0 : 0 ≤ l.getD i 0) : (partOf l S).set i (l.getD i 0) = partOf l (S ++ [l.getD i 0]) := by
  refine List.ext_getElem (by simp [partOf]) (fun j hj1 hj2 => ?_)
  have hj : j < l.length := by rw [part_len] at hj2; exact hj2
  have e1 : (partOf l (S ++ [l.getD i 0]))[j] = if l.getD j 0 ∈ S ++ [l.getD i 0] then l.getD j 0 else -1 := by
    rw [← part_get l _ hj, getD_get hj2]
  have e2 : (partOf l S)[j]'(by rw [part_len]; exact hj) = if l.getD j 0 ∈ S then l.getD j 0 else -1 := by
    rw [← part_get l _ hj, getD_get (by rw [part_len]; exact hj)]
  rw [List.getElem_set, e1, e2]
  by_cases c : i = j
  · subst c
    rw [if_pos rfl, if_pos (by simp)]
  · rw [if_neg c]
    have hd : l.getD j 0 ≠ l.getD i 0 := fun e => by
      rcases Nat.lt_or_ge i j with q | q
      · exact tbl_dist h i j q hj h0 e.symm
      · exact tbl_dist h j i (by omega) hi (by rw [e]; exact h0) e
    simp only [List.mem_append, List.mem_singleton, hd, or_false]
end Go.Proofs.Ytjhpnihlmnlehaa.Pure
namespace Go.Proofs.Ytjhpnihlmnlehaa.Pure
open Go.RowKit Go.Proofs.Ytjhpnihlmnlehaa.G Go.Proofs.YtjhpnihlmnlehaaW.PrintWords Go.Proofs.YtjhpnihlmnlehaaW.PrintLast Go.Proofs.YtjhpnihlmnlehaaW.PrintMore
set_option linter.unusedSectionVars false
theorem keys_clear {t : List Int} {p : Nat} (hp : p < t.length) (hu : TabT.us t p = true) : (TabT.keys t).Perm (t.getD p (-1) :: TabT.keys (t.set p (-1))) := by
  have h0 : 0 ≤ t.getD p (-1) := by rw [t_g0 hp]; exact us_val hu
  have h1 : TabT.us (t.set p (-1)) p = false := by rw [TabT.us_clear _ _ _ hp]; simp
  have h := TabT.keys_set (t.set p (-1)) p (t.getD p (-1)) (by simpa using hp) h1 h0
  have e : (t.set p (-1)).set p (t.getD p (-1)) = t := by
    rw [List.set_set]
    refine List.ext_getElem (by simp) (fun i hi1 hi2 => ?_)
    rw [List.getElem_set]
    split
    · rename_i e
      subst e
      rw [List.getD_eq_getElem?_getD, List.getElem?_eq_getElem hp]; rfl
    · rfl
  rw [e] at h
  exact h
theorem rmV_valid (n : Nat) : ∀ (d : Nat) (t : List Int) (h k : Nat), t.length = n → TabT.Holed t h → 1 ≤ k → k + d < n → (∀ m, m < d → TabT.us t (TabT.cy n (h + (k + m))) = true) → TabT.us t (TabT.cy n (h + (k + d))) = false →
    (∀ m, 1 ≤ m → m < k → TabT.us t (TabT.cy n (h + m)) = true ∧ TabT.cost n (TabT.cy n (h + m)) (t.getD (TabT.cy n (h + m)) (-1)) < m) → TabT.Valid (rmV n d t h k) ∧ (TabT.keys (rmV n d t h k)).Perm (TabT.keys t) := by
  intro d
  induction d with
  | zero =>
    intro t h k hl hH h1 hd hu hf hm
    subst hl
    rw [rmV]
    rw [Nat.add_zero] at hf
    exact ⟨TabT.Holed.valid hH (by omega) h1 hf hm, List.Perm.refl _⟩
  | succ d ih =>
    intro t h k hl hH h1 hd hu hf hm
    subst hl
    have hh := hH.hole.1
    have hu0 := hu 0 (by omega)
    rw [Nat.add_zero] at hu0
    have hcl : TabT.cy t.length (h + k) < t.length := TabT.cy_lt (by omega)
    have g0 := t_g0 hcl
    rw [rmV, ← g0]
    by_cases c : k ≤ TabT.cost t.length (TabT.cy t.length (h + k)) (t.getD (TabT.cy t.length (h + k)) (-1))
    · rw [if_pos c]
      have hne : TabT.cy t.length (h + k) ≠ h := by unfold TabT.cy; split <;> omega
      have hv : 0 ≤ t.getD (TabT.cy t.length (h + k)) (-1) := by rw [g0]; exact us_val hu0
      have hhf : TabT.us t h = false := by rw [TabT.us, hH.hole.2]; rfl
      have mv := TabT.Holed.move hH (by omega) h1 hu0 c
      obtain ⟨y, hy⟩ : ∃ y, y = t.getD (TabT.cy t.length (h + k)) (-1) := ⟨_, rfl⟩
      rw [← hy] at mv hv ⊢
      have pos : ∀ m, m ≤ d → TabT.cy t.length (TabT.cy t.length (h + k) + (1 + m)) = TabT.cy t.length (h + (k + (m + 1))) := fun m hm => by unfold TabT.cy; split <;> split <;> split <;> omega
      have far : ∀ m, m ≤ d → TabT.cy t.length (h + (k + (m + 1))) ≠ h ∧ TabT.cy t.length (h + (k + (m + 1))) ≠ TabT.cy t.length (h + k) := fun m hm => by constructor <;> (unfold TabT.cy; split <;> (try split) <;> omega)
      have same : ∀ m, m ≤ d → TabT.us ((t.set h y).set (TabT.cy t.length (h + k)) (-1)) (TabT.cy t.length (h + (k + (m + 1)))) = TabT.us t (TabT.cy t.length (h + (k + (m + 1)))) := fun m hm => by
        have := far m hm
        rw [TabT.us_clear _ _ _ (by rw [List.length_set]; omega), TabT.us_set _ _ _ _ (by omega) hv, decide_eq_false this.1, decide_eq_false this.2]
        simp
      obtain ⟨v1, v2⟩ := ih ((t.set h y).set (TabT.cy t.length (h + k)) (-1)) (TabT.cy t.length (h + k)) 1 (by simp) mv (Nat.le_refl _) (by omega) (fun m hm => by rw [pos m (by omega), same m (by omega)]; exact hu (m + 1) (by omega)) (by rw [pos d (by omega), same d (by omega)]; exact hf) (fun m a b => by omega)
      refine ⟨v1, v2.trans ?_⟩
      have k1 := TabT.keys_set t h y hh hhf hv
      have hus : TabT.us (t.set h y) (TabT.cy t.length (h + k)) = true := by rw [TabT.us_set _ _ _ _ hh hv, hu0]; simp
      have k2 := keys_clear (t := t.set h y) (p := TabT.cy t.length (h + k)) (by rw [List.length_set]; exact hcl) hus
      rw [TabT.getD_set _ _ _ _ _ hh, if_neg hne, ← hy] at k2
      exact (k2.symm.trans k1).cons_inv
    · rw [if_neg c]
      exact ih t h (k + 1) rfl hH (by omega) (by omega) (fun m hm => by rw [show k + 1 + m = k + (m + 1) by omega]; exact hu (m + 1) (by omega)) (by rw [show k + 1 + d = k + (d + 1) by omega]; exact hf) (fun m a b => by
        by_cases e : m = k
        · subst e; exact ⟨hu0, by omega⟩
        · exact hm m a (by omega))
/-- A table without one of its keys. -/
structure Less (l w : List Int) (a : Int) : Prop where
  len : w.length = l.length
  tbl : tblB w = true
  keys : (TabT.keys l).Perm (a :: TabT.keys w)
theorem rmV_cells (n : Nat) : ∀ (d : Nat) (t : List Int) (h k : Nat), t.length = n → Cells t → h < n → 1 ≤ k → k + d < n → (∀ m, m < d → TabT.us t (TabT.cy n (h + (k + m))) = true) → TabT.us t (TabT.cy n (h + (k + d))) = false → Cells (rmV n d t h k) := by
  intro d
  induction d with
  | zero => intro t h k hl hc _ _ _ _ _; exact hc
  | succ d ih =>
    intro t h k hl hc hh h1 hd hu hf
    have hcl : TabT.cy n (h + k) < n := TabT.cy_lt (by omega)
    rw [rmV]
    split
    · by_cases hn : 2 ≤ n ∧ n ≤ 12
      · obtain ⟨m1, m2, m3⟩ := moved hn.1 hn.2 hl hc hh h1 hd hu hf
        exact ih _ (TabT.cy n (h + k)) 1 (by simp [hl]) m1 hcl (Nat.le_refl _) (by omega) m2 m3
      · have hu0 := hu 0 (by omega)
        rw [Nat.add_zero] at hu0
        have hv := us_val hu0
        have hb := hc _ (by rw [hl]; exact hcl)
        have pos : ∀ m, m ≤ d → TabT.cy n (TabT.cy n (h + k) + (1 + m)) = TabT.cy n (h + (k + (m + 1))) := fun m hm => by unfold TabT.cy; split <;> split <;> split <;> omega
        have far : ∀ m, m ≤ d → TabT.cy n (h + (k + (m + 1))) ≠ h ∧ TabT.cy n (h + (k + (m + 1))) ≠ TabT.cy n (h + k) := fun m hm => by constructor <;> (unfold TabT.cy; split <;> (try split) <;> omega)
        have same : ∀ m, m ≤ d → TabT.us ((t.set h (t.getD (TabT.cy n (h + k)) 0)).set (TabT.cy n (h + k)) (-1)) (TabT.cy n (h + (k + (m + 1)))) = TabT.us t (TabT.cy n (h + (k + (m + 1)))) := fun m hm => by
          have := far m hm
          rw [TabT.us_clear _ _ _ (by rw [List.length_set]; omega), TabT.us_set _ _ _ _ (by omega) hv, decide_eq_false this.1, decide_eq_false this.2]
          simp
        exact ih _ (TabT.cy n (h + k)) 1 (by simp [hl]) (Cells.clear (hc.set (by omega) hv hb.2) (by rw [List.length_set]; omega)) hcl (Nat.le_refl _) (by omega) (fun m hm => by rw [pos m (by omega), same m (by omega)]; exact hu (m + 1) (by omega)) (by rw [pos d (by omega), same d (by omega)]; exact hf)
    · exact ih t h (k + 1) hl hc hh (by omega) (by omega) (fun m hm => by rw [show k + 1 + m = k + (m + 1) by omega]; exact hu (m + 1) (by omega)) (by rw [show k + 1 + d = k + (d + 1) by omega]; exact hf)
theorem rm_less {l : List Int} (hT : tblB l = true) {j d : Nat} (hu : TabT.us l j = true) (d1 : 1 + d < l.length) (d2 : ∀ m, m < d → TabT.us (l.set j (-1)) (TabT.cy l.length (j + (1 + m))) = true) (d3 : TabT.us (l.set j (-1)) (TabT.cy l.length (j + (1 + d))) = false) :
    Less l (rmV l.length d (l.set j (-1)) j 1) (l.getD j 0) := by
  obtain ⟨h1, h2, h3, h4⟩ := tblB_parts hT
  have hj := TabT.us_lt hu
  have hlen : (rmV l.length d (l.set j (-1)) j 1).length = l.length := by rw [rmV_len]; simp
  obtain ⟨v1, v2⟩ := rmV_valid l.length d (l.set j (-1)) j 1 (by simp) ((tbl_valid hT).holed hu) (Nat.le_refl _) d1 d2 d3 (fun m a b => by omega)
  have hc := rmV_cells l.length d (l.set j (-1)) j 1 (by simp) (Cells.clear (tbl_cells hT) hj) hj (Nat.le_refl _) d1 d2 d3
  have hk := keys_clear hj hu
  rw [t_g0 hj] at hk
  exact ⟨hlen, valid_tbl (by omega) (by omega) hc v1, hk.trans (v2.symm.cons _)⟩
/-- What RemoveKey answers. -/
theorem rm_val (l : List Int) (a : Int) (hn : l.length ≤ 4611686018427387904) : ∃ r : List Int × Bool, Ev (fun k => impl_RemoveKey.f k l a) r ∧ Ev (fun k => spec_RemoveKey.f k l a) r ∧ r.1.length ≤ l.length ∧ r.2 = (fkV l a).2.2 ∧ (r.2 = true → tblB l = true ∧ Less l r.1 a) := by
  obtain ⟨r, e1, e2, e3⟩ := rm_both l a hn
  have gi := impl_FindKey_ev l a hn
  have uniq : ∀ r' : List Int × Bool, Ev (fun k => impl_RemoveKey.f k l a) r' → r' = r := fun r' h => by
    obtain ⟨k1, h1⟩ := h
    obtain ⟨k2, h2⟩ := e1
    have a1 := h1 (max k1 k2) (Nat.le_max_left _ _)
    have a2 := h2 (max k1 k2) (Nat.le_max_right _ _)
    rw [a1] at a2
    exact Option.some.inj a2
  have none_ : fkV l a = (0, 0, false) → r = (([] : List Int), false) := fun e => by
    rw [e] at gi
    symm
    apply uniq
    unfold impl_RemoveKey.f
    refine Ev.bind gi ?_
    simp only [Bool.false_eq_true, if_false]
    exact Ev.now _
  refine ⟨r, e1, e2, e3, ?_⟩
  cases hT : tblB l with
  | false =>
    have e : fkV l a = (0, 0, false) := by rw [fkV, if_neg (by rw [hT]; decide)]
    rw [none_ e, e]
    exact ⟨rfl, fun h => by cases h⟩
  | true =>
    by_cases ha : 0 ≤ a ∧ a ≤ 999
    · by_cases hm : a ∈ l
      · obtain ⟨h1, h2, h3, h4⟩ := tblB_parts hT
        rcases ixF_spec l a l.length 0 (by omega) with ⟨_, q⟩ | ⟨j, f1, f2, f3, _⟩
        · rw [List.drop_zero] at q; exact absurd hm q
        · have hu : TabT.us l j = true := by rw [us_of f2, f3]; exact decide_eq_true ha.1
          obtain ⟨d, d1, d2, d3⟩ := rm_start hT hu
          have hc : Cells (l.set j (-1)) := Cells.clear (tbl_cells hT) f2
          have hf : fkV l a = ((j : Int), ((costN l.length a.toNat j : Nat) : Int), true) := by
            rw [fkV, if_pos hT, if_pos ha, if_pos hm, f1, Int.toNat_natCast]
          have hr : (rmV l.length d (l.set j (-1)) j 1, true) = r := by
            apply uniq
            rw [hf] at gi
            unfold impl_RemoveKey.f
            refine Ev.bind gi ?_
            have hcp : impl_Table_copied.f l = some l := by
              unfold impl_Table_copied.f slices_Clone_int_int.f
              rw [if_pos (by omega)]; rfl
            simp only [if_true, hcp, Option.bind_some, show (0 : Int) ≤ (j : Int) by omega, show ((j : Int) < (l.length : Int)) by omega, Int.toNat_natCast]
            exact im_rm h1 h2 d (l.set j (-1)) j 1 (by simp) hc f2 (Nat.le_refl _) d1 d2 d3
          rw [← hr, hf]
          refine ⟨rfl, fun _ => ⟨rfl, ?_⟩⟩
          have := rm_less hT hu d1 d2 d3
          rw [f3] at this
          exact this
      · have e : fkV l a = (0, 0, false) := by rw [fkV, if_pos hT, if_pos ha, if_neg hm]
        rw [none_ e, e]
        exact ⟨rfl, fun h => by cases h⟩
    · have e : fkV l a = (0, 0, false) := by rw [fkV, if_pos hT, if_neg ha]
      rw [none_ e, e]
      exact ⟨rfl, fun h => by cases h⟩
theorem part_part (l S : List Int) (hS : ∀ x ∈ S, 0 ≤ x) : TabT.Part (partOf l S) l := by
  refine ⟨part_len l S, fun i hi => ?_⟩
  have hl := TabT.us_lt hi
  rw [part_len] at hl
  rw [us_part hS hl] at hi
  have hm := of_decide_eq_true hi
  refine ⟨by rw [us_of hl]; exact decide_eq_true (hS _ hm), ?_⟩
  rw [t_g0 (by rw [part_len]; exact hl), t_g0 hl, part_get l S hl, if_pos hm]
theorem rdy_ready {l S : List Int} (h : tblB l = true) (hS : ∀ x ∈ S, 0 ≤ x) {i : Nat} (hi : i < l.length) (h0 : 0 ≤ l.getD i 0) (hr : rdyB l S (l.getD i 0) = true) : TabT.Ready l (partOf l S) i := by
  obtain ⟨h1, h2, h3, h4⟩ := tblB_parts h
  rw [rdyB, Bool.and_eq_true] at hr
  obtain ⟨key, hkey⟩ : ∃ key : Nat, l.getD i 0 = key := ⟨(l.getD i 0).toNat, by omega⟩
  refine ⟨by rw [us_of hi]; exact decide_eq_true h0, by rw [us_part hS hi]; simpa using hr.2, fun m hm => ?_⟩
  have hw := hr.1
  rw [wayS_iff, (cst_here h hi h0).2, hkey, Int.toNat_natCast, costN_cost hi] at hw
  rw [t_g0 hi, hkey] at hm ⊢
  have hm2 := TabT.cost_lt hi (key : Int)
  have := hw m hm
  rw [Nat.add_zero, way_cell (by omega) (by omega)] at this
  have hcy := TabT.cy_lt (n := l.length) (i := TabT.own l.length (key : Int) + m) (by have := TabT.own_lt (n := l.length) (by omega) (key : Int); omega)
  rw [us_part hS hcy]
  exact decide_eq_true this
theorem ins_part {l S : List Int} (h : tblB l = true) (hS : ∀ x ∈ S, 0 ≤ x) {i : Nat} (hi : i < l.length) (h0 : 0 ≤ l.getD i 0) (hr : rdyB l S (l.getD i 0) = true) : TabT.ins (partOf l S) (l.getD i 0) = partOf l (S ++ [l.getD i 0]) := by
  have hp := TabT.ready_pos (part_part l S hS) (rdy_ready h hS hi h0 hr)
  rw [t_g0 hi] at hp
  rw [TabT.ins, hp, part_set h hi h0]
theorem fo_order {l : List Int} (h : tblB l = true) : ∀ (d : Nat) (S : List Int), Done l S → S.length + d = (keysZ l).length → ∃ R, fo l d S = S ++ R ∧ TabT.insAll (partOf l S) R = l
  | 0, S, D, hl => by
    refine ⟨[], by simp [fo], ?_⟩
    have hall : ∀ x ∈ keysZ l, x ∈ S := by
      intro x hx
      by_cases c : x ∈ S
      · exact c
      · have := sub_len (x :: S) (keysZ l) (List.nodup_cons.2 ⟨c, D.nodup⟩) (fun y hy => by
          rcases List.mem_cons.1 hy with rfl | hy
          · exact hx
          · exact D.mem y hy)
        rw [List.length_cons] at this
        omega
    show partOf l S = l
    refine List.ext_getElem (part_len l S) (fun i h1 h2 => ?_)
    have hv := (tblB_parts h).2.2.1 i h2
    rw [← getD_get h1, ← getD_get h2, part_get l S h2]
    by_cases c : l.getD i 0 ∈ S
    · rw [if_pos c]
    · rw [if_neg c]
      by_cases q : 0 ≤ l.getD i 0
      · exact absurd (hall _ (keysZ_mem.2 ⟨getD_mem h2, q⟩)) c
      · omega
  | d + 1, S, D, hl => by
    have hne := not_done h D (by omega)
    rw [fo]
    cases e : (keysZ l).filter (rdyB l S) with
    | nil => exact absurd e hne
    | cons x r =>
      obtain ⟨D2, hx, hxS⟩ := D.snoc e
      have hr : rdyB l S x = true := (List.mem_filter.1 (by rw [e]; exact List.mem_cons_self : x ∈ (keysZ l).filter (rdyB l S))).2
      obtain ⟨i, hi, rfl, h0⟩ := key_at hx
      obtain ⟨R, r1, r2⟩ := fo_order h d _ D2 (by rw [List.length_append, List.length_singleton]; omega)
      refine ⟨l.getD i 0 :: R, (show fo l d (S ++ [l.getD i 0]) = S ++ l.getD i 0 :: R by rw [r1]; simp), ?_⟩
      show TabT.insAll (TabT.ins (partOf l S) (l.getD i 0)) R = l
      rw [ins_part h D.nonneg hi h0 hr]
      exact r2
theorem order_makes {l : List Int} (h : tblB l = true) : TabT.insAll (TabT.empty l.length) (fo l (keysZ l).length []) = l := by
  obtain ⟨R, r1, r2⟩ := fo_order h (keysZ l).length [] (Done.nil l) (by simp)
  rw [r1, List.nil_append, ← part_nil l]
  exact r2
end Go.Proofs.Ytjhpnihlmnlehaa.Pure
namespace Go.Proofs.Ytjhpnihlmnlehaa.Pure
open Go.RowKit Go.Proofs.Ytjhpnihlmnlehaa.G Go.Proofs.YtjhpnihlmnlehaaW.PrintWords Go.Proofs.YtjhpnihlmnlehaaW.PrintLast
def usV (l : List Int) : List Int × Bool := if tblB l = true then (idxsTo posP l l.length, true) else ([], false)
theorem usV_len (l : List Int) : (usV l).1.length ≤ l.length := by
  unfold usV
  split
  · exact idxsTo_len _ _ _
  · simp
theorem uparts {l : List Int} (h : tblB l = true) : 2 ≤ l.length ∧ l.length ≤ 12 ∧ (∀ j, j < l.length → -1 ≤ l.getD j 0 ∧ l.getD j 0 ≤ 999) := by
  unfold tblB at h
  simp only [Bool.and_eq_true, decide_eq_true_eq] at h
  exact ⟨by omega, by omega, fun j hj => allT_get h.1.1.2 hj⟩
theorem impl_Used_ev (l : List Int) (hn : l.length ≤ 4611686018427387904) : Ev (fun k => impl_UsedCells.f k l) (usV l) := by
  unfold impl_UsedCells.f usV
  refine Ev.bind (isTable_ev l hn) ?_
  cases h : tblB l with
  | false => simp only [Bool.false_eq_true, if_false]; exact Ev.now _
  | true =>
    obtain ⟨h1, h2, h3⟩ := uparts h
    simp only [if_true, show impl_Table_used.f l = some (idxsTo posP l l.length) by unfold impl_Table_used.f; rw [if_pos (by omega)], Option.bind_some]
    exact Ev.now _
def coV (l : List Int) : Int × Bool := if tblB l = true then ((costsV l).sum, true) else (0, false)
theorem impl_Cost_ev (l : List Int) (hn : l.length ≤ 4611686018427387904) : Ev (fun k => impl_CostOf.f k l) (coV l) := by
  unfold impl_CostOf.f coV
  refine Ev.bind (isTable_ev l hn) ?_
  cases h : tblB l with
  | false => simp only [Bool.false_eq_true, if_false]; exact Ev.now _
  | true =>
    obtain ⟨h1, h2, h3, h4⟩ := tblB_parts h
    simp only [if_true]
    refine Ev.bind (tcosts_ev l h1 h2 h3) ?_
    have hl := cosTo_len l l.length
    refine Ev.bind (t_total_ev (costsV l) (by unfold costsV; omega) (fun j => by have := costsV_get h1 j; omega)) ?_
    exact Ev.now _
def tbV (a : Int) (l : List Int) : List Int × Bool := if keysB l a = true then (TabT.insAll (TabT.empty a.toNat) l, true) else ([], false)
theorem impl_TableOf_ev (a : Int) (l : List Int) (hn : l.length ≤ 1048576) : Ev (fun k => impl_TableOf.f k a l) (tbV a l) := by
  unfold impl_TableOf.f tbV
  simp only [areKeys_f l a hn, Option.bind_some]
  cases h : keysB l a with
  | false => simp only [Bool.false_eq_true, if_false]; exact Ev.now _
  | true =>
    obtain ⟨h1, h2, h3, h4, h5⟩ := keysB_parts h
    obtain ⟨n, rfl⟩ : ∃ n : Nat, a = n := ⟨a.toNat, by omega⟩
    simp only [if_true, Int.toNat_natCast, t_empty_eq n (by omega), Option.bind_some]
    exact tableOf_ev n l (by omega) (by omega) (by omega) h4
def kyV (l : List Int) : List Int × Bool := if tblB l = true then (keysZ l, true) else ([], false)
theorem impl_Keys_ev (l : List Int) (hn : l.length ≤ 4611686018427387904) : Ev (fun k => impl_KeysOf.f k l) (kyV l) := by
  unfold impl_KeysOf.f kyV
  refine Ev.bind (isTable_ev l hn) ?_
  cases h : tblB l with
  | false => simp only [Bool.false_eq_true, if_false]; exact Ev.now _
  | true =>
    simp only [if_true, keys_f h, Option.bind_some]
    exact Ev.now _
theorem tbl_Cells {l : List Int} (h : tblB l = true) : Cells l := by
  obtain ⟨h1, h2, h3, h4⟩ := tblB_parts h
  exact h3
theorem tbl_Free {l : List Int} (h : tblB l = true) : TabT.Free l := by
  obtain ⟨h1, h2, h3, h4⟩ := tblB_parts h
  obtain ⟨j, hj, e⟩ := List.getElem_of_mem h4
  refine ⟨j, hj, ?_⟩
  rw [TabT.us, decide_eq_false_iff_not, List.getD_eq_getElem?_getD, List.getElem?_eq_getElem hj, e]
  decide
def inV (l : List Int) (a : Int) : List Int × Int × Bool := if tblB l = true ∧ (0 ≤ a ∧ a ≤ 999) ∧ a ∉ l ∧ (keysZ l).length + 1 ≠ l.length then (TabT.ins l a, ((TabT.pos l a : Nat) : Int), true) else ([], 0, false)
theorem inV_len (l : List Int) (a : Int) : (inV l a).1.length ≤ l.length := by
  unfold inV
  split
  · rw [ins_len]; exact Nat.le_refl _
  · simp
theorem own_eq (l : List Int) (hn : l.length ≤ 1000000) : spec_l1Own.f l = some l := by
  unfold spec_l1Own.f
  simp only [Option.bind_some, List.nil_append, List.length_nil]
  rw [if_pos (by omega)]
theorem copied_eq (l : List Int) (hn : l.length ≤ 1000000) : impl_Table_copied.f l = some l := by
  unfold impl_Table_copied.f slices_Clone_int_int.f
  rw [if_pos (by omega)]
  rfl
theorem key_eq (a : Int) : spec_prKey.f a = some (decide (0 ≤ a ∧ a ≤ 999)) := by
  unfold spec_prKey.f
  rw [l1In_eq]; rfl
theorem isKey_eq' (a : Int) : impl_isKey.f a = some (decide (0 ≤ a ∧ a ≤ 999)) := by
  unfold impl_isKey.f
  rw [between_eq]; rfl
theorem spec_Insert_ev (l : List Int) (a : Int) (hn : l.length ≤ 4611686018427387904) : Ev (fun k => spec_InsertKey.f k l a) (inV l a) := by
  unfold spec_InsertKey.f
  have stop : Ev (fun k => spec_InsertKey.j0 k a true l) (([], 0, false) : List Int × Int × Bool) := Ev.end_ fun k => by rw [spec_InsertKey.j0, if_pos rfl]
  refine Ev.bind (prGood_ev l hn) ?_
  cases h : tblB l with
  | false =>
    rw [show inV l a = ([], 0, false) by unfold inV; rw [h]; simp]
    simp only [Bool.false_eq_true, if_false]
    exact stop
  | true =>
    obtain ⟨h1, h2, h3, h4⟩ := tblB_parts h
    simp only [if_true, key_eq, Option.bind_some, decide_eq_true_eq]
    by_cases ha : 0 ≤ a ∧ a ≤ 999
    · simp only [ha, and_self, if_true]
      refine Ev.bind (l1Has_ev l a hn) ?_
      by_cases hm : a ∈ l
      · rw [show inV l a = ([], 0, false) by unfold inV; rw [if_neg (fun e => e.2.2.1 hm)], decide_eq_true hm]
        simp only [if_true]
        exact stop
      · rw [decide_eq_false hm]
        simp only [Bool.false_eq_true, if_false]
        refine Ev.bind (prMany_ev l (by omega)) ?_
        rw [many_keysZ (fun j hj => (h3 j hj).1), wrap_id (x := (l.length : Int) - 1) (by omega) (by omega)]
        by_cases hq : (keysZ l).length + 1 = l.length
        · rw [show inV l a = ([], 0, false) by unfold inV; rw [if_neg (fun e => e.2.2.2 hq)], beq_iff_eq.mpr (show (((keysZ l).length : Nat) : Int) = (l.length : Int) - 1 by omega)]
          exact stop
        · rw [show inV l a = (TabT.ins l a, ((TabT.pos l a : Nat) : Int), true) by unfold inV; rw [if_pos ⟨h, ha, hm, hq⟩], beq_eq_false_iff_ne.mpr (show (((keysZ l).length : Nat) : Int) ≠ (l.length : Int) - 1 by omega)]
          refine Ev.step (f := fun k => (spec_l1Own.f l).bind fun t => (spec_prInsert.f k t a).bind fun bt => some (bt.2, bt.1, true)) (fun k => by rw [spec_InsertKey.j0, if_neg (by decide)]) ?_
          simp only [own_eq l (by omega), Option.bind_some]
          refine Ev.bind (prInsert_ev l a (by omega) (by omega) (tbl_Cells h) (tbl_Free h) ha.1 ha.2) ?_
          exact Ev.now _
    · rw [show inV l a = ([], 0, false) by unfold inV; rw [if_neg (fun e => ha e.2.1)]]
      simp only [ha, if_false]
      exact stop
theorem impl_Insert_ev (l : List Int) (a : Int) (hn : l.length ≤ 4611686018427387904) : Ev (fun k => impl_InsertKey.f k l a) (inV l a) := by
  unfold impl_InsertKey.f
  have stop : Ev (fun k => impl_InsertKey.j0 k a true l) (([], 0, false) : List Int × Int × Bool) := Ev.end_ fun k => by rw [impl_InsertKey.j0, if_pos rfl]
  refine Ev.bind (isTable_ev l hn) ?_
  cases h : tblB l with
  | false =>
    rw [show inV l a = ([], 0, false) by unfold inV; rw [h]; simp]
    simp only [Bool.false_eq_true, if_false]
    exact stop
  | true =>
    obtain ⟨h1, h2, h3, h4⟩ := tblB_parts h
    simp only [if_true, isKey_eq', Option.bind_some, decide_eq_true_eq]
    by_cases ha : 0 ≤ a ∧ a ≤ 999
    · simp only [ha, and_self, if_true]
      refine Ev.bind (containsI_ev l a hn) ?_
      by_cases hm : a ∈ l
      · rw [show inV l a = ([], 0, false) by unfold inV; rw [if_neg (fun e => e.2.2.1 hm)], decide_eq_true hm]
        simp only [if_true]
        exact stop
      · rw [decide_eq_false hm]
        have hkl := keysZ_len l
        simp only [Bool.false_eq_true, if_false, keys_f h, Option.bind_some]
        rw [wrap_id (x := ((keysZ l).length : Int) + 1) (by omega) (by omega)]
        by_cases hq : (keysZ l).length + 1 = l.length
        · rw [show inV l a = ([], 0, false) by unfold inV; rw [if_neg (fun e => e.2.2.2 hq)], beq_iff_eq.mpr (show ((keysZ l).length : Int) + 1 = (l.length : Int) by omega)]
          exact stop
        · rw [show inV l a = (TabT.ins l a, ((TabT.pos l a : Nat) : Int), true) by unfold inV; rw [if_pos ⟨h, ha, hm, hq⟩], beq_eq_false_iff_ne.mpr (show ((keysZ l).length : Int) + 1 ≠ (l.length : Int) by omega)]
          refine Ev.step (f := fun k => (impl_Table_copied.f l).bind fun t => (impl_Table_insert.f k t a).bind fun bt => some (bt.2, bt.1, true)) (fun k => by rw [impl_InsertKey.j0, if_neg (by decide)]) ?_
          simp only [copied_eq l (by omega), Option.bind_some]
          refine Ev.bind (tInsert_ev l a (by omega) (by omega) (tbl_Cells h) (tbl_Free h) ha.1 ha.2) ?_
          exact Ev.now _
    · rw [show inV l a = ([], 0, false) by unfold inV; rw [if_neg (fun e => ha e.2.1)]]
      simp only [ha, if_false]
      exact stop
def fiV (l : List Int) : List Int × Bool := if tblB l = true then (fo l (keysZ l).length [], true) else ([], false)
theorem impl_First_ev (l : List Int) (hn : l.length ≤ 4611686018427387904) : Ev (fun k => impl_FirstInsertion.f k l) (fiV l) := by
  unfold impl_FirstInsertion.f fiV
  refine Ev.bind (isTable_ev l hn) ?_
  cases h : tblB l with
  | false => simp only [Bool.false_eq_true, if_false]; exact Ev.now _
  | true =>
    simp only [if_true, first_f h, Option.bind_some]
    exact Ev.now _
theorem held_ok {l : List Int} (hb : Bytes l) (p s : Int) (t : List Int) (h0 : 0 ≤ p) (h1 : p ≤ 10000000000) (ht : t.length ≤ 100) : ∃ v p' s', Ev (fun k => spec_l1Cur_held.f k l p s t) (v, p', s') := by
  have other : ∀ p s : Int, 0 ≤ p → p ≤ 100000000000 → ∃ v p' s', Ev (fun k => spec_l1Cur_held.j0 k false l p s t) (v, p', s') := fun p s h0 h1 => by
    obtain ⟨v, p1, s1, e1, b1, b2⟩ := among_ok hb p s [(-1), 0, 1, 5, 17, 999, 1000] (by simp) h0 (by omega)
    exact ⟨v, p1, s1, Ev.end_ fun k => by rw [spec_l1Cur_held.j0, if_neg (by decide), e1, Option.bind_some]⟩
  unfold spec_l1Cur_held.f
  by_cases h : (t.length : Int) > 0
  · obtain ⟨b, p1, s1, e1, b1, b2⟩ := one_ok hb p s 4 h0 (by omega)
    simp only [h, if_true, e1, Option.bind_some]
    cases b with
    | true => exact other p1 s1 (by omega) (by omega)
    | false =>
      obtain ⟨r, p2, s2, e2, b3, b4, b5, b6⟩ := pick_ok hb p1 s1 (t.length : Int) (by omega) (by omega)
      refine ⟨rd t r, p2, s2, Ev.end_ fun k => ?_⟩
      rw [spec_l1Cur_held.j0, if_pos (by rfl), e2, Option.bind_some]
      simp only [b3, if_true]
      rw [if_pos (by omega)]
  · simp only [h, if_false]
    exact other p s h0 (by omega)
theorem DrawInsertKey_ok {l : List Int} (hb : Bytes l) : ∃ t a, Ev (fun k => spec_DrawInsertKey.f k l) (t, a) ∧ t.length ≤ 21 := by
  obtain ⟨t, p1, s1, he, ho, q1, q2⟩ := table_ok hb 0 0 (by omega) (by omega)
  obtain ⟨b, p2, s2, e2, b1, b2⟩ := one_ok hb p1 s1 4 q1 (by omega)
  unfold spec_DrawInsertKey.f
  cases b with
  | true =>
    obtain ⟨v, p3, s3, h3⟩ := held_ok hb p2 s2 t (by omega) (by omega) (by omega)
    refine ⟨t, v, Ev.bind he ?_, ho⟩
    simp only [e2, Option.bind_some, if_true]
    exact Ev.bind h3 (Ev.now _)
  | false =>
    obtain ⟨v, p3, s3, e3, b3, b4⟩ := among_ok hb p2 s2 [12, 1000] (by simp) (by omega) (by omega)
    obtain ⟨r, p4, s4, e4, b5, b6, b7, b8⟩ := pick_ok hb p3 s3 v (by omega) (by omega)
    refine ⟨t, r, Ev.bind he ?_, ho⟩
    simp only [e2, Option.bind_some, Bool.false_eq_true, if_false, e3, e4]
    exact Ev.now _
theorem DrawRemoveKey_ok {l : List Int} (hb : Bytes l) : ∃ t a, Ev (fun k => spec_DrawRemoveKey.f k l) (t, a) ∧ t.length ≤ 21 := by
  obtain ⟨t, p1, s1, he, ho, q1, q2⟩ := table_ok hb 0 0 (by omega) (by omega)
  obtain ⟨v, p3, s3, h3⟩ := held_ok hb p1 s1 t (by omega) (by omega) (by omega)
  refine ⟨t, v, ?_, ho⟩
  unfold spec_DrawRemoveKey.f
  have h : Ev (fun k => spec_DrawFindKey.f k l) (t, v) := by
    unfold spec_DrawFindKey.f
    refine Ev.bind he ?_
    exact Ev.bind h3 (Ev.now _)
  exact Ev.bind h (Ev.now _)
theorem jHas_l0 (x : List Int) (a : Int) (hn : x.length ≤ 1000000) (ha : a ∉ x) : ∀ (d i : Nat), i + d = x.length → Ev (fun k => laws_jHas.l0 k a x (x.length : Int) i) false := by
  intro d
  induction d with
  | zero =>
    intro i hi
    exact Ev.end_ fun k => by rw [laws_jHas.l0, if_neg (by omega)]
  | succ d ih =>
    intro i hi
    refine Ev.one (ih (i + 1) (by omega)) fun k => ?_
    have hne : ¬ x.getD i 0 = a := fun e => ha (e ▸ getD_mem (by omega))
    rw [laws_jHas.l0, if_pos (by omega), if_pos (by omega), if_pos (by omega), rd_nat, if_neg hne, wrap_next (n := x.length) (by omega) (by omega)]
theorem jHas_not (x : List Int) (a : Int) (hn : x.length ≤ 1000000) (ha : a ∉ x) : Ev (fun k => laws_jHas.f k x a) false := by
  unfold laws_jHas.f
  exact jHas_l0 x a hn ha x.length 0 (by omega)
theorem fo_keys {l : List Int} (h : tblB l = true) : keysB (fo l (keysZ l).length []) (l.length : Int) = true ∧ (fo l (keysZ l).length []).length ≤ l.length := by
  obtain ⟨h1, h2, h3, h4⟩ := tblB_parts h
  have D := fo_done (keysZ l).length [] (Done.nil l)
  have hm := TabT.many_of_free (tbl_Free h)
  have hk := (keysZ_keys l).length_eq
  have hle := D.le
  rw [TabT.many_keys] at hm
  refine ⟨?_, by omega⟩
  rw [keysB, Bool.and_eq_true, Bool.and_eq_true, Bool.and_eq_true, decide_eq_true_eq, decide_eq_true_eq, decide_eq_true_eq, List.all_eq_true]
  refine ⟨⟨⟨by omega, by omega⟩, fun x hx => ?_⟩, D.nodup⟩
  obtain ⟨i, hi, e, h0⟩ := key_at (D.mem x hx)
  have := h3 i hi
  exact decide_eq_true (by omega)
theorem iar_j2 (v w : List Int) (a : Int) (ok : Bool) (hv : v.length ≤ 100) (hw : w.length ≤ 100) (h : ok = true → tblB v = true ∧ Less v w a) : Ev (fun k => laws_FnInsertAndRemove.j2 k a ok false v w) true := by
  cases ok with
  | false => exact Ev.end_ fun k => by rw [laws_FnInsertAndRemove.j2, if_neg (by decide), if_neg (by decide)]
  | true =>
    obtain ⟨hT, L⟩ := h rfl
    have hl := L.len
    obtain ⟨f1, f2⟩ := fo_keys L.tbl
    have e1 : fiV w = (fo w (keysZ w).length [], true) := by rw [fiV, if_pos L.tbl]
    have e2 : tbV (v.length : Int) (fo w (keysZ w).length []) = (w, true) := by
      rw [← hl, tbV, if_pos f1, Int.toNat_natCast, order_makes L.tbl]
    have e3 : kyV w = (keysZ w, true) := by rw [kyV, if_pos L.tbl]
    have e4 : kyV v = (keysZ v, true) := by rw [kyV, if_pos hT]
    have p1 := (keysZ_keys v).trans (L.keys.trans ((keysZ_keys w).symm.cons a))
    have hlen := p1.length_eq
    rw [List.length_cons] at hlen
    have hnot : a ∉ keysZ w := by
      have hn := (p1.nodup_iff.1 ((keysZ_strict hT).imp (fun h => by omega)))
      exact (List.nodup_cons.1 hn).1
    have hk1 := keysZ_len w
    have hk2 := keysZ_len v
    refine Ev.step (f := fun k => (impl_FirstInsertion.f k w).bind fun bt507 => ((impl_TableOf.f k (v.length : Int) bt507.1).bind fun bt511 => ((impl_KeysOf.f k w).bind fun bt516 => ((impl_KeysOf.f k v).bind fun bt520 => (if bt507.2 = true then (if bt511.2 = true then ((laws_jTable.f k bt511.1 w).bind fun t524 => (if t524 = true then (if bt516.2 = true then (if bt520.2 = true then (if (bt516.1.length : Int) = (wrap64 ((bt520.1.length : Int) - 1)) then ((laws_jHas.f k bt516.1 a).bind fun t525 => (some (!t525))) else (some false)) else (some false)) else (some false)) else (some false))) else (some false)) else (some false)))))) (fun k => by rw [laws_FnInsertAndRemove.j2, if_neg (by decide), if_pos rfl]) ?_
    refine Ev.bind (impl_First_ev w (by omega)) ?_
    rw [e1]
    refine Ev.bind (impl_TableOf_ev (v.length : Int) _ (by simp only; omega)) ?_
    simp only [e2]
    refine Ev.bind (impl_Keys_ev w (by omega)) ?_
    refine Ev.bind (impl_Keys_ev v (by omega)) ?_
    simp only [e3, e4, if_true]
    refine Ev.bind (t_jTable_ev w w (by omega)) ?_
    simp only [decide_true, if_true]
    have hc : (((keysZ w).length : Int) = wrap64 (((keysZ v).length : Int) - 1)) = True := eq_true (by rw [wrap_id (by omega) (by omega)]; omega)
    simp only [hc, if_true]
    refine Ev.bind (jHas_not _ a (by omega) hnot) ?_
    exact Ev.now _
theorem iar_j1 {l1 : List Int} (hb : Bytes l1) : Ev (fun k => laws_FnInsertAndRemove.j1 k l1) true := by
  obtain ⟨v, a, hd, hl⟩ := DrawRemoveKey_ok hb
  obtain ⟨r, e1, e2, e3, e4, e5⟩ := rm_val v a (by omega)
  refine Ev.step (fun k => by rw [laws_FnInsertAndRemove.j1]) ?_
  refine Ev.bind hd ?_
  refine Ev.bind e1 ?_
  refine Ev.bind e2 ?_
  refine Ev.bind (impl_FindKey_ev v a (by omega)) ?_
  simp only [bne_self_eq_false, Bool.false_eq_true, if_false]
  refine Ev.bind (t_jTable_ev _ _ (by omega)) ?_
  simp only [decide_true, if_true, ← e4, bne_self_eq_false]
  exact iar_j2 v r.1 a r.2 (by omega) (by omega) e5
theorem iar_j0 {l1 : List Int} (hb : Bytes l1) (l : List Int) (a : Int) (hl : l.length ≤ 100) : Ev (fun k => laws_FnInsertAndRemove.j0 k l1 a (inV l a).2.1 (inV l a).2.2 false l (inV l a).1) true := by
  by_cases c : tblB l = true ∧ (0 ≤ a ∧ a ≤ 999) ∧ a ∉ l ∧ (keysZ l).length + 1 ≠ l.length
  · rw [inV, if_pos c]
    obtain ⟨hT, ha, hm, hq⟩ := c
    obtain ⟨h1, h2, h3, h4⟩ := tblB_parts hT
    have hF := tbl_Free hT
    have hmany := TabT.many_of_free hF
    rw [TabT.many_keys, ← (keysZ_keys l).length_eq] at hmany
    have hnk : a ∉ TabT.keys l := fun e => hm (List.mem_filter.1 e).1
    have hp := TabT.pos_lt hF a
    have hpf := TabT.pos_free hF a
    have V := TabT.Valid.ins (tbl_valid hT) ha.1 hnk (by rw [TabT.many_keys, ← (keysZ_keys l).length_eq]; omega)
    have hul : (TabT.ins l a).length = l.length := ins_len l a
    have bU : tblB (TabT.ins l a) = true := valid_tbl (by omega) (by omega) ((tbl_cells hT).ins hF ha.1 ha.2) V
    have hks : (TabT.keys (TabT.ins l a)).Perm (a :: TabT.keys l) := TabT.keys_set l _ a hp hpf ha.1
    obtain ⟨j, f1, f2, f3, f4⟩ := found bU (hks.mem_iff.2 List.mem_cons_self)
    have hget : (TabT.ins l a).getD (TabT.pos l a) 0 = a := by
      rw [TabT.ins, TabT.getD_set _ _ _ _ _ hp, if_pos rfl]
    have hj : j = TabT.pos l a := by
      rcases Nat.lt_trichotomy j (TabT.pos l a) with c | c | c
      · exact absurd (f3.trans hget.symm) (tbl_dist bU j _ c (by omega) (by omega))
      · exact c
      · exact absurd (hget.trans f3.symm) (tbl_dist bU _ j c f2 (by omega))
    subst hj
    obtain ⟨r, e1, e2, e3, e4, e5⟩ := rm_val (TabT.ins l a) a (by omega)
    rw [f1] at e4
    obtain ⟨_, L⟩ := e5 e4
    have pk : (TabT.keys l).Perm (TabT.keys r.1) := (hks.symm.trans L.keys).cons_inv
    have al := TabT.alike_of_keys (tbl_valid hT) (tbl_valid L.tbl) (by rw [L.len, hul]) pk
    have g1 : usV l = (idxsTo posP l l.length, true) := by rw [usV, if_pos hT]
    have g2 : usV r.1 = (idxsTo posP l l.length, true) := by rw [usV, if_pos L.tbl, used_alike al.1]
    have g3 : coV l = (((TabT.total l : Nat) : Int), true) := by rw [coV, if_pos hT, costsV_sum]
    have g4 : coV r.1 = (((TabT.total l : Nat) : Int), true) := by rw [coV, if_pos L.tbl, costsV_sum, al.2]
    have g5 : l.getD (TabT.pos l a) 0 = -1 := by
      have := us_free hp hpf
      have := (h3 _ hp).1
      omega
    have gl : (idxsTo posP l l.length).length ≤ 100 := by
      have := usV_len l
      rw [g1] at this
      exact Nat.le_trans this hl
    have hf := impl_FindKey_ev (TabT.ins l a) a (by omega)
    rw [f1] at hf
    refine Ev.step (f := fun k => (impl_FindKey.f k (TabT.ins l a) a).bind fun bt466 => ((impl_RemoveKey.f k (TabT.ins l a) a).bind fun bt469 => ((impl_UsedCells.f k l).bind fun bt474 => ((impl_UsedCells.f k bt469.1).bind fun bt478 => ((impl_CostOf.f k l).bind fun bt482 => ((impl_CostOf.f k bt469.1).bind fun bt484 => (if bt466.2.2 = true then (if bt466.1 = ((TabT.pos l a : Nat) : Int) then (if bt469.2 = true then (if bt474.2 = true then (if bt478.2 = true then ((laws_jSame.f k bt474.1 bt478.1).bind fun t486 => (if t486 = true then (if bt482.2 = true then (if bt484.2 = true then (if bt482.1 = bt484.1 then (if 0 ≤ ((TabT.pos l a : Nat) : Int) then (if ((TabT.pos l a : Nat) : Int) < (l.length : Int) then (if (rd l ((TabT.pos l a : Nat) : Int)) = (-1) then (laws_FnInsertAndRemove.j1 k l1) else (some false)) else (none)) else (none)) else (some false)) else (some false)) else (some false)) else (some false))) else (some false)) else (some false)) else (some false)) else (some false)) else (some false))))))))  (fun k => by rw [laws_FnInsertAndRemove.j0, if_neg (by decide), if_pos rfl]) ?_
    refine Ev.bind hf ?_
    refine Ev.bind e1 ?_
    refine Ev.bind (impl_Used_ev l (by omega)) ?_
    refine Ev.bind (impl_Used_ev r.1 (by omega)) ?_
    refine Ev.bind (impl_Cost_ev l (by omega)) ?_
    refine Ev.bind (impl_Cost_ev r.1 (by omega)) ?_
    simp only [e4, g1, g2, g3, g4, if_true]
    refine Ev.bind (t_jSame_ev _ _ (by omega)) ?_
    simp only [decide_true, if_true, rd_nat, g5]
    simp only [show (0 : Int) ≤ ((TabT.pos l a : Nat) : Int) by omega, show ((TabT.pos l a : Nat) : Int) < (l.length : Int) by omega, if_true]
    exact iar_j1 hb
  · rw [inV, if_neg c]
    exact Ev.one (iar_j1 hb) fun k => by rw [laws_FnInsertAndRemove.j0, if_neg (by decide), if_neg (by decide)]
theorem FnInsertAndRemove : laws_FnInsertAndRemove.Pure := by
  intro l0 l1 h1 h2 h3 h4 h5 h6
  refine Ev.rounds ?_
  have hb0 := bytes_of h3
  have hb1 := bytes_of h6
  unfold laws_FnInsertAndRemove.f
  obtain ⟨b, hbig⟩ := big_eq l0 l1
  simp only [hbig, Option.bind_some]
  cases b with
  | true => simp only [if_true]; exact Ev.now _
  | false =>
    simp only [Bool.false_eq_true, if_false]
    obtain ⟨l, a, hd, hl⟩ := DrawInsertKey_ok hb0
    refine Ev.bind hd ?_
    refine Ev.bind (impl_Insert_ev l a (by omega)) ?_
    refine Ev.bind (spec_Insert_ev l a (by omega)) ?_
    simp only [bne_self_eq_false, Bool.false_eq_true, if_false]
    have hrl := inV_len l a
    refine Ev.bind (t_jTable_ev _ _ (by omega)) ?_
    simp only [decide_true, if_true]
    exact iar_j0 hb1 l a (by omega)
end Go.Proofs.Ytjhpnihlmnlehaa.Pure
namespace Go.Proofs.YtjhpnihlmnlehaaW.PrintWords
open Go.ChangeShapes Go.WideShapes
theorem sized_ints {H : Type} {enc : TypeId × Value → H} {P : Program} {W : World} {base : Nat} {spare : Nat → Bool} {held : Bool} {t e : TypeId} {k : IntKind} {a : Option Addr} {len cap : Nat} {d : DataW H} {ps : List MemPlace} {ts : List TypeId} {ds : List (DataW H)} {j : Nat}
    (hsz : (DataW.weightsEach P ts ds).all (· ≤ reachBytes) = true) (ht : ts[j]? = some t) (hd : ds[j]? = some d) (hu : P.underlying t = some (.slice e)) (he : P.underlying e = some (.int k)) (hc : P.cellsOf e = 1) {B : Nat} (hB : P.bytesOf e = B)
    (h : DataW.Trod enc P W base spare held t (.slice a len cap) d ps) : len * B ≤ 140737488351232 := by
  obtain ⟨fuel, hf⟩ := h
  rcases open_ints hu he hc hf with ⟨hcs, _⟩ | ⟨x, l, c, zs, hcs, _, hl, _, hz, hx, _, _⟩
  · simp [Value.cells] at hcs
    obtain ⟨rfl, rfl, rfl⟩ := hcs
    simp
  · simp [Value.cells] at hcs
    obtain ⟨rfl, rfl, rfl⟩ := hcs
    obtain ⟨hx, _⟩ := Prod.mk.inj hx
    subst hx
    have z := sized_slice hsz ht hd hu
    rw [hB] at z
    have hl2 : len ≤ zs.length := by
      rw [hz]
      split
      · exact hl
      · exact Nat.le_refl _
    have h1 : (lits (H := H) k (zs.take len)).length + (lits (H := H) k (zs.drop len)).length = zs.length := by
      simp [lits]
      omega
    rw [h1] at z
    exact Nat.le_trans (Nat.mul_le_mul_right _ hl2) z
end Go.Proofs.YtjhpnihlmnlehaaW.PrintWords
namespace Go.Proofs.Ytjhpnihlmnlehaa.fnInsertAndRemove
open Go.ChangeShapes Go.WideShapes Go.ChangeAt Go.RowKit
open Go.ChangeMaps (open_string shut_string)
theorem own : ownKnob Try.prog.godebug = none := by kernel_rfl
theorem laidOut : laidOutB Try.prog = true := by kernel_rfl
def IsRow (k : IntKind) (w : World) (a : Option Addr) (len cap : Nat) (zs : List Int) : Prop :=
  (a = none ∧ len = 0 ∧ cap = 0 ∧ zs = []) ∨
  ∃ x, a = some x ∧ len ≤ cap ∧ cap ≤ maxLen ∧ zs.length = cap ∧ (∀ i, i < zs.length → w.cell? (x.add i) = some (.int k (zs.getD i 0))) ∧ ∀ n ∈ zs, (Lit.int k n).wf = true
set_option maxRecDepth 100000 in
theorem lifted (os : Os) (started : os.Started) (H : Type) (enc : TypeId × Value → H) :
    ReturnsInHanded {} Try.checked os 3 .any (Rows.fnInsertAndRemoveSpec.pre6 enc Try.prog Try.f3 Rows.fnInsertAndRemoveRow.domain false) (Rows.fnInsertAndRemoveSpec.post enc Try.prog Try.f3 false true false false) := by
  refine returnsInHanded_of_change_sized (C := Try.checked) own started (by kernel_rfl) Try.func3
    (ChangeSpec.witness6 (enc := enc) (C := Try.checked) false ⟨#[], #[.slice none 0 0, .slice none 0 0], []⟩ 8 (by kernel_rfl) (by kernel_rfl) (by kernel_rfl) (by kernel_rfl)) ?_
  intro W base args ds gs before hval0 hW hcnd hsz0 _
  have hsz : (DataW.weightsEach Try.prog (Try.f3.params.toList ++ Rows.fnInsertAndRemoveSpec.plain.varTypes Try.prog) (ds ++ gs)).all (· ≤ reachBytes) = true := hsz0
  have hval : ∀ (j : Nat) t v, Try.f3.params[j]? = some t → args[j]? = some v → Value.okWide Try.prog W .any base t v := hval0
  have hW' := hW
  obtain ⟨p, q, hA0, hV, rfl, hfz, hnd⟩ := hW
  have hA : DataW.TrodAll enc Try.prog W 0 (fun _ => true) true Try.f3.params.toList args.toList ds p := hA0
  rw [Try.params3] at hA hval hsz
  obtain ⟨v0, vs0, d0, ds0, p0, q0, hargs, rfl, rfl, h0, r0⟩ := trodAll_cons hA
  obtain ⟨v1, vs1, d1, ds1, p1, q1, rfl, rfl, rfl, h1, r1⟩ := trodAll_cons r0
  obtain ⟨rfl, rfl, rfl⟩ := trodAll_nil r1
  obtain rfl : args = #[v0, v1] := by cases args; simp_all
  obtain ⟨rfl, rfl⟩ := trodVars_none hV
  obtain ⟨a0, len0, cap0, rfl⟩ := okWide_slice Try.underlying22 (hval 0 22 v0 rfl rfl)
  have k0 := h0
  have lt0 : ∀ x ∈ p0, x.block < W.heap.size := by obtain ⟨m, hm⟩ := k0; exact DataW.trod_lt m _ _ _ hm
  obtain ⟨z0, w0⟩ : ∃ zs, IsRow .u8 W a0 len0 cap0 zs := by
    obtain ⟨fuel, hf⟩ := h0
    rcases open_ints Try.underlying22 Try.underlying5 (by kernel_rfl) hf with ⟨hcs, _⟩ | ⟨x, l, c, zs, hcs, _, hl, hm, hz, _, hcell, hwz⟩
    · simp [Value.cells] at hcs
      obtain ⟨rfl, rfl, rfl⟩ := hcs
      exact ⟨[], .inl ⟨rfl, rfl, rfl, rfl⟩⟩
    · simp [Value.cells] at hcs
      obtain ⟨rfl, rfl, rfl⟩ := hcs
      exact ⟨zs, .inr ⟨_, rfl, hl, hm, by simpa using hz, hcell, hwz⟩⟩
  have y0 : len0 * 1 ≤ 140737488351232 := Go.Proofs.YtjhpnihlmnlehaaW.PrintWords.sized_ints hsz (j := 0) (t := 22) rfl rfl Try.underlying22 Try.underlying5 (by kernel_rfl) (by kernel_rfl) h0
  obtain ⟨a1, len1, cap1, rfl⟩ := okWide_slice Try.underlying22 (hval 1 22 v1 rfl rfl)
  have k1 := h1
  have lt1 : ∀ x ∈ p1, x.block < W.heap.size := by obtain ⟨m, hm⟩ := k1; exact DataW.trod_lt m _ _ _ hm
  obtain ⟨z1, w1⟩ : ∃ zs, IsRow .u8 W a1 len1 cap1 zs := by
    obtain ⟨fuel, hf⟩ := h1
    rcases open_ints Try.underlying22 Try.underlying5 (by kernel_rfl) hf with ⟨hcs, _⟩ | ⟨x, l, c, zs, hcs, _, hl, hm, hz, _, hcell, hwz⟩
    · simp [Value.cells] at hcs
      obtain ⟨rfl, rfl, rfl⟩ := hcs
      exact ⟨[], .inl ⟨rfl, rfl, rfl, rfl⟩⟩
    · simp [Value.cells] at hcs
      obtain ⟨rfl, rfl, rfl⟩ := hcs
      exact ⟨zs, .inr ⟨_, rfl, hl, hm, by simpa using hz, hcell, hwz⟩⟩
  have y1 : len1 * 1 ≤ 140737488351232 := Go.Proofs.YtjhpnihlmnlehaaW.PrintWords.sized_ints hsz (j := 1) (t := 22) rfl rfl Try.underlying22 Try.underlying5 (by kernel_rfl) (by kernel_rfl) h1
  clear hA0 hval0 hsz0 hsz
  refine (G.laws_FnInsertAndRemove.walk Pure.FnInsertAndRemove a0 len0 cap0 z0 a1 len1 cap1 z1 W w0 y0 w1 y1).mono fun e W' ⟨he, bel⟩ => ?_
  subst he
  exact ⟨_, rfl, _, _, _, [], _, [], hW', trodAll_mk1 (shut_bool Try.underlying4 _), (trodAll_cons_mk (Below.trod laidOut (by kernel_rfl) (of_decide_eq_true (by kernel_rfl)) k0 bel lt0) (trodAll_cons_mk (Below.trod laidOut (by kernel_rfl) (of_decide_eq_true (by kernel_rfl)) k1 bel lt1) trodAll_mk0)), rfl, bel.frame _, fun h => by cases h⟩
theorem over : Rows.fnInsertAndRemoveRow.holds Try.pinned (OpenSpec.ofChange Rows.fnInsertAndRemoveSpec) :=
  OpenClaim.holds_of_wide 3 Try.f3 rfl rfl rfl rfl rfl rfl rfl ⟨rfl, rfl, rfl, rfl, rfl⟩ rfl rfl rfl rfl rfl (by kernel_rfl) Try.func3 (by kernel_rfl)
    (of_decide_eq_true (by kernel_rfl)) (by unfold Func.isWrapper; first | (rw [if_pos (by decide +kernel)]; kernel_rfl) | (rw [if_neg (by decide +kernel)]; exact ⟨rfl, rfl⟩))
    (fun os started H enc _ => lifted os started H enc)
theorem proved : Rows.FnInsertAndRemoveSaid := over
#print axioms proved
end Go.Proofs.Ytjhpnihlmnlehaa.fnInsertAndRemove
namespace Go.Proofs.Ytjhpnihlmnlehaa
/-- The row, under a short name, for the claim. -/
theorem fnInsertAndRemove_holds : Rows.FnInsertAndRemoveSaid := fnInsertAndRemove.proved
end Go.Proofs.Ytjhpnihlmnlehaa
