/- The law FnExactStreetOf: part 4 of the printed functions and the facts on them that its row leans on (merged by this session's slim.py). -/
import Derived.Test.YthlkeledgmpbgaaZFnExactStreetOf3
namespace TabT
theorem keys_empty (n : Nat) : keys (empty n) = [] := by
  unfold keys empty
  rw [List.filter_eq_nil_iff]
  intro x hx
  rw [List.mem_replicate] at hx
  simp [hx.2]
theorem many_keys (t : List Int) : many t = (keys t).length := rfl
theorem Part.keys_le {p t : List Int} (hP : Part p t) : many p ≤ many t := by
  have key : ∀ (p t : List Int), p.length = t.length → (∀ i, us p i = true → us t i = true) → many p ≤ many t := by
    intro p
    induction p with
    | nil => intro t _ _; simp [many]
    | cons x p ih =>
      intro t hl hu
      cases t with
      | nil => simp at hl
      | cons y t =>
        have h0 := hu 0
        have := ih t (by simpa using hl) (fun i hi => by simpa [us] using hu (i + 1) (by simpa [us] using hi))
        simp [us] at h0
        simp only [many, List.filter_cons] at this ⊢
        by_cases hx : 0 ≤ x
        · have hy := h0 hx
          simp only [hx, hy, decide_true, if_true, List.length_cons]; omega
        · simp only [hx, decide_false, Bool.false_eq_true, if_false]
          split
          · simp only [List.length_cons]; omega
          · omega
  exact key p t hP.1 (fun i hi => (hP.2 i hi).1)
/-- From a part, the keys that are left in an order that makes the table. -/
theorem complete {t : List Int} (hV : Valid t) : ∀ (d : Nat) (p : List Int), Part p t → (∀ i, i < p.length → -1 ≤ p.getD i (-1)) → many t ≤ many p + d → ∃ ks, insAll p ks = t ∧ (keys p ++ ks).Perm (keys t) ∧ many p + ks.length = many t := by
  intro d
  induction d with
  | zero =>
    intro p hP hg hm
    refine ⟨[], ?_, ?_⟩
    · show p = t
      apply Classical.byContradiction
      intro hne
      have : ∃ i, us t i = true ∧ us p i = false := by
        apply Classical.byContradiction
        intro hn
        exact hne (hP.full hV.ge hg fun i hi => by
          cases h : us p i with
          | true => rfl
          | false => exact absurd ⟨i, hi, h⟩ hn)
      obtain ⟨i, hi, hpi⟩ := this
      have := Part.keys_le (hP.set hi)
      rw [many_set p i _ hpi (by rw [hP.1]; exact us_lt hi) (by simpa [us] using hi)] at this
      omega
    · have hle := hP.keys_le
      have : p = t := by
        apply Classical.byContradiction
        intro hne
        have : ∃ i, us t i = true ∧ us p i = false := by
          apply Classical.byContradiction
          intro hn
          exact hne (hP.full hV.ge hg fun i hi => by
            cases h : us p i with
            | true => rfl
            | false => exact absurd ⟨i, hi, h⟩ hn)
        obtain ⟨i, hi, hpi⟩ := this
        have := Part.keys_le (hP.set hi)
        rw [many_set p i _ hpi (by rw [hP.1]; exact us_lt hi) (by simpa [us] using hi)] at this
        omega
      rw [this]; simp
  | succ d ih =>
    intro p hP hg hm
    by_cases hx : ∃ i, us t i = true ∧ us p i = false
    · obtain ⟨i, hR⟩ := exists_ready hV hx
      have hk : 0 ≤ t.getD i (-1) := by have := hR.1; rw [us] at this; exact of_decide_eq_true this
      have hip : i < p.length := by rw [hP.1]; exact us_lt hR.1
      have e : ins p (t.getD i (-1)) = p.set i (t.getD i (-1)) := by rw [ins, ready_pos hP hR]
      obtain ⟨ks, h1, h2, h3⟩ := ih (ins p (t.getD i (-1))) (by rw [e]; exact hP.set hR.1) (by
        intro j hj
        rw [e, getD_set _ _ _ _ _ hip]
        split
        · omega
        · exact hg j (by simpa using hj)) (by rw [e, many_set p i _ hR.2.1 hip hk]; omega)
      rw [e, many_set p i _ hR.2.1 hip hk] at h3
      refine ⟨t.getD i (-1) :: ks, h1, ?_, by simp; omega⟩
      have hp := keys_set p i _ hip hR.2.1 hk
      rw [← e] at hp
      refine List.Perm.trans ?_ h2
      refine List.Perm.trans ?_ (hp.symm.append_right ks)
      rw [List.cons_append]
      exact List.perm_middle
    · have : p = t := hP.full hV.ge hg fun i hi => by
          cases h : us p i with
          | true => rfl
          | false => exact absurd ⟨i, hi, h⟩ hx
      exact ⟨[], by rw [this]; rfl, by rw [this]; simp, by rw [this]; rfl⟩
theorem Part.empty (t : List Int) : Part (empty t.length) t := ⟨by simp [TabT.empty], fun i hi => by rw [us_empty] at hi; cases hi⟩
theorem ge_empty (n : Nat) : ∀ i, i < (empty n).length → -1 ≤ (empty n).getD i (-1) := by
  intro i _
  unfold empty
  rw [List.getD_eq_getElem?_getD, List.getElem?_replicate]
  split <;> simp
theorem Valid.order {t : List Int} (hV : Valid t) : ∃ ks, insAll (empty t.length) ks = t ∧ ks.Perm (keys t) := by
  obtain ⟨ks, h1, h2, _⟩ := complete hV (many t) (empty t.length) (Part.empty t) (ge_empty _) (by omega)
  rw [keys_empty] at h2
  exact ⟨ks, h1, h2⟩
/-- A key in a cell comes ahead of another one in the next cell. -/
def Bef (n i : Nat) (x y : Int) : Prop := cost n (cy n (i + 1)) y < cost n i x + 1 ∨ cost n (cy n (i + 1)) y = cost n i x + 1 ∧ y < x
structure Robin (t : List Int) : Prop where
  valid : Valid t
  sorted : ∀ i, us t i = true → us t (cy t.length (i + 1)) = true → Bef t.length i (t.getD i (-1)) (t.getD (cy t.length (i + 1)) (-1))
def Over (n i : Nat) (h o : Int) : Prop := cost n i o < cost n i h ∨ cost n i h = cost n i o ∧ o < h
instance (n i : Nat) (h o : Int) : Decidable (Over n i h o) := by unfold Over; infer_instance
/-- What holds at a cell, with a key in hand. -/
structure Hand (t : List Int) (h : Int) (a : Nat) : Prop where
  robin : Robin t
  two : 2 ≤ t.length
  at_ : a < t.length
  pos : 0 ≤ h
  new : ∀ i, us t i = true → t.getD i (-1) ≠ h
  path : ∀ m, m < cost t.length a h → us t (cy t.length (own t.length h + m)) = true
  ahead : us t (cy t.length (a + t.length - 1)) = true → Bef t.length (cy t.length (a + t.length - 1)) (t.getD (cy t.length (a + t.length - 1)) (-1)) h
theorem cost_next {n a : Nat} (ha : a < n) (h2 : 2 ≤ n) (h : Int) (hc : cost n a h + 1 < n) : cost n (cy n (a + 1)) h = cost n a h + 1 := by
  have ho := own_lt (n := n) (by omega) h
  revert hc
  unfold cost cy
  generalize own n h = o at *
  split <;> split <;> split <;> omega
theorem prev_next {n a : Nat} (ha : a < n) (h2 : 2 ≤ n) : cy n (cy n (a + 1) + n - 1) = a := by unfold cy; split <;> split <;> omega
theorem next_prev {n a : Nat} (ha : a < n) (h2 : 2 ≤ n) : cy n (cy n (a + n - 1) + 1) = a := by unfold cy; split <;> split <;> omega
theorem next_ne {n a : Nat} (ha : a < n) (h2 : 2 ≤ n) : cy n (a + 1) ≠ a := by unfold cy; split <;> omega
/-- A key whose path is used up to a used cell costs less than n - 1 there. -/
theorem cost_small {t : List Int} (hF : Free t) {a : Nat} {h : Int} (ha : us t a = true) (hp : ∀ m, m < cost t.length a h → us t (cy t.length (own t.length h + m)) = true) : cost t.length a h + 1 < t.length := by
  have hal := us_lt ha
  have hc := cost_lt hal h
  have hoc := own_cost hal h
  have ho := own_lt (n := t.length) (by omega) h
  apply Classical.byContradiction
  intro hn
  obtain ⟨g, hg, hgu⟩ := hF
  have hcn : cost t.length a h = t.length - 1 := by omega
  generalize cost t.length a h = c at *
  generalize own t.length h = o at *
  -- the free cell is some o + m
  have e : cy t.length (o + cy t.length (g + t.length - o)) = g := by unfold cy; split <;> split <;> omega
  have hm : cy t.length (g + t.length - o) < t.length := cy_lt (by omega)
  rcases Nat.lt_or_ge (cy t.length (g + t.length - o)) c with h1 | h1
  · have := hp _ h1
    rw [e, hgu] at this; cases this
  · have : cy t.length (g + t.length - o) = c := by omega
    rw [this, hoc] at e
    rw [← e, ha] at hgu; cases hgu
theorem us_same {t : List Int} {a : Nat} {h : Int} (ha : us t a = true) (hh : 0 ≤ h) (i : Nat) : us (t.set a h) i = us t i := by
  rw [us_set _ _ _ _ (us_lt ha) hh]
  by_cases e : i = a
  · subst e; simp [ha]
  · simp [e]
theorem Hand.swap {t : List Int} {h : Int} {a : Nat} (H : Hand t h a) (hu : us t a = true) (ho : Over t.length a h (t.getD a (-1))) : Hand (t.set a h) (t.getD a (-1)) (cy t.length (a + 1)) := by
  have hal := H.at_
  have h2 := H.two
  have hV := H.robin.valid
  have us' : ∀ i, us (t.set a h) i = us t i := us_same hu H.pos
  have gd : ∀ i, (t.set a h).getD i (-1) = if i = a then h else t.getD i (-1) := fun i => getD_set _ _ _ _ _ hal
  have hl : (t.set a h).length = t.length := by simp
  obtain ⟨o, hoe⟩ : ∃ o, o = t.getD a (-1) := ⟨_, rfl⟩
  have hpo := hV.path a hu
  rw [← hoe] at ho hpo ⊢
  have ho0 : 0 ≤ o := by rw [us] at hu; rw [hoe]; exact of_decide_eq_true hu
  have hsm := cost_small hV.free hu hpo
  have hcn := cost_next hal h2 o hsm
  have hnew := H.new
  refine ⟨⟨⟨?_, ?_, ?_, ?_⟩, ?_⟩, by rw [hl]; exact h2, by rw [hl]; exact cy_lt (by omega), ho0, ?_, ?_, ?_⟩
  · obtain ⟨g, hg, hgu⟩ := hV.free
    exact ⟨g, by rw [hl]; exact hg, by rw [us']; exact hgu⟩
  · intro i hi
    rw [gd]
    split
    · have := H.pos; omega
    · exact hV.ge i (by rw [hl] at hi; exact hi)
  · intro i j hi hj
    rw [us'] at hi hj
    rw [gd, gd]
    split
    · split
      · intro _; omega
      · intro e; exact absurd e.symm (hnew j hj)
    · split
      · intro e; exact absurd e (hnew i hi)
      · exact hV.nodup i j hi hj
  · intro i hi m hm
    rw [us'] at hi
    rw [gd, hl] at hm ⊢
    rw [us']
    split
    · rename_i e; subst e; rw [if_pos rfl] at hm; exact H.path m hm
    · rename_i e; rw [if_neg e] at hm; exact hV.path i hi m hm
  · intro i hi hi1
    rw [us', hl] at hi1
    rw [us'] at hi
    rw [gd, gd, hl]
    have hil := us_lt hi
    by_cases e1 : i = a
    · subst e1
      rw [if_pos rfl, if_neg (next_ne hal h2)]
      have := H.robin.sorted i hi hi1
      rw [← hoe] at this
      unfold Bef at this ⊢
      unfold Over at ho
      omega
    · rw [if_neg e1]
      by_cases e2 : cy t.length (i + 1) = a
      · rw [if_pos e2]
        have ep : cy t.length (a + t.length - 1) = i := by rw [← e2]; exact prev_next hil h2
        have := H.ahead
        rw [ep] at this
        exact this hi
      · rw [if_neg e2]
        exact H.robin.sorted i hi hi1
  · intro i hi
    rw [us'] at hi
    rw [gd]
    split
    · intro e
      exact hnew a hu (by rw [← hoe, e])
    · rename_i e
      intro e'
      exact e (hV.nodup i a hi hu (by rw [e', hoe]))
  · intro m hm
    rw [hl] at hm ⊢
    rw [us']
    rw [hcn] at hm
    rcases Nat.lt_or_ge m (cost t.length a o) with h1 | h1
    · exact hpo m h1
    · have : m = cost t.length a o := by omega
      rw [this, own_cost hal]; exact hu
  · rw [hl, prev_next hal h2]
    intro _
    rw [gd, if_pos rfl]
    unfold Bef
    rw [hcn]
    unfold Over at ho
    omega
theorem Hand.put {t : List Int} {h : Int} {a : Nat} (H : Hand t h a) (hu : us t a = false) (hm : many t + 1 < t.length) : Robin (t.set a h) := by
  have hal := H.at_
  have h2 := H.two
  have hV := H.robin.valid
  have us' : ∀ i, us (t.set a h) i = (decide (i = a) || us t i) := fun i => us_set _ _ _ _ hal H.pos
  have gd : ∀ i, (t.set a h).getD i (-1) = if i = a then h else t.getD i (-1) := fun i => getD_set _ _ _ _ _ hal
  have hl : (t.set a h).length = t.length := by simp
  have ua : ∀ i, us t i = true → i ≠ a := fun i hi e => by rw [e, hu] at hi; cases hi
  refine ⟨⟨?_, ?_, ?_, ?_⟩, ?_⟩
  · exact free_of_many _ (by rw [many_set t a h hu hal H.pos, hl]; exact hm)
  · intro i hi
    rw [gd]
    split
    · have := H.pos; omega
    · exact hV.ge i (by rw [hl] at hi; exact hi)
  · intro i j hi hj
    rw [us'] at hi hj
    rw [gd, gd]
    by_cases e1 : i = a
    · by_cases e2 : j = a
      · intro _; omega
      · rw [if_pos e1, if_neg e2]
        simp [e2] at hj
        intro e; exact absurd e.symm (H.new j hj)
    · simp [e1] at hi
      by_cases e2 : j = a
      · rw [if_neg e1, if_pos e2]
        intro e; exact absurd e (H.new i hi)
      · simp [e2] at hj
        rw [if_neg e1, if_neg e2]
        exact hV.nodup i j hi hj
  · intro i hi m hm'
    rw [us'] at hi
    rw [gd, hl] at hm' ⊢
    rw [us']
    by_cases e1 : i = a
    · rw [if_pos e1] at hm' ⊢
      subst e1
      rw [H.path m hm']; simp
    · simp [e1] at hi
      rw [if_neg e1] at hm' ⊢
      rw [hV.path i hi m hm']; simp
  · intro i hi hi1
    rw [hl] at hi1 ⊢
    rw [us'] at hi hi1
    rw [gd, gd]
    by_cases e1 : i = a
    · subst e1
      have hne := next_ne hal h2
      rw [if_pos rfl, if_neg hne]
      simp [hne] at hi1
      -- the key behind has its own cell there
      have hil := us_lt hi1
      have hp := hV.path _ hi1
      have hc0 : cost t.length (cy t.length (i + 1)) (t.getD (cy t.length (i + 1)) (-1)) = 0 := by
        have hoc := own_cost hil (t.getD (cy t.length (i + 1)) (-1))
        have hlt := cost_lt hil (t.getD (cy t.length (i + 1)) (-1))
        have ho := own_lt (n := t.length) (by omega) (t.getD (cy t.length (i + 1)) (-1))
        generalize cost t.length (cy t.length (i + 1)) (t.getD (cy t.length (i + 1)) (-1)) = c at *
        generalize own t.length (t.getD (cy t.length (i + 1)) (-1)) = o at *
        rcases Nat.eq_zero_or_pos c with h0 | h0
        · exact h0
        · have := hp (c - 1) (by omega)
          have e : cy t.length (o + (c - 1)) = i := by revert hoc; unfold cy; split <;> split <;> split <;> omega
          rw [e, hu] at this; cases this
      unfold Bef
      rw [hc0]
      omega
    · simp [e1] at hi
      rw [if_neg e1]
      by_cases e2 : cy t.length (i + 1) = a
      · rw [if_pos e2]
        have ep : cy t.length (a + t.length - 1) = i := by rw [← e2]; exact prev_next (us_lt hi) h2
        have := H.ahead
        rw [ep] at this
        exact this hi
      · simp [e2] at hi1
        rw [if_neg e2]
        exact H.robin.sorted i hi hi1
theorem Robin.hand {t : List Int} (hR : Robin t) (h2 : 2 ≤ t.length) {k : Int} (hk : 0 ≤ k) (hn : k ∉ keys t) : Hand t k (own t.length k) := by
  have ho := own_lt (n := t.length) (by omega) k
  have hc : cost t.length (own t.length k) k = 0 := by unfold cost cy; split <;> omega
  refine ⟨hR, h2, ho, hk, ?_, ?_, ?_⟩
  · intro i hi e
    exact hn (mem_keys.2 ⟨i, hi, e⟩)
  · intro m hm; rw [hc] at hm; omega
  · intro _
    unfold Bef
    rw [next_prev ho h2, hc]
    omega
theorem Valid.empty {n : Nat} (h : 0 < n) : Valid (empty n) :=
  ⟨⟨0, by simp [TabT.empty, h], us_empty n 0⟩, ge_empty n, fun i j hi => (by rw [us_empty] at hi; cases hi), fun i hi => (by rw [us_empty] at hi; cases hi)⟩
theorem Robin.empty {n : Nat} (h : 0 < n) : Robin (empty n) := ⟨Valid.empty h, fun i hi => (by rw [us_empty] at hi; cases hi)⟩
/-- How far behind the cell g a key's own cell lies. -/
def off (n g : Nat) (k : Int) : Nat := cy n (own n k + n - g)
theorem off_spec {t : List Int} (hV : Valid t) {g : Nat} (hg : g < t.length) (hgu : us t g = false) {e : Nat} (he : e < t.length) (hu : us t (cy t.length (g + e)) = true) :
    1 ≤ off t.length g (t.getD (cy t.length (g + e)) (-1)) ∧ off t.length g (t.getD (cy t.length (g + e)) (-1)) + cost t.length (cy t.length (g + e)) (t.getD (cy t.length (g + e)) (-1)) = e ∧
      ∀ m, off t.length g (t.getD (cy t.length (g + e)) (-1)) ≤ m → m ≤ e → us t (cy t.length (g + m)) = true := by
  have hil := us_lt hu
  have hp := hV.path _ hu
  have ho := own_lt (n := t.length) (by omega) (t.getD (cy t.length (g + e)) (-1))
  have hoc := own_cost hil (t.getD (cy t.length (g + e)) (-1))
  have hcl := cost_lt hil (t.getD (cy t.length (g + e)) (-1))
  unfold off
  generalize cost t.length (cy t.length (g + e)) (t.getD (cy t.length (g + e)) (-1)) = c at *
  generalize own t.length (t.getD (cy t.length (g + e)) (-1)) = o at *
  have he1 : e ≠ 0 := by
    intro h0
    have : cy t.length (g + e) = g := by rw [h0]; unfold cy; split <;> omega
    rw [this, hgu] at hu; cases hu
  have hce : c < e := by
    rcases Nat.lt_or_ge c e with h | h
    · exact h
    · have := hp (c - e) (by omega)
      have e1 : cy t.length (o + (c - e)) = g := by revert hoc; unfold cy; split <;> split <;> split <;> omega
      rw [e1, hgu] at this; cases this
  have hof : cy t.length (o + t.length - g) = e - c := by revert hoc; unfold cy; split <;> split <;> split <;> omega
  rw [hof]
  refine ⟨by omega, by omega, fun m h1 h2 => ?_⟩
  rcases Nat.lt_or_ge m e with h3 | h3
  · have := hp (m - (e - c)) (by omega)
    have e2 : cy t.length (o + (m - (e - c))) = cy t.length (g + m) := by revert hoc; unfold cy; split <;> split <;> split <;> split <;> omega
    rwa [e2] at this
  · have : m = e := by omega
    rw [this]; exact hu
/-- Along used cells, keys come in one order. -/
def Lt (n g : Nat) (x y : Int) : Prop := off n g x < off n g y ∨ off n g x = off n g y ∧ y < x
theorem Lt.trans {n g : Nat} {x y z : Int} (h : Lt n g x y) (k : Lt n g y z) : Lt n g x z := by unfold Lt at *; omega
theorem Robin.next {t : List Int} (hR : Robin t) {g : Nat} (hg : g < t.length) (hgu : us t g = false) {e : Nat} (he : e + 1 < t.length) (h1 : us t (cy t.length (g + e)) = true) (h2 : us t (cy t.length (g + (e + 1))) = true) :
    Lt t.length g (t.getD (cy t.length (g + e)) (-1)) (t.getD (cy t.length (g + (e + 1))) (-1)) := by
  have s1 := off_spec hR.valid hg hgu (by omega) h1
  have s2 := off_spec hR.valid hg hgu he h2
  have en : cy t.length (cy t.length (g + e) + 1) = cy t.length (g + (e + 1)) := by unfold cy; split <;> split <;> split <;> omega
  have := hR.sorted _ h1
  rw [en] at this
  have := this h2
  unfold Bef at this
  rw [en] at this
  unfold Lt
  omega
end TabT
namespace Go.Proofs.Ythlkeledgmpbgaa.G
open Go.RowKit Go.Proofs.YthlkeledgmpbgaaW.PrintWords Go.Proofs.YthlkeledgmpbgaaW.PrintLast Go.Proofs.YthlkeledgmpbgaaW.PrintMore
set_option linter.unusedVariables false
set_option linter.unusedSimpArgs false
set_option linter.unusedSectionVars false
theorem t_g0 {t : List Int} {i : Nat} (h : i < t.length) : t.getD i (-1) = t.getD i 0 := by
  rw [List.getD_eq_getElem?_getD, List.getD_eq_getElem?_getD, List.getElem?_eq_getElem h]; rfl
theorem us_val {t : List Int} {i : Nat} (h : TabT.us t i = true) : 0 ≤ t.getD i 0 := by
  have hi := TabT.us_lt h
  rw [TabT.us, decide_eq_true_eq, t_g0 hi] at h
  exact h
/-- What the cells of a table may hold. -/
def Cells (t : List Int) : Prop := ∀ i, i < t.length → -1 ≤ t.getD i 0 ∧ t.getD i 0 ≤ 999
theorem Cells.set {t : List Int} (h : Cells t) {p : Nat} {k : Int} (hp : p < t.length) (h0 : 0 ≤ k) (h9 : k ≤ 999) : Cells (t.set p k) := by
  intro i hi
  rw [List.length_set] at hi
  rw [TabT.getD_set _ _ _ _ _ hp]
  split
  · omega
  · exact h i hi
theorem Cells.empty (n : Nat) : Cells (TabT.empty n) := by
  intro i hi
  have hi2 : i < n := by simpa [TabT.empty] using hi
  unfold TabT.empty
  rw [List.getD_eq_getElem?_getD, List.getElem?_replicate, if_pos hi2]
  simp
theorem Cells.ins {t : List Int} (h : Cells t) (hF : TabT.Free t) {k : Int} (h0 : 0 ≤ k) (h9 : k ≤ 999) : Cells (TabT.ins t k) := h.set (TabT.pos_lt hF k) h0 h9
theorem t_prEmpty_ev (n : Nat) (hn : n ≤ 1000) : Ev (fun k => spec_prEmpty.f k (n : Int)) (TabT.empty n) := by
  unfold spec_prEmpty.f TabT.empty
  refine Ev.up0 n (fun q => List.replicate q (-1 : Int)) (fun k s q => spec_prEmpty.l0 k (n : Int) q s) (List.replicate n (-1)) (fun q hq h => Ev.one h fun k => ?_) (Ev.end_ fun k => ?_)
  · rw [spec_prEmpty.l0, if_pos (by omega), if_pos (by simp; omega), wrap_next (n := n) hq (by omega), List.replicate_succ']
  · rw [spec_prEmpty.l0, if_neg (by omega)]
/-- What holds when q of the keys are in. -/
structure Filled (n : Nat) (t : List Int) (q : Nat) : Prop where
  len_ : t.length = n
  cells : Cells t
  many_ : TabT.many t = q
theorem Filled.free {n q : Nat} {t : List Int} (h : Filled n t q) (hq : q < n) : TabT.Free t := TabT.free_of_many t (by rw [h.many_, h.len_]; exact hq)
theorem costN_cost {n key a : Nat} (ha : a < n) : costN n key a = TabT.cost n a (key : Int) := by
  have hm := Nat.mod_lt key (show 0 < n by omega)
  have ho : TabT.own n (key : Int) = key % n := by
    unfold TabT.own
    rw [show ((key : Int) % (n : Int)) = ((key % n : Nat) : Int) from rfl, Int.toNat_natCast]
  unfold costN TabT.cost
  rw [ho, TabT.cy_mod (by omega)]
structure RFilled (n : Nat) (t : List Int) (ks : List Int) : Prop where
  len_ : t.length = n
  cells : Cells t
  robin : TabT.Robin t
  keys_ : (TabT.keys t).Perm ks
theorem RFilled.many_ {n : Nat} {t ks : List Int} (h : RFilled n t ks) : TabT.many t = ks.length := by
  rw [TabT.many_keys]; exact h.keys_.length_eq
theorem RFilled.hand {n : Nat} {t ks : List Int} (h : RFilled n t ks) (h2 : 2 ≤ n) {k : Int} (h0 : 0 ≤ k) (hn : k ∉ ks) : TabT.Hand t k (TabT.own n k) := by
  have := h.robin.hand (by rw [h.len_]; exact h2) h0 (fun e => hn (h.keys_.mem_iff.mp e))
  rwa [h.len_] at this
end Go.Proofs.Ythlkeledgmpbgaa.G
namespace TabT
set_option linter.unusedVariables false
set_option linter.unusedSimpArgs false
theorem Valid.ins {t : List Int} (hV : Valid t) {k : Int} (hk : 0 ≤ k) (hn : k ∉ keys t) (hm : many t + 1 < t.length) : Valid (ins t k) := by
  have hF := hV.free
  have hp := pos_lt hF k
  have hpf := pos_free hF k
  have hlen : (TabT.ins t k).length = t.length := by simp [TabT.ins]
  have hg : ∀ i, (TabT.ins t k).getD i (-1) = if i = pos t k then k else t.getD i (-1) := fun i => getD_set _ _ _ _ _ hp
  have hu : ∀ i, us (TabT.ins t k) i = (decide (i = pos t k) || us t i) := fun i => us_set _ _ _ _ hp hk
  refine ⟨?_, ?_, ?_, ?_⟩
  · exact free_of_many _ (by rw [many_ins hF hk, hlen]; exact hm)
  · intro i hi
    rw [hg]; split
    · omega
    · exact hV.ge i (by rw [← hlen]; exact hi)
  · intro i j hi hj e
    rw [hu, Bool.or_eq_true, decide_eq_true_eq] at hi hj
    rw [hg, hg] at e
    by_cases c1 : i = pos t k <;> by_cases c2 : j = pos t k
    · omega
    · rw [if_pos c1, if_neg c2] at e
      exact absurd (mem_keys.2 ⟨j, hj.resolve_left c2, e.symm⟩) hn
    · rw [if_neg c1, if_pos c2] at e
      exact absurd (mem_keys.2 ⟨i, hi.resolve_left c1, e⟩) hn
    · rw [if_neg c1, if_neg c2] at e
      exact hV.nodup i j (hi.resolve_left c1) (hj.resolve_left c2) e
  · intro i hi m hm'
    rw [hu, Bool.or_eq_true, decide_eq_true_eq] at hi
    rw [hlen, hg] at hm'
    rw [hlen, hg, hu, Bool.or_eq_true, decide_eq_true_eq]
    right
    by_cases c : i = pos t k
    · rw [if_pos c] at hm' ⊢
      have s := ff_spec hF (own_lt (n := t.length) (by omega) k)
      have hc : cost t.length (pos t k) k = ff t (own t.length k) := cost_own s.1 k
      rw [c, hc] at hm'
      exact s.2.2 m hm'
    · rw [if_neg c] at hm' ⊢
      exact hV.path i (hi.resolve_left c) m hm'
end TabT
namespace Go.Proofs.Ythlkeledgmpbgaa.G
open Go.RowKit Go.Proofs.YthlkeledgmpbgaaW.PrintWords Go.Proofs.YthlkeledgmpbgaaW.PrintLast Go.Proofs.YthlkeledgmpbgaaW.PrintMore
set_option linter.unusedVariables false
set_option linter.unusedSectionVars false
set_option linter.unusedSimpArgs false
theorem wayF_iff (l : List Int) (key : Nat) : ∀ (c s : Nat), wayF l key s c = true ↔ ∀ m, m < c → 0 ≤ l.getD ((key + s + m) % l.length) 0
  | 0, s => by simp [wayF]
  | c + 1, s => by
    rw [wayF, Bool.and_eq_true, decide_eq_true_eq, wayF_iff l key c (s + 1)]
    constructor
    · rintro ⟨h0, h⟩ m hm
      cases m with
      | zero => exact h0
      | succ m => have := h m (by omega); rwa [show key + (s + 1) + m = key + s + (m + 1) by omega] at this
    · intro h
      exact ⟨h 0 (by omega), fun m hm => by have := h (m + 1) (by omega); rwa [show key + s + (m + 1) = key + (s + 1) + m by omega] at this⟩
theorem okFrom_iff (l : List Int) : ∀ (d i : Nat), okFrom l d i = true ↔ ∀ j, i ≤ j → j < i + d → okCell l j = true
  | 0, i => by
    rw [okFrom]
    exact ⟨fun _ j h1 h2 => by omega, fun _ => rfl⟩
  | d + 1, i => by
    rw [okFrom, Bool.and_eq_true, okFrom_iff l d (i + 1)]
    constructor
    · rintro ⟨h0, h⟩ j h1 h2
      by_cases e : j = i
      · rw [e]; exact h0
      · exact h j (by omega) (by omega)
    · intro h
      exact ⟨h i (Nat.le_refl _) (by omega), fun j h1 h2 => h j (by omega) (by omega)⟩
theorem own_nat (key n : Nat) : TabT.own n (key : Int) = key % n := rfl
theorem way_cell {n key m : Nat} (hn : 0 < n) (hm : m < n) : (key + m) % n = TabT.cy n (TabT.own n (key : Int) + m) := by
  have := Nat.mod_lt key hn
  rw [own_nat, ← TabT.cy_mod (by omega), Nat.mod_add_mod]
theorem us_of {l : List Int} {i : Nat} (hi : i < l.length) : TabT.us l i = decide (0 ≤ l.getD i 0) := by
  rw [TabT.us, t_g0 hi]
theorem tbl_valid {l : List Int} (h : tblB l = true) : TabT.Valid l := by
  obtain ⟨h1, h2, h3, h4⟩ := tblB_parts h
  have hok : okFrom l l.length 0 = true := by
    unfold tblB at h
    simp only [Bool.and_eq_true] at h
    exact h.2
  have hc := (okFrom_iff l l.length 0).1 hok
  refine ⟨?_, ?_, ?_, ?_⟩
  · obtain ⟨i, hi, e⟩ := List.getElem_of_mem h4
    exact ⟨i, hi, by rw [us_of hi, getD_get hi, e]; rfl⟩
  · intro i hi
    rw [t_g0 hi]
    exact (h3 i hi).1
  · intro i j hi hj e
    have li := TabT.us_lt hi
    have lj := TabT.us_lt hj
    rw [t_g0 li, t_g0 lj] at e
    rcases Nat.lt_trichotomy i j with c | c | c
    · exact absurd e (tbl_dist h i j c lj (us_val hi))
    · exact c
    · exact absurd e.symm (tbl_dist h j i c li (us_val hj))
  · intro i hi m hm
    have li := TabT.us_lt hi
    have hv := us_val hi
    have := hc i (Nat.zero_le _) (by omega)
    obtain ⟨key, hkey⟩ : ∃ key : Nat, l.getD i 0 = key := ⟨(l.getD i 0).toNat, by omega⟩
    rw [t_g0 li, hkey] at hm ⊢
    rw [okCell, decide_eq_false (by omega), Bool.false_or, Bool.and_eq_true, hkey, Int.toNat_natCast, costN_cost li] at this
    have hw := (wayF_iff l key _ 0).1 this.2 m hm
    have hm2 := TabT.cost_lt li (key : Int)
    rw [Nat.add_zero, way_cell (by omega) (by omega)] at hw
    rw [us_of (TabT.cy_lt (by have := TabT.own_lt (n := l.length) (by omega) (key : Int); omega))]
    exact decide_eq_true hw
end Go.Proofs.Ythlkeledgmpbgaa.G
namespace Go.Proofs.Ythlkeledgmpbgaa.Pure
open Go.RowKit Go.Proofs.Ythlkeledgmpbgaa.G Go.Proofs.YthlkeledgmpbgaaW.PrintWords Go.Proofs.YthlkeledgmpbgaaW.PrintLast
set_option linter.unusedVariables false
set_option linter.unusedSimpArgs false
def partOf (l S : List Int) : List Int := l.map fun x => if x ∈ S then x else -1
theorem part_len (l S : List Int) : (partOf l S).length = l.length := by simp [partOf]
theorem part_get (l S : List Int) {i : Nat} (hi : i < l.length) : (partOf l S).getD i 0 = if l.getD i 0 ∈ S then l.getD i 0 else -1 := by
  unfold partOf
  rw [getD_get (by simpa using hi), getD_get hi]
  simp
theorem part_nil (l : List Int) : partOf l [] = TabT.empty l.length := by
  unfold partOf TabT.empty
  refine List.ext_getElem (by simp) (fun i _ _ => by simp)
/-- A key may come next behind S. -/
def rdyB (l S : List Int) (x : Int) : Bool := wayS l S x (cstK l x) 0 && !decide (x ∈ S)
theorem index_at (l : List Int) (a : Int) (hn : l.length ≤ 1000) : ∀ (d i : Nat), i + d = l.length → ∀ k, d + 1 ≤ k → slices_Index_int_int.l0 k l a (l.length : Int) i = some (ixF l a d i) := by
  intro d
  induction d with
  | zero =>
    intro i hd k hk
    obtain ⟨k, rfl⟩ : ∃ q, k = q + 1 := ⟨k - 1, by omega⟩
    rw [slices_Index_int_int.l0, if_neg (by omega)]; rfl
  | succ d ih =>
    intro i hd k hk
    obtain ⟨k, rfl⟩ : ∃ q, k = q + 1 := ⟨k - 1, by omega⟩
    rw [ixF]
    by_cases c : l.getD i 0 = a
    · rw [if_pos c, slices_Index_int_int.l0, if_pos (by omega), if_pos (by omega), if_pos (by omega), rd_nat, if_pos c.symm]
    · rw [if_neg c, slices_Index_int_int.l0, if_pos (by omega), if_pos (by omega), if_pos (by omega), rd_nat, if_neg (fun e => c e.symm), wrap_next (n := l.length) (by omega) (by omega)]
      exact ih (i + 1) (by omega) k (by omega)
theorem index_at0 (l : List Int) (a : Int) (hn : l.length ≤ 1000) : slices_Index_int_int.f 2000 l a = some (ixF l a l.length 0) := index_at l a hn l.length 0 (by omega) 2000 (by omega)
theorem ix_here {l : List Int} (h : tblB l = true) {i : Nat} (hi : i < l.length) (h0 : 0 ≤ l.getD i 0) : ixF l (l.getD i 0) l.length 0 = (i : Int) := by
  rcases ixF_spec l (l.getD i 0) l.length 0 (by omega) with ⟨_, h2⟩ | ⟨j, h1, h2, h3, _⟩
  · exact absurd (by rw [List.drop_zero]; exact getD_mem hi) h2
  · rw [h1]
    rcases Nat.lt_trichotomy i j with c | c | c
    · exact absurd h3.symm (tbl_dist h i j c h2 h0)
    · rw [c]
    · exact absurd h3 (tbl_dist h j i c hi (by rw [h3]; exact h0))
theorem atK_here {l : List Int} (h : tblB l = true) {i : Nat} (hi : i < l.length) (h0 : 0 ≤ l.getD i 0) : slices_Index_int_int.f 2000 l (l.getD i 0) = some (i : Int) ∧ atK l (l.getD i 0) = (i : Int) := by
  have h2 := (tblB_parts h).2.1
  have e := index_at0 l (l.getD i 0) (by omega)
  rw [ix_here h hi h0] at e
  exact ⟨e, by unfold atK; rw [e]; rfl⟩
theorem cst_here {l : List Int} (h : tblB l = true) {i : Nat} (hi : i < l.length) (h0 : 0 ≤ l.getD i 0) : impl_Table_cost.f l (i : Int) = some ((costN l.length (l.getD i 0).toNat i : Nat) : Int) ∧ cstK l (l.getD i 0) = costN l.length (l.getD i 0).toNat i := by
  obtain ⟨h1, h2, h3, h4⟩ := tblB_parts h
  have hv := h3 i hi
  have e := tcost_eq (l := l) (key := (l.getD i 0).toNat) (at_ := i) (by omega) (by omega) hi (by omega)
  refine ⟨e, ?_⟩
  unfold cstK
  rw [(atK_here h hi h0).2, e]
  simp
theorem key_at {l : List Int} {x : Int} (hx : x ∈ keysZ l) : ∃ i, i < l.length ∧ l.getD i 0 = x ∧ 0 ≤ x := by
  obtain ⟨h1, h2⟩ := keysZ_mem.1 hx
  obtain ⟨i, hi, e⟩ := List.getElem_of_mem h1
  exact ⟨i, hi, by rw [getD_get hi]; exact e, h2⟩
theorem keys_okB {l : List Int} (h : tblB l = true) : (keysZ l).all (keyOk l) = true := by
  obtain ⟨h1, h2, h3, h4⟩ := tblB_parts h
  rw [List.all_eq_true]
  intro x hx
  obtain ⟨i, hi, rfl, h0⟩ := key_at hx
  have hv := h3 i hi
  obtain ⟨a1, a2⟩ := atK_here h hi h0
  obtain ⟨b1, b2⟩ := cst_here h hi h0
  have hl := costN_lt (n := l.length) (key := (l.getD i 0).toNat) (at_ := i) (by omega)
  unfold keyOk
  rw [a2, b2]
  simp only [Bool.and_eq_true, decide_eq_true_eq]
  exact ⟨⟨⟨⟨h0, hv.2⟩, a1⟩, b1⟩, by omega⟩
theorem cells_okB {l : List Int} (h : tblB l = true) : l.all cellOk = true := by
  obtain ⟨h1, h2, h3, h4⟩ := tblB_parts h
  rw [List.all_eq_true]
  intro x hx
  obtain ⟨i, hi, e⟩ := List.getElem_of_mem hx
  have := h3 i hi
  rw [getD_get hi, e] at this
  unfold cellOk
  simp only [Bool.and_eq_true, decide_eq_true_eq]
  exact this
def rdyTo (l S : List Int) : Nat → List Int
  | 0 => []
  | q + 1 => if 0 ≤ l.getD q 0 ∧ rdyB l S (l.getD q 0) = true then putZ (l.getD q 0) (rdyTo l S q) else rdyTo l S q
theorem rdyTo_len (l S : List Int) : ∀ q, (rdyTo l S q).length ≤ q
  | 0 => by simp [rdyTo]
  | q + 1 => by
    have := rdyTo_len l S q
    have := putZ_len (l.getD q 0) (rdyTo l S q)
    rw [rdyTo]
    split <;> omega
theorem rdyTo_mem (l S : List Int) (x : Int) : ∀ q, x ∈ rdyTo l S q ↔ ∃ j, j < q ∧ l.getD j 0 = x ∧ 0 ≤ x ∧ rdyB l S x = true
  | 0 => by simp [rdyTo]
  | q + 1 => by
    rw [rdyTo]
    split
    · rename_i h
      rw [putZ_mem, rdyTo_mem l S x q]
      constructor
      · rintro (e | ⟨j, h1, h2, h3⟩)
        · exact ⟨q, by omega, e.symm, by rw [e]; exact h⟩
        · exact ⟨j, by omega, h2, h3⟩
      · rintro ⟨j, h1, h2, h3⟩
        by_cases e : j = q
        · subst e; exact Or.inl h2.symm
        · exact Or.inr ⟨j, by omega, h2, h3⟩
    · rename_i h
      rw [rdyTo_mem l S x q]
      constructor
      · rintro ⟨j, h1, h2, h3⟩; exact ⟨j, by omega, h2, h3⟩
      · rintro ⟨j, h1, h2, h3⟩
        by_cases e : j = q
        · subst e; rw [h2] at h; exact absurd h3 h
        · exact ⟨j, by omega, h2, h3⟩
theorem rdyTo_strict (l S : List Int) : ∀ q, (rdyTo l S q).Pairwise (· < ·)
  | 0 => by simp [rdyTo]
  | q + 1 => by
    rw [rdyTo]
    split
    · exact putZ_strict _ _ (rdyTo_strict l S q)
    · exact rdyTo_strict l S q
theorem rdy_filter {l : List Int} (h : tblB l = true) (S : List Int) : rdyTo l S l.length = (keysZ l).filter (rdyB l S) := by
  refine strict_ext _ _ (rdyTo_strict _ _ _) ((keysZ_strict h).filter _) (fun x => ?_)
  rw [rdyTo_mem, List.mem_filter]
  constructor
  · rintro ⟨j, h1, h2, h3, h4⟩
    exact ⟨keysZ_mem.2 ⟨h2 ▸ getD_mem h1, h3⟩, h4⟩
  · rintro ⟨h1, h2⟩
    obtain ⟨i, hi, e, h0⟩ := key_at h1
    exact ⟨i, hi, e, h0, h2⟩
theorem part_used {l S : List Int} (hS : ∀ x ∈ S, 0 ≤ x) {i : Nat} (hi : i < l.length) : ((partOf l S).getD i 0 != -1) = decide (l.getD i 0 ∈ S) := by
  rw [part_get l S hi]
  by_cases c : l.getD i 0 ∈ S
  · rw [if_pos c, decide_eq_true c]
    have := hS _ c
    exact bne_iff_ne.mpr (by omega)
  · rw [if_neg c, decide_eq_false c]; rfl
end Go.Proofs.Ythlkeledgmpbgaa.Pure
namespace Go.Proofs.Ythlkeledgmpbgaa.Pure
open Go.RowKit Go.Proofs.Ythlkeledgmpbgaa.G Go.Proofs.YthlkeledgmpbgaaW.PrintWords Go.Proofs.YthlkeledgmpbgaaW.PrintLast
set_option linter.unusedVariables false
set_option linter.unusedSimpArgs false
section
variable {l : List Int} (h : tblB l = true) {S : List Int} (hS : ∀ x ∈ S, 0 ≤ x)
include h hS
theorem rd_way (key i c : Nat) (out r : List Int) (hk : key ≤ 1000) (hi : i < l.length) (hc : costN l.length key i = c) : ∀ (j : Nat), j ≤ c → ∀ b,
    Ev (fun k => spec_prReady.l1 k (partOf l S) (l.length : Int) out (i : Int) (key : Int) (b && wayS l S (key : Int) j (c - j)) 0 l (l.length : Int) (i : Int)) r →
    Ev (fun k => spec_prReady.l1 k (partOf l S) (l.length : Int) out (i : Int) (key : Int) b (j : Int) l (l.length : Int) (i : Int)) r := by
  obtain ⟨h1, h2, h3, h4⟩ := tblB_parts h
  have hcn : c < l.length := by rw [← hc]; exact costN_lt (by omega)
  intro j
  induction j with
  | zero =>
    intro _ b hr
    rw [wayS, Bool.and_true] at hr
    exact hr
  | succ j ih =>
    intro hj b hr
    have hcell := back_cell (n := l.length) (by omega) hi hc hj (by omega)
    have e1 : Int.tmod (wrap64 ((wrap64 ((i : Int) - ((j + 1 : Nat) : Int))) + (l.length : Int))) (l.length : Int) = (((key + (c - (j + 1))) % l.length : Nat) : Int) := by
      rw [wrap_id (x := (i : Int) - ((j + 1 : Nat) : Int)) (by omega) (by omega), wrap_id (by omega) (by omega), ← hcell, show (i : Int) - ((j + 1 : Nat) : Int) + (l.length : Int) = ((i + l.length - (j + 1) : Nat) : Int) by omega]
      rfl
    have hm := Nat.mod_lt (key + (c - (j + 1))) (show 0 < l.length by omega)
    rw [wayS, show c - (j + 1) + 1 = c - j by omega, Int.toNat_natCast] at hr
    cases b with
    | false =>
      rw [Bool.false_and] at hr
      refine Ev.one (ih (by omega) false (by rw [Bool.false_and]; exact hr)) fun k => ?_
      rw [spec_prReady.l1, if_pos (by omega), if_neg (by decide), wrap_id (x := ((j + 1 : Nat) : Int) - 1) (by omega) (by omega), show ((j + 1 : Nat) : Int) - 1 = (j : Int) by omega]
    | true =>
      rw [Bool.true_and] at hr
      refine Ev.one (ih (by omega) _ hr) fun k => ?_
      rw [spec_prReady.l1, if_pos (by omega), if_pos rfl, if_neg (by omega), e1, if_pos (by omega), if_pos (by rw [part_len]; omega), rd_nat, part_used hS hm, wrap_id (x := ((j + 1 : Nat) : Int) - 1) (by omega) (by omega), show ((j + 1 : Nat) : Int) - 1 = (j : Int) by omega]
theorem prReady_ev : Ev (fun k => spec_prReady.f k l (partOf l S)) (rdyTo l S l.length) := by
  obtain ⟨h1, h2, h3, h4⟩ := tblB_parts h
  unfold spec_prReady.f
  rw [part_len]
  have := Ev.up0 l.length (fun q => rdyTo l S q) (fun k s q => spec_prReady.l0 k (partOf l S) (l.length : Int) s l (l.length : Int) q) (rdyTo l S l.length) (fun q hq hE => ?_) (Ev.end_ fun k => ?_)
  · simpa [rdyTo] using this
  · have hv := h3 q hq
    have hpl := rdyTo_len l S q
    by_cases hf : l.getD q 0 = -1
    · rw [rdyTo, if_neg (fun e => by omega)] at hE
      refine Ev.one (f := fun k => spec_prReady.j1 k (partOf l S) (l.length : Int) (rdyTo l S q) (q : Int) (l.getD q 0) l (l.length : Int) (q : Int) true) (Ev.one hE fun k => ?_) fun k => ?_
      · rw [spec_prReady.j1, if_pos rfl, wrap_next (n := l.length) hq (by omega)]
      · rw [spec_prReady.l0, if_pos (by omega), if_pos (by omega), if_pos (by omega), rd_nat, if_pos hf]
    · obtain ⟨key, hkey⟩ : ∃ key : Nat, l.getD q 0 = key := ⟨(l.getD q 0).toNat, by omega⟩
      have h0 : 0 ≤ l.getD q 0 := by omega
      have hcs := (cst_here h hq h0).2
      by_cases hp : l.getD q 0 ∈ S
      · rw [rdyTo, if_neg (fun e => by have := e.2; unfold rdyB at this; rw [decide_eq_true hp] at this; simp at this)] at hE
        refine Ev.one (f := fun k => spec_prReady.j1 k (partOf l S) (l.length : Int) (rdyTo l S q) (q : Int) (l.getD q 0) l (l.length : Int) (q : Int) true) (Ev.one hE fun k => ?_) fun k => ?_
        · rw [spec_prReady.j1, if_pos rfl, wrap_next (n := l.length) hq (by omega)]
        · rw [spec_prReady.l0, if_pos (by omega), if_pos (by omega), if_pos (by omega), rd_nat, if_neg hf, if_pos (by rw [part_len]; omega), rd_nat, part_used hS hq, decide_eq_true hp]
      · refine Ev.one (f := fun k => spec_prReady.j1 k (partOf l S) (l.length : Int) (rdyTo l S q) (q : Int) (l.getD q 0) l (l.length : Int) (q : Int) false) ?_ fun k => ?_
        · refine Ev.one (f := fun k => spec_prReady.l1 k (partOf l S) (l.length : Int) (rdyTo l S q) (q : Int) (key : Int) true ((costN l.length key q : Nat) : Int) l (l.length : Int) (q : Int)) ?_ fun k => ?_
          · refine rd_way h hS key q _ (rdyTo l S q) _ (by omega) hq rfl (costN l.length key q) (Nat.le_refl _) true ?_
            rw [Nat.sub_self, Bool.true_and]
            rw [rdyTo] at hE
            unfold rdyB at hE
            rw [hcs, decide_eq_false hp, Bool.not_false, Bool.and_true, hkey, Int.toNat_natCast] at hE
            cases hw : wayS l S (key : Int) (costN l.length key q) 0 with
            | true =>
              rw [hw, if_pos ⟨by omega, rfl⟩] at hE
              refine Ev.step (f := fun k => (spec_l1Put.f k (rdyTo l S q) (key : Int)).bind fun t167 => (spec_prReady.l0 k (partOf l S) (l.length : Int) t167 l (l.length : Int) ((q + 1 : Nat) : Int))) (fun k => by
                rw [spec_prReady.l1, if_neg (by omega), if_pos rfl, wrap_next (n := l.length) hq (by omega)]) ?_
              exact Ev.bind (l1Put_ev _ _ (by omega)) hE
            | false =>
              rw [hw, if_neg (fun e => by cases e.2)] at hE
              refine Ev.one hE fun k => ?_
              rw [spec_prReady.l1, if_neg (by omega), if_neg (by decide), wrap_next (n := l.length) hq (by omega)]
          · rw [spec_prReady.j1, if_neg (by decide), hkey, prCost_eq (by omega) (by omega) (by omega) hq]
            rfl
        · rw [spec_prReady.l0, if_pos (by omega), if_pos (by omega), if_pos (by omega), rd_nat, if_neg hf, if_pos (by rw [part_len]; omega), rd_nat, part_used hS hq, decide_eq_false hp]
  · rw [spec_prReady.l0, if_neg (by omega)]
end
end Go.Proofs.Ythlkeledgmpbgaa.Pure
namespace Go.Proofs.Ythlkeledgmpbgaa.Pure
open Go.RowKit Go.Proofs.Ythlkeledgmpbgaa.G Go.Proofs.YthlkeledgmpbgaaW.PrintWords Go.Proofs.YthlkeledgmpbgaaW.PrintLast
set_option linter.unusedVariables false
set_option linter.unusedSimpArgs false
def fo (l : List Int) : Nat → List Int → List Int
  | 0, S => S
  | d + 1, S => match (keysZ l).filter (rdyB l S) with
    | [] => S
    | x :: _ => fo l d (S ++ [x])
theorem sub_len : ∀ (a b : List Int), a.Nodup → (∀ x ∈ a, x ∈ b) → a.length ≤ b.length
  | [], b, _, _ => by simp
  | x :: a, b, hn, hs => by
    rw [List.nodup_cons] at hn
    have hx := hs x List.mem_cons_self
    have := sub_len a (b.erase x) hn.2 (fun y hy => by
      have e : y ≠ x := fun e => hn.1 (e ▸ hy)
      exact (List.mem_erase_of_ne e).2 (hs y (List.mem_cons_of_mem _ hy)))
    rw [List.length_erase_of_mem hx] at this
    have hp := List.length_pos_of_mem hx
    rw [List.length_cons]
    omega
theorem wayS_iff (l S : List Int) (x : Int) : ∀ (c s : Nat), wayS l S x c s = true ↔ ∀ m, m < c → l.getD ((x.toNat + s + m) % l.length) 0 ∈ S
  | 0, s => by simp [wayS]
  | c + 1, s => by
    rw [wayS, Bool.and_eq_true, decide_eq_true_eq, wayS_iff l S x c (s + 1)]
    constructor
    · rintro ⟨h1, h2⟩ m hm
      cases m with
      | zero => exact h1
      | succ m => have := h2 m (by omega); rw [show x.toNat + s + (m + 1) = x.toNat + (s + 1) + m by omega]; exact this
    · intro h
      refine ⟨h 0 (by omega), fun m hm => ?_⟩
      have := h (m + 1) (by omega)
      rw [show x.toNat + (s + 1) + m = x.toNat + s + (m + 1) by omega]; exact this
theorem us_part {l S : List Int} (hS : ∀ x ∈ S, 0 ≤ x) {i : Nat} (hi : i < l.length) : TabT.us (partOf l S) i = decide (l.getD i 0 ∈ S) := by
  rw [us_of (by rw [part_len]; exact hi), part_get l S hi]
  by_cases c : l.getD i 0 ∈ S
  · rw [if_pos c, decide_eq_true c]; exact decide_eq_true (hS _ c)
  · rw [if_neg c, decide_eq_false c]; rfl
theorem some_ready {l S : List Int} (h : tblB l = true) (hS : ∀ x ∈ S, 0 ≤ x) {x : Int} (hx : x ∈ keysZ l) (hxS : x ∉ S) : (keysZ l).filter (rdyB l S) ≠ [] := by
  obtain ⟨h1, h2, h3, h4⟩ := tblB_parts h
  obtain ⟨i, hi, rfl, h0⟩ := key_at hx
  obtain ⟨j, hj1, hj2, hj3⟩ := TabT.exists_ready (p := partOf l S) (tbl_valid h) ⟨i, by rw [us_of hi]; exact decide_eq_true h0, by rw [us_part hS hi]; exact decide_eq_false hxS⟩
  have lj := TabT.us_lt hj1
  have vj := us_val hj1
  obtain ⟨key, hkey⟩ : ∃ key : Nat, l.getD j 0 = key := ⟨(l.getD j 0).toNat, by omega⟩
  have hr : rdyB l S (l.getD j 0) = true := by
    rw [rdyB, Bool.and_eq_true]
    constructor
    · rw [wayS_iff, (cst_here h lj vj).2, hkey, Int.toNat_natCast]
      intro m hm
      rw [costN_cost lj] at hm
      rw [t_g0 lj, hkey] at hj3
      have hu := hj3 m hm
      have hm2 := TabT.cost_lt lj (key : Int)
      have hcy := TabT.cy_lt (n := l.length) (i := TabT.own l.length (key : Int) + m) (by have := TabT.own_lt (n := l.length) (by omega) (key : Int); omega)
      rw [us_part hS hcy] at hu
      rw [Nat.add_zero, way_cell (by omega) (by omega)]
      exact of_decide_eq_true hu
    · rw [us_part hS lj] at hj2
      rw [hj2]; rfl
  intro e
  have : l.getD j 0 ∈ (keysZ l).filter (rdyB l S) := List.mem_filter.2 ⟨keysZ_mem.2 ⟨getD_mem lj, vj⟩, hr⟩
  rw [e] at this
  cases this
theorem idx_head (p : Int → Bool) : ∀ (ks : List Int) (i : Int), (ks.filter p = [] → idxF p ks i = -1) ∧ ∀ x r, ks.filter p = x :: r → ∃ j : Nat, idxF p ks i = i + j ∧ ks.getD j 0 = x ∧ j < ks.length
  | [], i => by simp [idxF]
  | y :: ks, i => by
    by_cases c : p y = true
    · refine ⟨fun e => by simp [c] at e, fun x r e => ?_⟩
      rw [List.filter_cons_of_pos c] at e
      exact ⟨0, by rw [idxF, if_pos c]; simp, by simpa using (List.cons.inj e).1, by simp⟩
    · obtain ⟨h1, h2⟩ := idx_head p ks (i + 1)
      rw [List.filter_cons_of_neg c, idxF, if_neg c]
      refine ⟨h1, fun x r e => ?_⟩
      obtain ⟨j, e1, e2, e3⟩ := h2 x r e
      exact ⟨j + 1, by rw [e1]; omega, by simpa using e2, by simpa using e3⟩
structure Done (l S : List Int) : Prop where
  mem : ∀ x ∈ S, x ∈ keysZ l
  nodup : S.Nodup
theorem Done.nonneg {l S : List Int} (D : Done l S) : ∀ x ∈ S, 0 ≤ x := fun x hx => (keysZ_mem.1 (D.mem x hx)).2
theorem Done.le {l S : List Int} (D : Done l S) : S.length ≤ (keysZ l).length := sub_len _ _ D.nodup D.mem
theorem Done.snoc {l S : List Int} (D : Done l S) {x : Int} {r : List Int} (e : (keysZ l).filter (rdyB l S) = x :: r) : Done l (S ++ [x]) ∧ x ∈ keysZ l ∧ x ∉ S := by
  have hx : x ∈ (keysZ l).filter (rdyB l S) := by rw [e]; exact List.mem_cons_self
  obtain ⟨h1, h2⟩ := List.mem_filter.1 hx
  have h3 : x ∉ S := by
    rw [rdyB, Bool.and_eq_true] at h2
    simpa using h2.2
  refine ⟨⟨fun y hy => ?_, ?_⟩, h1, h3⟩
  · rcases List.mem_append.1 hy with hy | hy
    · exact D.mem y hy
    · rw [List.mem_singleton.1 hy]; exact h1
  · rw [List.nodup_append]
    exact ⟨D.nodup, by simp, fun a ha b hb e => h3 (by rw [List.mem_singleton] at hb; rw [← hb, ← e]; exact ha)⟩
theorem Done.nil (l : List Int) : Done l [] := ⟨by simp, by simp⟩
theorem fo_done {l : List Int} : ∀ (d : Nat) (S : List Int), Done l S → Done l (fo l d S)
  | 0, S, D => D
  | d + 1, S, D => by
    rw [fo]
    split
    · exact D
    · rename_i x r e
      exact fo_done d _ (D.snoc e).1
theorem all_done {l S : List Int} (h : tblB l = true) (D : Done l S) (hl : S.length = (keysZ l).length) : (keysZ l).filter (rdyB l S) = [] := by
  cases e : (keysZ l).filter (rdyB l S) with
  | nil => rfl
  | cons x r =>
    have := (D.snoc e).1.le
    rw [List.length_append, List.length_singleton] at this
    omega
theorem not_done {l S : List Int} (h : tblB l = true) (D : Done l S) (hl : S.length < (keysZ l).length) : (keysZ l).filter (rdyB l S) ≠ [] := by
  by_cases c : ∃ x, x ∈ keysZ l ∧ x ∉ S
  · obtain ⟨x, h1, h2⟩ := c
    exact some_ready h D.nonneg h1 h2
  · have hn := (keysZ_perm l).nodup_iff.mpr (filter_nodup (tbl_dist h))
    have := sub_len (keysZ l) S hn (fun x hx => by
      by_cases c2 : x ∈ S
      · exact c2
      · exact absurd ⟨x, hx, c2⟩ c)
    omega
theorem firstGo_eq {l : List Int} (h : tblB l = true) : ∀ (d : Nat) (S : List Int), Done l S → S.length + d = (keysZ l).length → firstGo l (keysZ l) d S = some (fo l d S)
  | 0, S, D, hl => rfl
  | d + 1, S, D, hl => by
    have hne := not_done h D (by omega)
    rw [firstGo, fo]
    cases e : (keysZ l).filter (rdyB l S) with
    | nil => exact absurd e hne
    | cons x r =>
      obtain ⟨j, e1, e2, e3⟩ := (idx_head (rdyB l S) (keysZ l) 0).2 x r e
      have e4 : idxF (comesF l S) (keysZ l) 0 = (j : Int) := by rw [show comesF l S = rdyB l S from rfl, e1]; omega
      rw [e4, if_pos (by omega), rd_nat, e2]
      exact firstGo_eq h d _ (D.snoc e).1 (by rw [List.length_append, List.length_singleton]; omega)
theorem first_f {l : List Int} (h : tblB l = true) : impl_Table_first.f l = some (fo l (keysZ l).length []) := by
  obtain ⟨h1, h2, h3, h4⟩ := tblB_parts h
  unfold impl_Table_first.f
  rw [if_pos ⟨by omega, by omega, cells_okB h, keys_okB h⟩]
  exact firstGo_eq h _ _ (Done.nil l) (by simp)
theorem place_l0 (l : List Int) (a : Int) (hn : l.length ≤ 4611686018427387904) : ∀ (d i : Nat), i + d = l.length → Ev (fun k => spec_prPlace.l0 k a l (l.length : Int) i) (ixF l a d i) := by
  intro d
  induction d with
  | zero =>
    intro i hd
    exact Ev.end_ fun k => by rw [spec_prPlace.l0, if_neg (by omega)]; rfl
  | succ d ih =>
    intro i hd
    rw [ixF]
    by_cases c : l.getD i 0 = a
    · rw [if_pos c]
      refine Ev.end_ fun k => ?_
      rw [spec_prPlace.l0, if_pos (by omega), if_pos (by omega), if_pos (by omega), rd_nat, if_pos c]
    · rw [if_neg c]
      refine Ev.one (ih (i + 1) (by omega)) fun k => ?_
      rw [spec_prPlace.l0, if_pos (by omega), if_pos (by omega), if_pos (by omega), rd_nat, if_neg c, wrap_next (n := l.length) (by omega) hn]
theorem prPlace_ev (l : List Int) (a : Int) (hn : l.length ≤ 4611686018427387904) : Ev (fun k => spec_prPlace.f k l a) (ixF l a l.length 0) := by
  unfold spec_prPlace.f
  exact place_l0 l a hn l.length 0 (by omega)
theorem part_set {l S : List Int} (h : tblB l = true) {i : Nat} (hi : i < l.length) (h0 : 0 ≤ l.getD i 0) : (partOf l S).set i (l.getD i 0) = partOf l (S ++ [l.getD i 0]) := by
  refine List.ext_getElem (by simp [partOf]) (fun j hj1 hj2 => ?_)
  have hj : j < l.length := by rw [part_len] at hj2; exact hj2
  have e1 : (partOf l (S ++ [l.getD i 0]))[j] = if l.getD j 0 ∈ S ++ [l.getD i 0] then l.getD j 0 else -1 := by
    rw [← part_get l _ hj, getD_get hj2]
  have e2 : (partOf l S)[j]'(by rw [part_len]; exact hj) = if l.getD j 0 ∈ S then l.getD j 0 else -1 := by
    rw [← part_get l _ hj, getD_get (by rw [part_len]; exact hj)]
  rw [List.getElem_set, e1, e2]
  by_cases c : i = j
  · subst c
    rw [if_pos rfl, if_pos (by simp)]
  · rw [if_neg c]
    have hd : l.getD j 0 ≠ l.getD i 0 := fun e => by
      rcases Nat.lt_or_ge i j with q | q
      · exact tbl_dist h i j q hj h0 e.symm
      · exact tbl_dist h j i (by omega) hi (by rw [e]; exact h0) e
    simp only [List.mem_append, List.mem_singleton, hd, or_false]
theorem prFirst_l0 {l : List Int} (h : tblB l = true) : ∀ (d : Nat) (S : List Int), Done l S → S.length + d = (keysZ l).length → Ev (fun k => spec_prFirst.l0 k (partOf l S) S ((keysZ l).filter (rdyB l S)) l) (fo l d S) := by
  obtain ⟨h1, h2, h3, h4⟩ := tblB_parts h
  intro d
  induction d with
  | zero =>
    intro S D hl
    rw [all_done h D (by omega)]
    exact Ev.end_ fun k => by rw [spec_prFirst.l0, if_neg (by simp)]; rfl
  | succ d ih =>
    intro S D hl
    rw [fo]
    cases e : (keysZ l).filter (rdyB l S) with
    | nil => exact Ev.end_ fun k => by rw [spec_prFirst.l0, if_neg (by simp)]
    | cons x r =>
      obtain ⟨D2, hx, hxS⟩ := D.snoc e
      obtain ⟨i, hi, rfl, h0⟩ := key_at hx
      have hle := D.le
      have hkl := keysZ_len l
      refine Ev.step (f := fun k => (spec_prPlace.f k l (l.getD i 0)).bind fun t180 => (if 0 ≤ t180 then (if t180 < ((partOf l S).length : Int) then ((some ((partOf l S).set (t180 : Int).toNat (l.getD i 0) : List Int)).bind fun y182 => (if S.length < 17592186044416 then ((spec_prReady.f k l y182).bind fun t187 => (spec_prFirst.l0 k y182 (S ++ [l.getD i 0]) t187 l)) else (none))) else (none)) else (none))) (fun k => by
        rw [spec_prFirst.l0, if_pos (by simp), if_pos (by simp)]
        rfl) ?_
      refine Ev.bind (prPlace_ev l _ (by omega)) ?_
      rw [ix_here h hi h0]
      simp only [if_pos (show (0 : Int) ≤ (i : Int) by omega), if_pos (show (i : Int) < ((partOf l S).length : Int) by rw [part_len]; omega), Int.toNat_natCast, Option.bind_some, part_set h hi h0, if_pos (show S.length < 17592186044416 by omega)]
      refine Ev.bind (prReady_ev h D2.nonneg) ?_
      rw [rdy_filter h]
      exact ih _ D2 (by rw [List.length_append, List.length_singleton]; omega)
theorem prFirst_ev {l : List Int} (h : tblB l = true) : Ev (fun k => spec_prFirst.f k l) (fo l (keysZ l).length []) := by
  obtain ⟨h1, h2, h3, h4⟩ := tblB_parts h
  unfold spec_prFirst.f
  refine Ev.bind (t_prEmpty_ev l.length (by omega)) ?_
  rw [← part_nil l]
  refine Ev.bind (prReady_ev h (by simp)) ?_
  rw [rdy_filter h]
  exact prFirst_l0 h _ _ (Done.nil l) (by simp)
def lastTo (l : List Int) : Nat → Nat
  | 0 => 0
  | q + 1 => if l.getD q 0 = -1 then q else lastTo l q
theorem lastTo_lt (l : List Int) : ∀ q, 1 ≤ q → lastTo l q < q
  | 0, h => by omega
  | q + 1, _ => by
    rw [lastTo]
    split
    · omega
    · by_cases c : 1 ≤ q
      · have := lastTo_lt l q c; omega
      · obtain rfl : q = 0 := by omega
        simp [lastTo]
/-- Where a key's own cell lies on the street that begins behind the last free cell. -/
def streetC (l : List Int) (x : Int) : Int := (((x.toNat % l.length + 2 * l.length - lastTo l l.length - 1) % l.length : Nat) : Int)
theorem spec_arith {n key last : Nat} (hn : 2 ≤ n) (hn2 : n ≤ 12) (hk : key ≤ 1000) (hl : last < n) :
    Int.tmod (wrap64 ((wrap64 ((wrap64 ((Int.tmod (key : Int) (n : Int)) - (last : Int))) - 1)) + (wrap64 (2 * (n : Int))))) (n : Int) = (((key % n + 2 * n - last - 1) % n : Nat) : Int) := by
  have e : Int.tmod (key : Int) (n : Int) = ((key % n : Nat) : Int) := rfl
  have hm := Nat.mod_lt key (show 0 < n by omega)
  rw [e, wrap_id (x := ((key % n : Nat) : Int) - (last : Int)) (by omega) (by omega), wrap_id (x := ((key % n : Nat) : Int) - (last : Int) - 1) (by omega) (by omega), wrap_id (x := 2 * (n : Int)) (by omega) (by omega), wrap_id (by omega) (by omega),
    show ((key % n : Nat) : Int) - (last : Int) - 1 + 2 * (n : Int) = ((key % n + 2 * n - last - 1 : Nat) : Int) by omega]
  rfl
theorem impl_arith {n key last : Nat} (hn : 2 ≤ n) (hn2 : n ≤ 12) (hk : key ≤ 1000) (hl : last < n) :
    Int.tmod (wrap64 ((Int.tmod (wrap64 ((Int.tmod (key : Int) (n : Int)) + (wrap64 ((wrap64 (-(last : Int))) - 1)))) (n : Int)) + (n : Int))) (n : Int) = (((key % n + 2 * n - last - 1) % n : Nat) : Int) := by
  have e : Int.tmod (key : Int) (n : Int) = ((key % n : Nat) : Int) := rfl
  have hm := Nat.mod_lt key (show 0 < n by omega)
  generalize key % n = o at *
  rw [e, wrap_id (x := -(last : Int)) (by omega) (by omega), wrap_id (x := -(last : Int) - 1) (by omega) (by omega), wrap_id (x := (o : Int) + (-(last : Int) - 1)) (by omega) (by omega)]
  rcases Nat.lt_or_ge last o with c | c
  · have e1 : (o : Int) + (-(last : Int) - 1) = ((o - last - 1 : Nat) : Int) := by omega
    have e2 : Int.tmod ((o - last - 1 : Nat) : Int) (n : Int) = ((o - last - 1 : Nat) : Int) := by
      have : Int.tmod ((o - last - 1 : Nat) : Int) (n : Int) = (((o - last - 1) % n : Nat) : Int) := rfl
      rw [this, Nat.mod_eq_of_lt (by omega)]
    rw [e1, e2, wrap_id (by omega) (by omega), show ((o - last - 1 : Nat) : Int) + (n : Int) = ((o - last - 1 + n : Nat) : Int) by omega]
    have e3 : Int.tmod ((o - last - 1 + n : Nat) : Int) (n : Int) = (((o - last - 1 + n) % n : Nat) : Int) := rfl
    rw [e3, show o + 2 * n - last - 1 = (o - last - 1 + n) + n by omega, Nat.add_mod_right (o - last - 1 + n)]
  · have e1 : (o : Int) + (-(last : Int) - 1) = -((last + 1 - o : Nat) : Int) := by omega
    have e2 : Int.tmod ((last + 1 - o : Nat) : Int) (n : Int) = (((last + 1 - o) % n : Nat) : Int) := rfl
    rw [e1, Int.neg_tmod, e2]
    rcases Nat.lt_or_ge (last + 1 - o) n with q | q
    · rw [Nat.mod_eq_of_lt q, wrap_id (by omega) (by omega), show -((last + 1 - o : Nat) : Int) + (n : Int) = ((n + o - last - 1 : Nat) : Int) by omega]
      have e3 : Int.tmod ((n + o - last - 1 : Nat) : Int) (n : Int) = (((n + o - last - 1) % n : Nat) : Int) := rfl
      rw [e3, show o + 2 * n - last - 1 = (n + o - last - 1) + n by omega, Nat.add_mod_right]
    · have e5 : last + 1 - o = n := by omega
      rw [e5, Nat.mod_self, wrap_id (by omega) (by omega)]
      have e3 : Int.tmod (-((0 : Nat) : Int) + (n : Int)) (n : Int) = ((n % n : Nat) : Int) := by simp
      rw [e3, show o + 2 * n - last - 1 = n by omega]
end Go.Proofs.Ythlkeledgmpbgaa.Pure
namespace Go.Proofs.Ythlkeledgmpbgaa.Pure
open Go.RowKit Go.Proofs.Ythlkeledgmpbgaa.G Go.Proofs.YthlkeledgmpbgaaW.PrintWords Go.Proofs.YthlkeledgmpbgaaW.PrintLast
set_option linter.unusedVariables false
set_option linter.unusedSimpArgs false
section
variable {l : List Int} (h : tblB l = true)
include h
theorem fo_range {d : Nat} {S : List Int} (D : Done l S) {q : Nat} (hq : q < (fo l d S).length) : ∃ key : Nat, (fo l d S).getD q 0 = key ∧ key ≤ 1000 := by
  have hm := (fo_done d S D).mem _ (getD_mem hq)
  obtain ⟨i, hi, e, h0⟩ := key_at hm
  have := (tblB_parts h).2.2.1 i hi
  exact ⟨((fo l d S).getD q 0).toNat, by omega, by omega⟩
theorem sp_street_l1 (F : List Int) (hF : F.length ≤ 100) (hk : ∀ q, q < F.length → ∃ key : Nat, F.getD q 0 = key ∧ key ≤ 1000) :
    Ev (fun k => spec_StreetOf.l1 k (l.length : Int) ((lastTo l l.length : Nat) : Int) ([] : List Int) F (F.length : Int) 0) (F.map (streetC l), (l.length : Int) - 1, true) := by
  obtain ⟨h1, h2, h3, h4⟩ := tblB_parts h
  have hlt := lastTo_lt l l.length (by omega)
  have := Ev.up0 F.length (fun q => (F.take q).map (streetC l)) (fun k s q => spec_StreetOf.l1 k (l.length : Int) ((lastTo l l.length : Nat) : Int) s F (F.length : Int) q) (F.map (streetC l), (l.length : Int) - 1, true) (fun q hq hE => ?_) (Ev.end_ fun k => ?_)
  · simpa using this
  · obtain ⟨key, hkey, hk9⟩ := hk q hq
    refine Ev.one hE fun k => ?_
    rw [spec_StreetOf.l1, if_pos (by omega), if_pos (by omega), if_pos (by omega), if_neg (by omega), if_pos (by rw [List.length_map, List.length_take]; omega), rd_nat, hkey, spec_arith (by omega) (by omega) hk9 hlt, wrap_next (n := F.length) hq (by omega)]
    congr 1
    rw [take_succ_getD hq, List.map_append, hkey]
    rfl
  · rw [spec_StreetOf.l1, if_neg (by omega), List.take_length, wrap_id (by omega) (by omega)]
theorem own_l0 (F : List Int) (hF : F.length ≤ 100) : Ev (fun k => impl_Table_ownCells.l0 k (([] : List Int)) F (F.length : Int) 0 l) (F.map fun x => Int.tmod x (l.length : Int)) := by
  obtain ⟨h1, h2, h3, h4⟩ := tblB_parts h
  have := Ev.up0 F.length (fun q => (F.take q).map fun x => Int.tmod x (l.length : Int)) (fun k s q => impl_Table_ownCells.l0 k s F (F.length : Int) q l) (F.map fun x => Int.tmod x (l.length : Int)) (fun q hq hE => ?_) (Ev.end_ fun k => ?_)
  · simpa using this
  · refine Ev.one hE fun k => ?_
    rw [impl_Table_ownCells.l0, if_pos (by omega), if_pos (by omega), if_pos (by omega), if_neg (by omega), if_pos (by rw [List.length_map, List.length_take]; omega), rd_nat, wrap_next (n := F.length) hq (by omega)]
    congr 1
    rw [take_succ_getD hq, List.map_append]
    rfl
  · rw [impl_Table_ownCells.l0, if_neg (by omega), List.take_length]
theorem turn_ev (F : List Int) (hF : F.length ≤ 100) (hk : ∀ q, q < F.length → ∃ key : Nat, F.getD q 0 = key ∧ key ≤ 1000) :
    Ev (fun k => impl_turn.f k (F.map fun x => Int.tmod x (l.length : Int)) (l.length : Int) (wrap64 ((wrap64 (-((lastTo l l.length : Nat) : Int))) - 1))) (F.map (streetC l)) := by
  obtain ⟨h1, h2, h3, h4⟩ := tblB_parts h
  have hlt := lastTo_lt l l.length (by omega)
  unfold impl_turn.f
  rw [List.length_map]
  have := Ev.up0 F.length (fun q => (F.take q).map (streetC l)) (fun k s q => impl_turn.l0 k (l.length : Int) (wrap64 ((wrap64 (-((lastTo l l.length : Nat) : Int))) - 1)) s (F.map fun x => Int.tmod x (l.length : Int)) (F.length : Int) q) (F.map (streetC l)) (fun q hq hE => ?_) (Ev.end_ fun k => ?_)
  · simpa using this
  · obtain ⟨key, hkey, hk9⟩ := hk q hq
    have hg : (F.map fun x => Int.tmod x (l.length : Int)).getD q 0 = Int.tmod (key : Int) (l.length : Int) := by
      rw [getD_get (by simpa using hq), List.getElem_map, ← getD_get hq, hkey]
    refine Ev.one hE fun k => ?_
    rw [impl_turn.l0, if_pos (by omega), if_pos (by omega), if_pos (by rw [List.length_map]; omega), if_neg (by omega), if_pos (by rw [List.length_map, List.length_take]; omega), rd_nat, hg, impl_arith (by omega) (by omega) hk9 hlt, wrap_next (n := F.length) hq (by omega)]
    congr 1
    rw [take_succ_getD hq, List.map_append, hkey]
    rfl
  · rw [impl_turn.l0, if_neg (by omega), List.take_length]
def foL (l : List Int) : List Int := fo l (keysZ l).length []
theorem foL_len : (foL l).length ≤ 100 := by
  have := (fo_done (keysZ l).length [] (Done.nil l)).le
  have := keysZ_len l
  have := (tblB_parts h).2.1
  unfold foL
  omega
theorem foL_range {q : Nat} (hq : q < (foL l).length) : ∃ key : Nat, (foL l).getD q 0 = key ∧ key ≤ 1000 := fo_range h (Done.nil l) hq
def stR (l : List Int) : List Int × Int × Bool := ((foL l).map (streetC l), (l.length : Int) - 1, true)
theorem sp_street : Ev (fun k => spec_StreetOf.l0 k (l.length : Int) 0 l (l.length : Int) 0 l) (stR l) := by
  obtain ⟨h1, h2, h3, h4⟩ := tblB_parts h
  have := Ev.up0 l.length (fun q => ((lastTo l q : Nat) : Int)) (fun k s q => spec_StreetOf.l0 k (l.length : Int) s l (l.length : Int) q l) (stR l) (fun q hq hE => ?_) ?_
  · simpa [lastTo] using this
  · rw [lastTo] at hE
    by_cases hf : l.getD q 0 = -1
    · rw [if_pos hf] at hE
      refine Ev.one hE fun k => ?_
      rw [spec_StreetOf.l0, if_pos (by omega), if_pos (by omega), if_pos (by omega), rd_nat, if_pos hf, wrap_next (n := l.length) hq (by omega)]
    · rw [if_neg hf] at hE
      refine Ev.one hE fun k => ?_
      rw [spec_StreetOf.l0, if_pos (by omega), if_pos (by omega), if_pos (by omega), rd_nat, if_neg hf, wrap_next (n := l.length) hq (by omega)]
  · refine Ev.step (f := fun k => (spec_prFirst.f k l).bind fun t279 => (spec_StreetOf.l1 k (l.length : Int) ((lastTo l l.length : Nat) : Int) ([] : List Int) t279 (t279.length : Int) 0)) (fun k => by
      rw [spec_StreetOf.l0, if_neg (by omega)]) ?_
    refine Ev.bind (prFirst_ev h) ?_
    exact sp_street_l1 h (foL l) (foL_len h) (fun q hq => foL_range h hq)
theorem im_here (q : Nat) (hq : q < l.length) (e0 : l.getD q 0 = -1) (hl : lastTo l (q + 1) = lastTo l l.length) : Ev (fun k => impl_StreetOf.l0 k (l.length : Int) (q : Int) l) (stR l) := by
  obtain ⟨h1, h2, h3, h4⟩ := tblB_parts h
  rw [lastTo, if_pos e0] at hl
  refine Ev.step (f := fun k => (impl_Table_ownCells.f k l).bind fun t311 => ((impl_turn.f k t311 (l.length : Int) (wrap64 ((wrap64 (-((lastTo l l.length : Nat) : Int))) - 1))).bind fun t314 => (some (t314, wrap64 ((l.length : Int) - 1), true)))) (fun k => by
    rw [impl_StreetOf.l0, if_pos (by omega), if_pos (by omega), rd_nat, if_neg (by omega), ← hl]) ?_
  have ho : Ev (fun k => impl_Table_ownCells.f k l) ((foL l).map fun x => Int.tmod x (l.length : Int)) := by
    unfold impl_Table_ownCells.f
    rw [first_f h]
    exact own_l0 h (foL l) (foL_len h)
  refine Ev.bind ho ?_
  refine Ev.bind (turn_ev h (foL l) (foL_len h) (fun q hq => foL_range h hq)) ?_
  rw [wrap_id (x := (l.length : Int) - 1) (by omega) (by omega)]
  exact Ev.now _
theorem im_street : ∀ (q : Nat), q < l.length → (-1 : Int) ∈ l.take (q + 1) → lastTo l (q + 1) = lastTo l l.length → Ev (fun k => impl_StreetOf.l0 k (l.length : Int) (q : Int) l) (stR l) := by
  obtain ⟨h1, h2, h3, h4⟩ := tblB_parts h
  intro q
  induction q with
  | zero =>
    intro hq hm hl
    have e0 : l.getD 0 0 = -1 := by
      rw [take_succ_getD hq, List.take_zero, List.nil_append, List.mem_singleton] at hm
      exact hm.symm
    exact im_here h 0 hq e0 hl
  | succ q ih =>
    intro hq hm hl
    by_cases hf : l.getD (q + 1) 0 = -1
    · exact im_here h (q + 1) hq hf hl
    · rw [lastTo, if_neg hf] at hl
      rw [take_succ_getD hq, List.mem_append, List.mem_singleton] at hm
      have hm2 : (-1 : Int) ∈ l.take (q + 1) := hm.resolve_right (fun e => hf e.symm)
      refine Ev.one (ih (by omega) hm2 hl) fun k => ?_
      have := h3 (q + 1) hq
      rw [impl_StreetOf.l0, if_pos (by omega), if_pos (by omega), rd_nat, if_pos (by omega), wrap_id (by omega) (by omega), show ((q + 1 : Nat) : Int) - 1 = (q : Int) by omega]
end
end Go.Proofs.Ythlkeledgmpbgaa.Pure
namespace Go.Proofs.Ythlkeledgmpbgaa.Pure
open Go.RowKit Go.Proofs.Ythlkeledgmpbgaa.G Go.Proofs.YthlkeledgmpbgaaW.PrintWords Go.Proofs.YthlkeledgmpbgaaW.PrintLast
set_option linter.unusedVariables false
set_option linter.unusedSimpArgs false
def stB (l : List Int) : Bool := tblB l && decide (1 ≤ ((keysZ l).length : Int) ∧ ((keysZ l).length : Int) ≤ 8)
def stV (l : List Int) : List Int × Int × Bool := if stB l = true then stR l else ([], 0, false)
theorem stV_len (l : List Int) : (stV l).1.length ≤ l.length := by
  unfold stV
  split
  · have := (fo_done (keysZ l).length [] (Done.nil l)).le
    have := keysZ_len l
    unfold stR foL
    simp only [List.length_map]
    omega
  · simp
theorem spec_Street_ev (l : List Int) (hn : l.length ≤ 4611686018427387904) : Ev (fun k => spec_StreetOf.f k l) (stV l) := by
  unfold spec_StreetOf.f stV stB
  refine Ev.bind (prGood_ev l hn) ?_
  cases h : tblB l with
  | false =>
    simp only [Bool.false_eq_true, if_false, Bool.false_and]
    exact Ev.end_ fun k => by rw [spec_StreetOf.j0, if_pos rfl]
  | true =>
    obtain ⟨h1, h2, h3, h4⟩ := tblB_parts h
    simp only [if_true, Bool.true_and]
    refine Ev.bind (prMany_ev l (by omega)) ?_
    rw [many_keysZ (fun j hj => (h3 j hj).1), l1In_eq]
    simp only [Option.bind_some]
    cases c : decide (1 ≤ ((keysZ l).length : Int) ∧ ((keysZ l).length : Int) ≤ 8) with
    | false =>
      simp only [Bool.false_eq_true, if_false]
      exact Ev.end_ fun k => by rw [spec_StreetOf.j0, if_pos (by decide)]
    | true =>
      simp only [if_true]
      exact Ev.one (sp_street h) fun k => by rw [spec_StreetOf.j0, if_neg (by decide)]
theorem impl_Street_ev (l : List Int) (hn : l.length ≤ 4611686018427387904) : Ev (fun k => impl_StreetOf.f k l) (stV l) := by
  unfold impl_StreetOf.f stV stB
  refine Ev.bind (isTable_ev l hn) ?_
  cases h : tblB l with
  | false =>
    simp only [Bool.false_eq_true, if_false, Bool.false_and]
    exact Ev.end_ fun k => by rw [impl_StreetOf.j0, if_pos rfl]
  | true =>
    obtain ⟨h1, h2, h3, h4⟩ := tblB_parts h
    simp only [if_true, Bool.true_and, keys_f h, Option.bind_some, between_eq]
    cases c : decide (1 ≤ ((keysZ l).length : Int) ∧ ((keysZ l).length : Int) ≤ 8) with
    | false =>
      simp only [Bool.false_eq_true, if_false]
      exact Ev.end_ fun k => by rw [impl_StreetOf.j0, if_pos (by decide)]
    | true =>
      simp only [if_true]
      have hs := im_street h (l.length - 1) (by omega) (by rw [show l.length - 1 + 1 = l.length by omega, List.take_length]; exact h4) (by rw [show l.length - 1 + 1 = l.length by omega])
      refine Ev.one hs fun k => ?_
      rw [impl_StreetOf.j0, if_neg (by decide), wrap_id (by omega) (by omega), show (l.length : Int) - 1 = ((l.length - 1 : Nat) : Int) by omega]
theorem FnExactStreetOf (l0 : List Int) (hm : l0.length ≤ maxLen) (hb : l0.length * 8 ≤ 140737488351232) (hw : ∀ x ∈ l0, (Lit.int .i64 x).wf = true) : ∃ k, laws_FnExactStreetOf.f k l0 = some true := by
  refine Ev.rounds ?_
  unfold laws_FnExactStreetOf.f
  rw [szTable_eq l0 (by omega)]
  simp only [Option.bind_some]
  by_cases h : (l0.length : Int) > 1048576
  · rw [if_pos h]
    simp only [show ((-1 : Int) < 0) by decide, if_true]
    exact Ev.now _
  · rw [if_neg h]
    have hn : l0.length ≤ 1048576 := by omega
    have hv := stV_len l0
    simp only [show ¬ ((1048576 : Int) - (l0.length : Int) < 0) by omega, if_false]
    refine Ev.bind (toTable_ev l0 (by omega)) ?_
    refine Ev.bind (spec_Street_ev l0 (by omega)) ?_
    refine Ev.bind (toTable_ev l0 (by omega)) ?_
    refine Ev.bind (impl_Street_ev l0 (by omega)) ?_
    refine Ev.bind (eqIntS_ev _ _ (by omega)) ?_
    simp only [decide_true, if_true, bne_self_eq_false]
    refine Ev.step (fun k => by rw [laws_FnExactStreetOf.j0, if_neg (by decide)]) ?_
    refine Ev.bind (toTable_ev l0 (by omega)) ?_
    refine Ev.bind (eqTable_ev l0 l0 (by omega)) ?_
    simp only [decide_true, if_true]
    refine Ev.bind (markTable_ev _ 1 (by omega) (by omega)) ?_
    simp only [nneg, if_false]
    refine Ev.bind (eqIntS_ev _ _ (by omega)) ?_
    simp only [decide_true, if_true, bne_self_eq_false]
    refine Ev.step (fun k => by rw [laws_FnExactStreetOf.j1, if_neg (by decide)]) ?_
    refine Ev.bind (markIntS_ev _ 1 (by omega) (by omega)) ?_
    refine Ev.bind (heldIntS_ev _ 1 (by omega) (by omega)) ?_
    simp only [nneg, if_false, if_true]
    refine Ev.bind (toTable_ev l0 (by omega)) ?_
    refine Ev.bind (impl_Street_ev l0 (by omega)) ?_
    refine Ev.bind (eqIntS_ev _ _ (by omega)) ?_
    simp only [decide_true, if_true, bne_self_eq_false]
    refine Ev.step (fun k => by rw [laws_FnExactStreetOf.j2, if_neg (by decide)]) ?_
    refine Ev.bind (heldIntS_ev _ 1 (by omega) (by omega)) ?_
    simp only [nneg, if_false, if_true]
    exact Ev.now _
end Go.Proofs.Ythlkeledgmpbgaa.Pure
namespace Go.Proofs.YthlkeledgmpbgaaW.PrintWords
open Go.ChangeShapes Go.WideShapes
theorem sized_ints {H : Type} {enc : TypeId × Value → H} {P : Program} {W : World} {base : Nat} {spare : Nat → Bool} {held : Bool} {t e : TypeId} {k : IntKind} {a : Option Addr} {len cap : Nat} {d : DataW H} {ps : List MemPlace} {ts : List TypeId} {ds : List (DataW H)} {j : Nat}
    (hsz : (DataW.weightsEach P ts ds).all (· ≤ reachBytes) = true) (ht : ts[j]? = some t) (hd : ds[j]? = some d) (hu : P.underlying t = some (.slice e)) (he : P.underlying e = some (.int k)) (hc : P.cellsOf e = 1) {B : Nat} (hB : P.bytesOf e = B)
    (h : DataW.Trod enc P W base spare held t (.slice a len cap) d ps) : len * B ≤ 140737488351232 := by
  obtain ⟨fuel, hf⟩ := h
  rcases open_ints hu he hc hf with ⟨hcs, _⟩ | ⟨x, l, c, zs, hcs, _, hl, _, hz, hx, _, _⟩
  · simp [Value.cells] at hcs
    obtain ⟨rfl, rfl, rfl⟩ := hcs
    simp
  · simp [Value.cells] at hcs
    obtain ⟨rfl, rfl, rfl⟩ := hcs
    obtain ⟨hx, _⟩ := Prod.mk.inj hx
    subst hx
    have z := sized_slice hsz ht hd hu
    rw [hB] at z
    have hl2 : len ≤ zs.length := by
      rw [hz]
      split
      · exact hl
      · exact Nat.le_refl _
    have h1 : (lits (H := H) k (zs.take len)).length + (lits (H := H) k (zs.drop len)).length = zs.length := by
      simp [lits]
      omega
    rw [h1] at z
    exact Nat.le_trans (Nat.mul_le_mul_right _ hl2) z
end Go.Proofs.YthlkeledgmpbgaaW.PrintWords
namespace Go.Proofs.Ythlkeledgmpbgaa.fnExactStreetOf
open Go.ChangeShapes Go.WideShapes Go.ChangeAt Go.RowKit
open Go.ChangeMaps (open_string shut_string)
open Go.Proofs.YthlkeledgmpbgaaW.PrintWords Go.Proofs.YthlkeledgmpbgaaW.PrintLast Go.Proofs.YthlkeledgmpbgaaW.PrintMore
set_option linter.unusedVariables false
set_option linter.unusedSimpArgs false
theorem own : ownKnob Try.prog.godebug = none := by kernel_rfl
theorem laidOut : laidOutB Try.prog = true := by kernel_rfl
def IsRow (k : IntKind) (w : World) (a : Option Addr) (len cap : Nat) (zs : List Int) : Prop :=
  (a = none ∧ len = 0 ∧ cap = 0 ∧ zs = []) ∨
  ∃ x, a = some x ∧ len ≤ cap ∧ cap ≤ maxLen ∧ zs.length = cap ∧ (∀ i, i < zs.length → w.cell? (x.add i) = some (.int k (zs.getD i 0))) ∧ ∀ n ∈ zs, (Lit.int k n).wf = true
set_option maxHeartbeats 4000000 in
set_option maxRecDepth 100000 in
theorem lifted (os : Os) (started : os.Started) (H : Type) (enc : TypeId × Value → H) :
    ReturnsInHanded {} Try.checked os 4 .any (Rows.fnExactStreetOfSpec.pre6 enc Try.prog Try.f4 Rows.fnExactStreetOfRow.domain false) (Rows.fnExactStreetOfSpec.post enc Try.prog Try.f4 false true false false) := by
  refine returnsInHanded_of_change_sized (C := Try.checked) own started (by kernel_rfl) Try.func4
    (ChangeSpec.witness6 (enc := enc) (C := Try.checked) false ⟨#[], #[.agg #[.slice none 0 0]], []⟩ 8 (by kernel_rfl) (by kernel_rfl) (by kernel_rfl) (by kernel_rfl)) ?_
  intro W base args ds gs before hval0 hW hcnd hsz0 _
  have hsz : (DataW.weightsEach Try.prog (Try.f4.params.toList ++ Rows.fnExactStreetOfSpec.plain.varTypes Try.prog) (ds ++ gs)).all (· ≤ reachBytes) = true := hsz0
  have hval : ∀ (j : Nat) t v, Try.f4.params[j]? = some t → args[j]? = some v → Value.okWide Try.prog W .any base t v := hval0
  have hW' := hW
  obtain ⟨p, q, hA0, hV, rfl, hfz, hnd⟩ := hW
  have hA : DataW.TrodAll enc Try.prog W 0 (fun _ => true) true Try.f4.params.toList args.toList ds p := hA0
  rw [Try.params4] at hA hval hsz
  obtain ⟨v0, vs0, d0, ds0, p0, q0, hargs, rfl, rfl, h0, r0⟩ := trodAll_cons hA
  obtain ⟨rfl, rfl, rfl⟩ := trodAll_nil r0
  obtain rfl : args = #[v0] := by cases args; simp_all
  obtain ⟨rfl, rfl⟩ := trodVars_none hV
  obtain ⟨cs0, rfl, hcs0⟩ := okWide_struct Try.underlying24 (hval 0 24 v0 rfl rfl)
  have k0 := h0
  have lt0 : ∀ x ∈ p0, x.block < W.heap.size := by obtain ⟨m, hm⟩ := k0; exact DataW.trod_lt m _ _ _ hm
  obtain ⟨a0, len0, cap0, z0, rfl, w0, y0⟩ : ∃ a len cap zs, cs0 = #[.slice a len cap] ∧ IsRow .i64 W a len cap zs ∧ len * 8 ≤ 140737488351232 := by
    obtain ⟨fuel, hf⟩ := h0
    obtain ⟨y, m, hx, _, hf0⟩ := trod_struct1 Try.underlying24 hf
    have hsize : cs0.size = 1 := hcs0.trans (by kernel_rfl)
    obtain ⟨u, rfl⟩ : ∃ u, cs0 = #[u] := Array.size_eq_one_iff.1 hsize
    have hone : Try.prog.cellsOf 22 = 1 := by kernel_rfl
    have hf1 : DataW.trod enc Try.prog W 0 (fun _ => true) true m 22 [u] = some y := by simpa [Value.cells, hone] using hf0
    obtain ⟨rfl, rfl⟩ := Prod.mk.inj hx
    have hsz1 : (DataW.weightsEach Try.prog [22] [y.1]).all (· ≤ reachBytes) = true := by
      rw [List.all_eq_true]
      intro b hb
      refine List.all_eq_true.1 hsz b (DataW.weights_mem_each (j := 0) rfl rfl b ?_)
      rw [DataW.weights, Try.underlying24]
      exact hb
    rcases open_ints Try.underlying22 Try.underlying3 (by kernel_rfl) hf1 with ⟨hcs, _⟩ | ⟨x, l, c, zs, hcs, _, hl, hm, hz, _, hcell, hwz⟩
    · obtain rfl : u = .slice none 0 0 := by simpa using hcs
      exact ⟨none, 0, 0, [], rfl, .inl ⟨rfl, rfl, rfl, rfl⟩, by omega⟩
    · obtain rfl : u = .slice (some x) l c := by simpa using hcs
      have hy := Go.Proofs.YthlkeledgmpbgaaW.PrintWords.sized_ints hsz1 (j := 0) (t := 22) rfl rfl Try.underlying22 Try.underlying3 (by kernel_rfl) (B := 8) (by kernel_rfl) (⟨m, hf1⟩ : DataW.Trod enc Try.prog W 0 (fun _ => true) true 22 (.slice (some x) l c) y.1 y.2)
      exact ⟨some x, l, c, zs, rfl, .inr ⟨_, rfl, hl, hm, by simpa using hz, hcell, hwz⟩, hy⟩
  clear hA0 hval0 hsz0 hsz
  obtain ⟨l0, rfl, hr0, hm0, hw0, hc0⟩ := ReadsInt.ofRowC w0
  obtain ⟨k, h⟩ := Pure.FnExactStreetOf l0 hm0 y0 hw0
  refine (G.laws_FnExactStreetOf.calls k _ _ l0 true W (Kd.C_of_reads (d := (0 : Int)) (h1 := fun _ => rfl) hr0) hc0 h).mono fun e W' hee => ?_
  obtain ⟨he, bel⟩ := hee
  subst he
  exact ⟨_, rfl, _, _, _, [], _, [], hW', trodAll_mk1 (shut_bool Try.underlying4 _), (trodAll_cons_mk (Below.trod laidOut (by kernel_rfl) (of_decide_eq_true (by kernel_rfl)) k0 bel lt0) trodAll_mk0), rfl, bel.frame _, fun h => by cases h⟩
theorem over : Rows.fnExactStreetOfRow.holds Try.pinned (OpenSpec.ofChange Rows.fnExactStreetOfSpec) :=
  OpenClaim.holds_of_wide 4 Try.f4 rfl rfl rfl rfl rfl rfl rfl ⟨rfl, rfl, rfl, rfl, rfl⟩ rfl rfl rfl rfl rfl (by kernel_rfl) Try.func4 (by kernel_rfl)
    (of_decide_eq_true (by kernel_rfl)) (by unfold Func.isWrapper; first | (rw [if_pos (by decide +kernel)]; kernel_rfl) | (rw [if_neg (by decide +kernel)]; exact ⟨rfl, rfl⟩))
    (fun os started H enc _ => lifted os started H enc)
theorem proved : Rows.FnExactStreetOfSaid := over
#print axioms proved
end Go.Proofs.Ythlkeledgmpbgaa.fnExactStreetOf
namespace Go.Proofs.Ythlkeledgmpbgaa
/-- The row, under a short name, for the claim. -/
theorem fnExactStreetOf_holds : Rows.FnExactStreetOfSaid := fnExactStreetOf.proved
end Go.Proofs.Ythlkeledgmpbgaa
