/- The law FnExactRobinTable: part 3 of the printed functions and the facts on them that its row leans on (merged by this session's slim.py). -/
import Derived.Test.YtfblohigbdomjaaZFnExactRobinTable2
namespace Go.Proofs.Ytfblohigbdomjaa.G
open Go.RowKit Go.Proofs.YtfblohigbdomjaaW.PrintWords Go.Proofs.YtfblohigbdomjaaW.PrintLast Go.Proofs.YtfblohigbdomjaaW.PrintMore
set_option linter.unusedVariables false
set_option linter.unusedSimpArgs false
theorem sortZ_perm (l : List Int) : (sortZ l).Perm l := List.mergeSort_perm l _
theorem sortZ_le (l : List Int) : (sortZ l).Pairwise (· ≤ ·) := by
  have h := List.pairwise_mergeSort (le := fun x y : Int => decide (x ≤ y)) (fun a b c => by simp; omega) (fun a b => by simp; omega) l
  exact h.imp (fun h => by simpa using h)
def ndFrom (l : List Int) : Nat → Nat → Bool
  | 0, _ => true
  | d + 1, i => !decide (l.getD i 0 ∈ l.take i) && ndFrom l d (i + 1)
theorem ndFrom_iff (l : List Int) : ∀ (d i : Nat), i + d = l.length → (ndFrom l d i = true ↔ ∀ j, i ≤ j → j < l.length → l.getD j 0 ∉ l.take j)
  | 0, i, h => by simp [ndFrom]; omega
  | d + 1, i, h => by
    rw [ndFrom, Bool.and_eq_true, Bool.not_eq_true', decide_eq_false_iff_not, ndFrom_iff l d (i + 1) (by omega)]
    constructor
    · rintro ⟨h1, h2⟩ j hj hl
      by_cases e : j = i
      · rw [e]; exact h1
      · exact h2 j (by omega) hl
    · intro h2
      exact ⟨h2 i (Nat.le_refl _) (by omega), fun j hj hl => h2 j (by omega) hl⟩
theorem nd_nodup (l : List Int) : ndFrom l l.length 0 = decide l.Nodup := by
  rw [Bool.eq_iff_iff, ndFrom_iff l l.length 0 (by omega), decide_eq_true_iff]
  constructor
  · intro h
    unfold List.Nodup
    rw [List.pairwise_iff_getElem]
    intro i j hi hj hij e
    apply h j (Nat.zero_le _) hj
    rw [getD_get hj, ← e]
    exact List.mem_take_iff_getElem.mpr ⟨i, by omega, rfl⟩
  · intro h j _ hj hm
    obtain ⟨i, hi, e⟩ := List.mem_take_iff_getElem.mp hm
    unfold List.Nodup at h
    rw [List.pairwise_iff_getElem] at h
    rw [getD_get hj] at e
    exact h i j (by omega) hj (by omega) e
theorem compact_nodup (l : List Int) : decide ((Go.Lib.compact (sortZ l)).length = l.length) = decide l.Nodup := by
  rw [Bool.eq_iff_iff, decide_eq_true_iff, decide_eq_true_iff]
  have hs := sortZ_le l
  have hsl := sortZ_len l
  rw [← (sortZ_perm l).nodup_iff]
  obtain ⟨s, hse⟩ : ∃ s, s = sortZ l := ⟨_, rfl⟩
  rw [← hse] at hs hsl ⊢
  rw [← hsl]
  unfold Go.Lib.compact Go.Lib.compactUpTo
  rw [List.length_map]
  have e1 : ((List.range s.length).filter (Go.Lib.keeps s.toArray)).length = s.length ↔ ∀ j ∈ List.range s.length, Go.Lib.keeps s.toArray j = true := by
    have := List.length_filter_eq_length_iff (p := Go.Lib.keeps s.toArray) (l := List.range s.length)
    rw [List.length_range] at this
    exact this
  rw [e1]
  have gb : ∀ j, j < s.length → s.toArray[j]! = s.getD j 0 := fun j hj => by
    rw [getElem!_pos s.toArray j (by simpa using hj), getD_get hj]; simp
  rw [List.pairwise_iff_getElem] at hs
  constructor
  · intro h
    unfold List.Nodup
    rw [List.pairwise_iff_getElem]
    intro i j hi hj hij e
    have hk := h j (List.mem_range.mpr hj)
    unfold Go.Lib.keeps at hk
    rw [decide_eq_true_iff, gb j hj, gb (j - 1) (by omega), getD_get hj, getD_get (by omega : j - 1 < s.length)] at hk
    rcases hk with hk | hk
    · omega
    · by_cases e2 : i = j - 1
      · subst e2; exact hk e.symm
      · have a1 := hs i (j - 1) hi (by omega) (by omega)
        have a2 := hs (j - 1) j (by omega) hj (by omega)
        omega
  · intro h j hj
    have hj := List.mem_range.mp hj
    unfold Go.Lib.keeps
    rw [decide_eq_true_iff]
    by_cases e : j = 0
    · exact Or.inl e
    · refine Or.inr ?_
      rw [gb j hj, gb (j - 1) (by omega), getD_get hj, getD_get (by omega : j - 1 < s.length)]
      unfold List.Nodup at h
      rw [List.pairwise_iff_getElem] at h
      exact fun e2 => h (j - 1) j (by omega) hj (by omega) e2.symm
def keysB (l : List Int) (a : Int) : Bool := decide (2 ≤ a ∧ a ≤ 12) && decide ((l.length : Int) < a) && (l.all fun x => decide (0 ≤ x ∧ x ≤ 999)) && decide l.Nodup
theorem areKeysB_eq (l : List Int) (a : Int) : areKeysB l a = keysB l a := by
  unfold areKeysB keysB
  rw [compact_nodup]
  congr 3
  funext x
  rw [Bool.eq_iff_iff]; simp
theorem areKeys_f (l : List Int) (a : Int) (hn : l.length ≤ 1048576) : impl_areKeys.f l a = some (keysB l a) := by
  unfold impl_areKeys.f
  rw [if_pos hn, areKeysB_eq]
theorem keysB_parts {l : List Int} {a : Int} (h : keysB l a = true) : 2 ≤ a ∧ a ≤ 12 ∧ (l.length : Int) < a ∧ (∀ x ∈ l, 0 ≤ x ∧ x ≤ 999) ∧ l.Nodup := by
  unfold keysB at h
  simp only [Bool.and_eq_true, decide_eq_true_eq, List.all_eq_true] at h
  exact ⟨h.1.1.1.1, h.1.1.1.2, h.1.1.2, h.1.2, h.2⟩
theorem prKeys_ev (l : List Int) (a : Int) (hn : l.length ≤ 1048576) : Ev (fun k => spec_prKeys.f k a l) (keysB l a) := by
  unfold spec_prKeys.f keysB
  simp only [prSize_eq, Option.bind_some]
  have stop : Ev (fun k => spec_prKeys.j0 k l true) false := Ev.end_ fun k => by rw [spec_prKeys.j0, if_pos rfl]
  by_cases h1 : 2 ≤ a ∧ a ≤ 12
  · rw [decide_eq_true h1]
    simp only [if_true, Bool.true_and]
    by_cases h2 : (l.length : Int) ≥ a
    · rw [decide_eq_false (by omega : ¬ (l.length : Int) < a)]
      simp only [h2, if_true, Bool.false_and]
      exact stop
    · rw [decide_eq_true (by omega : (l.length : Int) < a)]
      simp only [h2, if_false, Bool.true_and]
      refine Ev.bind (l1All_ev l 0 999 (by omega)) ?_
      cases h3 : (l.all fun x => decide (0 ≤ x ∧ x ≤ 999)) with
      | false => simp only [Bool.not_false, Bool.false_and]; exact stop
      | true =>
        simp only [Bool.not_true, Bool.true_and]
        refine Ev.step (f := fun k => spec_prKeys.l0 k l l (l.length : Int) 0) (fun k => by rw [spec_prKeys.j0, if_neg (by decide)]) ?_
        rw [← nd_nodup]
        have loop : ∀ (d i : Nat), i + d = l.length → Ev (fun k => spec_prKeys.l0 k l l (l.length : Int) (i : Int)) (ndFrom l d i) := by
          intro d
          induction d with
          | zero => intro i hd; exact Ev.end_ fun k => by rw [spec_prKeys.l0, if_neg (by omega)]; rfl
          | succ d ih =>
            intro i hd
            have hi : i < l.length := by omega
            rw [ndFrom]
            refine Ev.step (f := fun k => (spec_l1Has.f k (l.take i) (l.getD i 0)).bind fun t368 => (if t368 = true then (some false) else (spec_prKeys.l0 k l l (l.length : Int) ((i + 1 : Nat) : Int)))) (fun k => by
              rw [spec_prKeys.l0, if_pos (by omega), if_pos (by omega), if_pos (by omega), if_pos (by omega), rd_nat, Int.toNat_natCast, wrap_next (n := l.length) hi (by omega)]) ?_
            refine Ev.bind (l1Has_ev _ _ (by simp; omega)) ?_
            cases hh : decide (l.getD i 0 ∈ l.take i) with
            | true => simp only [if_true, Bool.not_true, Bool.false_and]; exact Ev.now _
            | false => simp only [Bool.false_eq_true, if_false, Bool.not_false, Bool.true_and]; exact ih (i + 1) (by omega)
        exact loop l.length 0 (by omega)
  · rw [decide_eq_false h1]
    simp only [Bool.false_eq_true, if_false, Bool.false_and]
    exact stop
end Go.Proofs.Ytfblohigbdomjaa.G
namespace TabT
/-- A place on a circle of n, from below 2 n. -/
def cy (n i : Nat) : Nat := if i < n then i else i - n
theorem cy_mod {n i : Nat} (h : i < 2 * n) : i % n = cy n i := by
  unfold cy
  split
  · exact Nat.mod_eq_of_lt ‹_›
  · rw [Nat.mod_eq_sub_mod (by omega), Nat.mod_eq_of_lt (by omega)]
theorem cy_lt {n i : Nat} (h : i < 2 * n) : cy n i < n := by unfold cy; split <;> omega
/-- Is the cell used? -/
def us (t : List Int) (i : Nat) : Bool := decide (0 ≤ t.getD i (-1))
theorem us_lt {t : List Int} {i : Nat} (h : us t i = true) : i < t.length := by
  rcases Nat.lt_or_ge i t.length with h1 | h1
  · exact h1
  · rw [us, List.getD_eq_getElem?_getD, List.getElem?_eq_none h1] at h; simp at h
theorem getD_set (t : List Int) (p i : Nat) (k d : Int) (hp : p < t.length) : (t.set p k).getD i d = if i = p then k else t.getD i d := by
  rw [List.getD_eq_getElem?_getD, List.getElem?_set, List.getD_eq_getElem?_getD]
  by_cases e : p = i
  · subst e; simp [hp]
  · simp [e, Ne.symm e]
theorem us_set (t : List Int) (p i : Nat) (k : Int) (hp : p < t.length) (hk : 0 ≤ k) : us (t.set p k) i = (decide (i = p) || us t i) := by
  unfold us
  rw [getD_set _ _ _ _ _ hp]
  by_cases e : i = p
  · simp [e, hk]
  · simp [e]
/-- The first free cell from a on: how far it is. -/
def ffFrom (t : List Int) (a : Nat) : Nat → Nat → Nat
  | 0, d => d
  | k + 1, d => if us t (cy t.length (a + d)) = true then ffFrom t a k (d + 1) else d
def ff (t : List Int) (a : Nat) : Nat := ffFrom t a t.length 0
theorem ffFrom_eq (t : List Int) (a : Nat) (e : Nat) (hf : us t (cy t.length (a + e)) = false) :
    ∀ (k d : Nat), d ≤ e → e < d + k → (∀ m, d ≤ m → m < e → us t (cy t.length (a + m)) = true) → ffFrom t a k d = e
  | 0, d, h1, h2, _ => by omega
  | k + 1, d, h1, h2, hu => by
    unfold ffFrom
    by_cases c : d = e
    · subst c; rw [hf]; simp
    · rw [if_pos (hu d (Nat.le_refl _) (by omega))]
      exact ffFrom_eq t a e hf k (d + 1) (by omega) (by omega) (fun m h3 h4 => hu m (by omega) h4)
theorem ff_eq {t : List Int} {a e : Nat} (he : e < t.length) (hf : us t (cy t.length (a + e)) = false) (hu : ∀ m, m < e → us t (cy t.length (a + m)) = true) : ff t a = e :=
  ffFrom_eq t a e hf _ 0 (Nat.zero_le _) (by omega) (fun m _ h => hu m h)
/-- A least number. -/
theorem least_nat {p : Nat → Prop} [DecidablePred p] : ∀ (N : Nat), p N → ∃ e, e ≤ N ∧ p e ∧ ∀ m, m < e → ¬ p m
  | 0, h => ⟨0, Nat.le_refl _, h, fun m hm => absurd hm (Nat.not_lt_zero _)⟩
  | N + 1, h => by
    by_cases hx : ∃ m, m ≤ N ∧ p m
    · obtain ⟨m, hm, hp⟩ := hx
      obtain ⟨e, he, hpe, hle⟩ := least_nat m hp
      exact ⟨e, by omega, hpe, hle⟩
    · exact ⟨N + 1, Nat.le_refl _, h, fun m hm hp => hx ⟨m, by omega, hp⟩⟩
/-- There is a free cell. -/
def Free (t : List Int) : Prop := ∃ i, i < t.length ∧ us t i = false
theorem ff_spec {t : List Int} (hF : Free t) {a : Nat} (ha : a < t.length) :
    ff t a < t.length ∧ us t (cy t.length (a + ff t a)) = false ∧ ∀ m, m < ff t a → us t (cy t.length (a + m)) = true := by
  obtain ⟨i, hi, hu⟩ := hF
  have hx : us t (cy t.length (a + cy t.length (i + t.length - a))) = false := by
    have : cy t.length (a + cy t.length (i + t.length - a)) = i := by unfold cy; split <;> split <;> omega
    rw [this]; exact hu
  obtain ⟨e, he, hpe, hle⟩ := least_nat (p := fun e => us t (cy t.length (a + e)) = false) _ hx
  have hlt : e < t.length := by have : cy t.length (i + t.length - a) < t.length := cy_lt (by omega); omega
  have := ff_eq hlt hpe (fun m hm => by simpa using hle m hm)
  rw [this]
  exact ⟨hlt, hpe, fun m hm => by simpa using hle m hm⟩
/-- A key's own cell. -/
def own (n : Nat) (k : Int) : Nat := (k % (n : Int)).toNat
theorem own_lt {n : Nat} (hn : 0 < n) (k : Int) : own n k < n := by
  unfold own
  have := Int.emod_lt_of_pos k (show (0 : Int) < n by omega)
  have := Int.emod_nonneg k (show (n : Int) ≠ 0 by omega)
  omega
/-- Where a key goes. -/
def pos (t : List Int) (k : Int) : Nat := cy t.length (own t.length k + ff t (own t.length k))
def ins (t : List Int) (k : Int) : List Int := t.set (pos t k) k
@[simp] theorem length_ins (t : List Int) (k : Int) : (ins t k).length = t.length := by simp [ins]
/-- What a key costs in a cell. -/
def cost (n i : Nat) (k : Int) : Nat := cy n (i + n - own n k)
theorem cost_lt {n i : Nat} (hi : i < n) (k : Int) : cost n i k < n := cy_lt (by have := own_lt (n := n) (by omega) k; omega)
theorem own_cost {n i : Nat} (hi : i < n) (k : Int) : cy n (own n k + cost n i k) = i := by
  have := own_lt (n := n) (by omega) k
  unfold cost cy; split <;> split <;> omega
theorem pos_lt {t : List Int} (hF : Free t) (k : Int) : pos t k < t.length := by
  have hn : 0 < t.length := by obtain ⟨i, hi, _⟩ := hF; omega
  have ho := own_lt hn k
  have := (ff_spec hF ho).1
  exact cy_lt (by omega)
/-- The sum of all costs. -/
def costs (t : List Int) : List Nat := t.mapIdx fun i k => if 0 ≤ k then cost t.length i k else 0
/-- Alike in their used cells. -/
def Alike (t u : List Int) : Prop := t.length = u.length ∧ ∀ i, us t i = us u i
theorem Alike.refl (t : List Int) : Alike t t := ⟨rfl, fun _ => rfl⟩
theorem Alike.symm {t u : List Int} (h : Alike t u) : Alike u t := ⟨h.1.symm, fun i => (h.2 i).symm⟩
theorem Alike.trans {t u v : List Int} (h : Alike t u) (k : Alike u v) : Alike t v := ⟨h.1.trans k.1, fun i => (h.2 i).trans (k.2 i)⟩
theorem Alike.free {t u : List Int} (h : Alike t u) (hF : Free t) : Free u := by
  obtain ⟨i, hi, hu⟩ := hF
  exact ⟨i, by have := h.1; omega, by rw [← h.2]; exact hu⟩
/-- How many cells are used. -/
def many (t : List Int) : Nat := (t.filter fun k => decide (0 ≤ k)).length
theorem free_of_many : ∀ (t : List Int), many t < t.length → Free t
  | [], h => by simp [many] at h
  | k :: t, h => by
    by_cases hk : 0 ≤ k
    · have : many t < t.length := by simp only [many, List.filter_cons, hk, decide_true, if_true, List.length_cons] at h ⊢; omega
      obtain ⟨i, hi, hu⟩ := free_of_many t this
      exact ⟨i + 1, by simp; omega, by simpa [us] using hu⟩
    · exact ⟨0, by simp, by simp [us]; omega⟩
theorem many_set : ∀ (t : List Int) (p : Nat) (k : Int), us t p = false → p < t.length → 0 ≤ k → many (t.set p k) = many t + 1
  | [], p, k, _, h, _ => by simp at h
  | x :: t, 0, k, hu, _, hk => by have : ¬ 0 ≤ x := by simpa [us] using hu
                                  simp [many, this, hk]
  | x :: t, p + 1, k, hu, hp, hk => by
    have := many_set t p k (by simpa [us] using hu) (by simpa using hp) hk
    simp only [many, List.set_cons_succ, List.filter_cons] at this ⊢
    split
    · simp only [List.length_cons]; omega
    · omega
theorem many_alike {t u : List Int} (h : Alike t u) : many t = many u := by
  have key : ∀ (t u : List Int), t.length = u.length → (∀ i, us t i = us u i) → many t = many u := by
    intro t
    induction t with
    | nil => intro u hl _; cases u with
      | nil => rfl
      | cons => simp at hl
    | cons x t ih =>
      intro u hl hu
      cases u with
      | nil => simp at hl
      | cons y u =>
        have h0 := hu 0
        have := ih u (by simpa using hl) (fun i => by simpa [us] using hu (i + 1))
        have h0 : decide (0 ≤ x) = decide (0 ≤ y) := by simpa [us] using h0
        simp only [many, List.filter_cons, h0] at this ⊢
        split <;> simp [this]
  exact key t u h.1 h.2
/-- All keys, in order. -/
def insAll (t : List Int) (ks : List Int) : List Int := ks.foldl ins t
@[simp] theorem length_insAll (ks : List Int) : ∀ (t : List Int), (insAll t ks).length = t.length := by
  induction ks with
  | nil => intro t; rfl
  | cons k ks ih => intro t; simp only [insAll, List.foldl_cons] at ih ⊢; rw [ih]; simp
structure Valid (t : List Int) : Prop where
  free : Free t
  ge : ∀ i, i < t.length → -1 ≤ t.getD i (-1)
  nodup : ∀ i j, us t i = true → us t j = true → t.getD i (-1) = t.getD j (-1) → i = j
  path : ∀ i, us t i = true → ∀ m, m < cost t.length i (t.getD i (-1)) → us t (cy t.length (own t.length (t.getD i (-1)) + m)) = true
/-- A part of a table. -/
def Part (p t : List Int) : Prop := p.length = t.length ∧ ∀ i, us p i = true → us t i = true ∧ p.getD i (-1) = t.getD i (-1)
/-- The key of a cell may come next. -/
def Ready (t p : List Int) (i : Nat) : Prop := us t i = true ∧ us p i = false ∧ ∀ m, m < cost t.length i (t.getD i (-1)) → us p (cy t.length (own t.length (t.getD i (-1)) + m)) = true
theorem exists_ready {t p : List Int} (hV : Valid t) (hne : ∃ i, us t i = true ∧ us p i = false) : ∃ i, Ready t p i := by
  obtain ⟨g, hg, hgu⟩ := hV.free
  obtain ⟨i0, h1, h2⟩ := hne
  have hi0 := us_lt h1
  have hx : 1 ≤ cy t.length (i0 + t.length - g) ∧ us t (cy t.length (g + cy t.length (i0 + t.length - g))) = true ∧ us p (cy t.length (g + cy t.length (i0 + t.length - g))) = false := by
    have e : cy t.length (g + cy t.length (i0 + t.length - g)) = i0 := by unfold cy; split <;> split <;> omega
    rw [e]
    refine ⟨?_, h1, h2⟩
    have : i0 ≠ g := fun e => by rw [e, hgu] at h1; cases h1
    unfold cy; split <;> omega
  obtain ⟨e, he, ⟨he1, hp1, hp2⟩, hle⟩ := least_nat (p := fun e => 1 ≤ e ∧ us t (cy t.length (g + e)) = true ∧ us p (cy t.length (g + e)) = false) _ hx
  have hen : e < t.length := by have : cy t.length (i0 + t.length - g) < t.length := cy_lt (by omega); omega
  refine ⟨_, hp1, hp2, fun m hm => ?_⟩
  have hi := us_lt hp1
  generalize hk : t.getD (cy t.length (g + e)) (-1) = k at hm ⊢
  have hpath := hV.path _ hp1
  rw [hk] at hpath
  have ho := own_lt (n := t.length) (by omega) k
  have hc := cost_lt hi k
  have hoc := own_cost hi k
  generalize hcc : cost t.length (cy t.length (g + e)) k = c at *
  generalize own t.length k = o at *
  have hce : c < e := by
    rcases Nat.lt_or_ge c e with h | h
    · exact h
    · have := hpath (c - e) (by omega)
      have e1 : cy t.length (o + (c - e)) = g := by revert hoc; unfold cy; split <;> split <;> split <;> omega
      rw [e1, hgu] at this; cases this
  have hu := hpath m hm
  have e2 : cy t.length (o + m) = cy t.length (g + (e - c + m)) := by revert hoc; unfold cy; split <;> split <;> split <;> split <;> omega
  rw [e2] at hu ⊢
  cases hq : us p (cy t.length (g + (e - c + m))) with
  | true => rfl
  | false => exact absurd ⟨by omega, hu, hq⟩ (hle (e - c + m) (by omega))
theorem Part.free {p t : List Int} (hP : Part p t) (hF : Free t) : Free p := by
  obtain ⟨i, hi, hu⟩ := hF
  refine ⟨i, by rw [hP.1]; exact hi, ?_⟩
  cases h : us p i with
  | false => rfl
  | true => rw [(hP.2 i h).1] at hu; cases hu
/-- The key that may come next comes to its cell. -/
theorem ready_pos {t p : List Int} (hP : Part p t) {i : Nat} (hR : Ready t p i) : pos p (t.getD i (-1)) = i := by
  have hi := us_lt hR.1
  have : ff p (own t.length (t.getD i (-1))) = cost t.length i (t.getD i (-1)) := by
    apply ff_eq
    · rw [hP.1]; exact cost_lt hi _
    · rw [hP.1, own_cost hi]; exact hR.2.1
    · intro m hm; rw [hP.1]; exact hR.2.2 m hm
  unfold pos
  rw [hP.1, this, own_cost hi]
theorem Part.set {p t : List Int} (hP : Part p t) {i : Nat} (hu : us t i = true) : Part (p.set i (t.getD i (-1))) t := by
  have hi := us_lt hu
  refine ⟨by simpa using hP.1, fun j hj => ?_⟩
  rw [us_set _ _ _ _ (by rw [hP.1]; exact hi) (by simpa [us] using hu)] at hj
  rw [getD_set _ _ _ _ _ (by rw [hP.1]; exact hi)]
  by_cases e : j = i
  · subst e; simp [hu]
  · simp [e] at hj ⊢; exact hP.2 j hj
/-- A part in which all cells are used that are used in the whole. -/
theorem Part.full {p t : List Int} (hP : Part p t) (hg : ∀ i, i < t.length → -1 ≤ t.getD i (-1)) (hp : ∀ i, i < p.length → -1 ≤ p.getD i (-1)) (h : ∀ i, us t i = true → us p i = true) : p = t := by
  apply List.ext_getElem hP.1
  intro i h1 h2
  have e1 : p.getD i (-1) = p[i] := by rw [List.getD_eq_getElem?_getD, List.getElem?_eq_getElem h1]; rfl
  have e2 : t.getD i (-1) = t[i] := by rw [List.getD_eq_getElem?_getD, List.getElem?_eq_getElem h2]; rfl
  cases hu : us t i with
  | true => rw [← e1, ← e2]; exact (hP.2 i (h i hu)).2
  | false =>
    have hq : us p i = false := by
      cases hq : us p i with
      | false => rfl
      | true => rw [(hP.2 i hq).1] at hu; cases hu
    have a := hg i h2
    have b := hp i h1
    simp only [us, decide_eq_false_iff_not] at hu hq
    omega
/-- All but the paths through the hole are as in a table. -/
structure Holed (t : List Int) (h : Nat) : Prop where
  hole : h < t.length ∧ t.getD h (-1) = -1
  other : ∃ g, g < t.length ∧ g ≠ h ∧ us t g = false
  ge : ∀ i, i < t.length → -1 ≤ t.getD i (-1)
  nodup : ∀ i j, us t i = true → us t j = true → t.getD i (-1) = t.getD j (-1) → i = j
  path : ∀ i, us t i = true → ∀ m, m < cost t.length i (t.getD i (-1)) → cy t.length (own t.length (t.getD i (-1)) + m) ≠ h → us t (cy t.length (own t.length (t.getD i (-1)) + m)) = true
theorem Holed.valid {t : List Int} {h k : Nat} (hH : Holed t h) (hk : k < t.length) (h1 : 1 ≤ k) (hfree : us t (cy t.length (h + k)) = false)
    (hu : ∀ m, 1 ≤ m → m < k → us t (cy t.length (h + m)) = true ∧ cost t.length (cy t.length (h + m)) (t.getD (cy t.length (h + m)) (-1)) < m) : Valid t := by
  have hn : 0 < t.length := by omega
  have hh := hH.hole.1
  refine ⟨⟨h, hh, by rw [us, hH.hole.2]; rfl⟩, hH.ge, hH.nodup, fun i hi m hm => ?_⟩
  by_cases e : cy t.length (own t.length (t.getD i (-1)) + m) = h
  · -- the cell i lies behind the hole, before the free cell
    exfalso
    have hil := us_lt hi
    have ho := own_lt hn (t.getD i (-1))
    have hc := cost_lt hil (t.getD i (-1))
    have hoc := own_cost hil (t.getD i (-1))
    have hpath := hH.path i hi
    generalize hcc : cost t.length i (t.getD i (-1)) = c at *
    generalize own t.length (t.getD i (-1)) = o at *
    -- i = h + (c - m)
    have ei : i = cy t.length (h + (c - m)) := by revert e hoc; unfold cy; split <;> split <;> split <;> omega
    rcases Nat.lt_or_ge (c - m) k with hlt | hge
    · have := (hu (c - m) (by omega) hlt).2
      rw [← ei, hcc] at this
      omega
    · have hne : cy t.length (o + (m + k)) = cy t.length (h + k) := by revert e; unfold cy; split <;> split <;> split <;> omega
      rcases Nat.lt_or_ge (m + k) c with hmk | hmk
      · have := hpath (m + k) hmk (by rw [hne]; unfold cy; split <;> omega)
        rw [hne, hfree] at this; cases this
      · have : c - m = k := by omega
        rw [this] at ei
        rw [ei, hfree] at hi; cases hi
  · exact hH.path i hi m hm e
def keys (t : List Int) : List Int := t.filter fun k => decide (0 ≤ k)
theorem keys_set : ∀ (t : List Int) (p : Nat) (k : Int), p < t.length → us t p = false → 0 ≤ k → (keys (t.set p k)).Perm (k :: keys t)
  | [], p, k, h, _, _ => by simp at h
  | x :: t, 0, k, _, hu, hk => by
    have : ¬ 0 ≤ x := by simpa [us] using hu
    simp [keys, this, hk]
  | x :: t, p + 1, k, h, hu, hk => by
    have ih := keys_set t p k (by simpa using h) (by simpa [us] using hu) hk
    simp only [keys, List.set_cons_succ, List.filter_cons] at ih ⊢
    split
    · exact (ih.cons x).trans (List.Perm.swap _ _ _)
    · exact ih
theorem mem_keys {t : List Int} {k : Int} : k ∈ keys t ↔ ∃ i, us t i = true ∧ t.getD i (-1) = k := by
  unfold keys
  rw [List.mem_filter, List.mem_iff_getElem]
  constructor
  · rintro ⟨⟨i, hi, rfl⟩, hk⟩
    have e : t.getD i (-1) = t[i] := by rw [List.getD_eq_getElem?_getD, List.getElem?_eq_getElem hi]; rfl
    exact ⟨i, by rw [us, e]; exact hk, e⟩
  · rintro ⟨i, hu, rfl⟩
    have hi := us_lt hu
    have e : t.getD i (-1) = t[i] := by rw [List.getD_eq_getElem?_getD, List.getElem?_eq_getElem hi]; rfl
    exact ⟨⟨i, hi, e.symm⟩, by rw [us] at hu; exact hu⟩
def empty (n : Nat) : List Int := List.replicate n (-1)
theorem us_empty (n i : Nat) : us (empty n) i = false := by
  unfold us empty
  rw [List.getD_eq_getElem?_getD, List.getElem?_replicate]
  split <;> simp
theorem keys_empty (n : Nat) : keys (empty n) = [] := by
  unfold keys empty
  rw [List.filter_eq_nil_iff]
  intro x hx
  rw [List.mem_replicate] at hx
  simp [hx.2]
theorem many_keys (t : List Int) : many t = (keys t).length := rfl
theorem Part.keys_le {p t : List Int} (hP : Part p t) : many p ≤ many t := by
  have key : ∀ (p t : List Int), p.length = t.length → (∀ i, us p i = true → us t i = true) → many p ≤ many t := by
    intro p
    induction p with
    | nil => intro t _ _; simp [many]
    | cons x p ih =>
      intro t hl hu
      cases t with
      | nil => simp at hl
      | cons y t =>
        have h0 := hu 0
        have := ih t (by simpa using hl) (fun i hi => by simpa [us] using hu (i + 1) (by simpa [us] using hi))
        simp [us] at h0
        simp only [many, List.filter_cons] at this ⊢
        by_cases hx : 0 ≤ x
        · have hy := h0 hx
          simp only [hx, hy, decide_true, if_true, List.length_cons]; omega
        · simp only [hx, decide_false, Bool.false_eq_true, if_false]
          split
          · simp only [List.length_cons]; omega
          · omega
  exact key p t hP.1 (fun i hi => (hP.2 i hi).1)
/-- From a part, the keys that are left in an order that makes the table. -/
theorem complete {t : List Int} (hV : Valid t) : ∀ (d : Nat) (p : List Int), Part p t → (∀ i, i < p.length → -1 ≤ p.getD i (-1)) → many t ≤ many p + d → ∃ ks, insAll p ks = t ∧ (keys p ++ ks).Perm (keys t) ∧ many p + ks.length = many t := by
  intro d
  induction d with
  | zero =>
    intro p hP hg hm
    refine ⟨[], ?_, ?_⟩
    · show p = t
      apply Classical.byContradiction
      intro hne
      have : ∃ i, us t i = true ∧ us p i = false := by
        apply Classical.byContradiction
        intro hn
        exact hne (hP.full hV.ge hg fun i hi => by
          cases h : us p i with
          | true => rfl
          | false => exact absurd ⟨i, hi, h⟩ hn)
      obtain ⟨i, hi, hpi⟩ := this
      have := Part.keys_le (hP.set hi)
      rw [many_set p i _ hpi (by rw [hP.1]; exact us_lt hi) (by simpa [us] using hi)] at this
      omega
    · have hle := hP.keys_le
      have : p = t := by
        apply Classical.byContradiction
        intro hne
        have : ∃ i, us t i = true ∧ us p i = false := by
          apply Classical.byContradiction
          intro hn
          exact hne (hP.full hV.ge hg fun i hi => by
            cases h : us p i with
            | true => rfl
            | false => exact absurd ⟨i, hi, h⟩ hn)
        obtain ⟨i, hi, hpi⟩ := this
        have := Part.keys_le (hP.set hi)
        rw [many_set p i _ hpi (by rw [hP.1]; exact us_lt hi) (by simpa [us] using hi)] at this
        omega
      rw [this]; simp
  | succ d ih =>
    intro p hP hg hm
    by_cases hx : ∃ i, us t i = true ∧ us p i = false
    · obtain ⟨i, hR⟩ := exists_ready hV hx
      have hk : 0 ≤ t.getD i (-1) := by have := hR.1; rw [us] at this; exact of_decide_eq_true this
      have hip : i < p.length := by rw [hP.1]; exact us_lt hR.1
      have e : ins p (t.getD i (-1)) = p.set i (t.getD i (-1)) := by rw [ins, ready_pos hP hR]
      obtain ⟨ks, h1, h2, h3⟩ := ih (ins p (t.getD i (-1))) (by rw [e]; exact hP.set hR.1) (by
        intro j hj
        rw [e, getD_set _ _ _ _ _ hip]
        split
        · omega
        · exact hg j (by simpa using hj)) (by rw [e, many_set p i _ hR.2.1 hip hk]; omega)
      rw [e, many_set p i _ hR.2.1 hip hk] at h3
      refine ⟨t.getD i (-1) :: ks, h1, ?_, by simp; omega⟩
      have hp := keys_set p i _ hip hR.2.1 hk
      rw [← e] at hp
      refine List.Perm.trans ?_ h2
      refine List.Perm.trans ?_ (hp.symm.append_right ks)
      rw [List.cons_append]
      exact List.perm_middle
    · have : p = t := hP.full hV.ge hg fun i hi => by
          cases h : us p i with
          | true => rfl
          | false => exact absurd ⟨i, hi, h⟩ hx
      exact ⟨[], by rw [this]; rfl, by rw [this]; simp, by rw [this]; rfl⟩
theorem Part.empty (t : List Int) : Part (empty t.length) t := ⟨by simp [TabT.empty], fun i hi => by rw [us_empty] at hi; cases hi⟩
theorem ge_empty (n : Nat) : ∀ i, i < (empty n).length → -1 ≤ (empty n).getD i (-1) := by
  intro i _
  unfold empty
  rw [List.getD_eq_getElem?_getD, List.getElem?_replicate]
  split <;> simp
theorem Valid.order {t : List Int} (hV : Valid t) : ∃ ks, insAll (empty t.length) ks = t ∧ ks.Perm (keys t) := by
  obtain ⟨ks, h1, h2, _⟩ := complete hV (many t) (empty t.length) (Part.empty t) (ge_empty _) (by omega)
  rw [keys_empty] at h2
  exact ⟨ks, h1, h2⟩
/-- A key in a cell comes ahead of another one in the next cell. -/
def Bef (n i : Nat) (x y : Int) : Prop := cost n (cy n (i + 1)) y < cost n i x + 1 ∨ cost n (cy n (i + 1)) y = cost n i x + 1 ∧ y < x
structure Robin (t : List Int) : Prop where
  valid : Valid t
  sorted : ∀ i, us t i = true → us t (cy t.length (i + 1)) = true → Bef t.length i (t.getD i (-1)) (t.getD (cy t.length (i + 1)) (-1))
def Over (n i : Nat) (h o : Int) : Prop := cost n i o < cost n i h ∨ cost n i h = cost n i o ∧ o < h
instance (n i : Nat) (h o : Int) : Decidable (Over n i h o) := by unfold Over; infer_instance
def robGo : Nat → List Int → Int → Nat → List Int
  | 0, t, h, a => t.set a h
  | d + 1, t, h, a => if Over t.length a h (t.getD a (-1)) then robGo d (t.set a h) (t.getD a (-1)) (cy t.length (a + 1)) else robGo d t h (cy t.length (a + 1))
def rob (t : List Int) (k : Int) : List Int := robGo (ff t (own t.length k)) t k (own t.length k)
/-- What holds at a cell, with a key in hand. -/
structure Hand (t : List Int) (h : Int) (a : Nat) : Prop where
  robin : Robin t
  two : 2 ≤ t.length
  at_ : a < t.length
  pos : 0 ≤ h
  new : ∀ i, us t i = true → t.getD i (-1) ≠ h
  path : ∀ m, m < cost t.length a h → us t (cy t.length (own t.length h + m)) = true
  ahead : us t (cy t.length (a + t.length - 1)) = true → Bef t.length (cy t.length (a + t.length - 1)) (t.getD (cy t.length (a + t.length - 1)) (-1)) h
theorem cost_next {n a : Nat} (ha : a < n) (h2 : 2 ≤ n) (h : Int) (hc : cost n a h + 1 < n) : cost n (cy n (a + 1)) h = cost n a h + 1 := by
  have ho := own_lt (n := n) (by omega) h
  revert hc
  unfold cost cy
  generalize own n h = o at *
  split <;> split <;> split <;> omega
theorem prev_next {n a : Nat} (ha : a < n) (h2 : 2 ≤ n) : cy n (cy n (a + 1) + n - 1) = a := by unfold cy; split <;> split <;> omega
theorem next_prev {n a : Nat} (ha : a < n) (h2 : 2 ≤ n) : cy n (cy n (a + n - 1) + 1) = a := by unfold cy; split <;> split <;> omega
theorem next_ne {n a : Nat} (ha : a < n) (h2 : 2 ≤ n) : cy n (a + 1) ≠ a := by unfold cy; split <;> omega
/-- A key whose path is used up to a used cell costs less than n - 1 there. -/
theorem cost_small {t : List Int} (hF : Free t) {a : Nat} {h : Int} (ha : us t a = true) (hp : ∀ m, m < cost t.length a h → us t (cy t.length (own t.length h + m)) = true) : cost t.length a h + 1 < t.length := by
  have hal := us_lt ha
  have hc := cost_lt hal h
  have hoc := own_cost hal h
  have ho := own_lt (n := t.length) (by omega) h
  apply Classical.byContradiction
  intro hn
  obtain ⟨g, hg, hgu⟩ := hF
  have hcn : cost t.length a h = t.length - 1 := by omega
  generalize cost t.length a h = c at *
  generalize own t.length h = o at *
  -- the free cell is some o + m
  have e : cy t.length (o + cy t.length (g + t.length - o)) = g := by unfold cy; split <;> split <;> omega
  have hm : cy t.length (g + t.length - o) < t.length := cy_lt (by omega)
  rcases Nat.lt_or_ge (cy t.length (g + t.length - o)) c with h1 | h1
  · have := hp _ h1
    rw [e, hgu] at this; cases this
  · have : cy t.length (g + t.length - o) = c := by omega
    rw [this, hoc] at e
    rw [← e, ha] at hgu; cases hgu
theorem Hand.pass {t : List Int} {h : Int} {a : Nat} (H : Hand t h a) (hu : us t a = true) (hn : ¬ Over t.length a h (t.getD a (-1))) : Hand t h (cy t.length (a + 1)) := by
  have hs := cost_small H.robin.valid.free hu H.path
  have hcn := cost_next H.at_ H.two h hs
  refine ⟨H.robin, H.two, cy_lt (by have := H.at_; omega), H.pos, H.new, ?_, ?_⟩
  · intro m hm
    rw [hcn] at hm
    rcases Nat.lt_or_ge m (cost t.length a h) with h1 | h1
    · exact H.path m h1
    · have : m = cost t.length a h := by omega
      rw [this, own_cost H.at_]; exact hu
  · rw [prev_next H.at_ H.two]
    intro _
    unfold Bef
    rw [hcn]
    unfold Over at hn
    have := H.new a hu
    omega
theorem us_same {t : List Int} {a : Nat} {h : Int} (ha : us t a = true) (hh : 0 ≤ h) (i : Nat) : us (t.set a h) i = us t i := by
  rw [us_set _ _ _ _ (us_lt ha) hh]
  by_cases e : i = a
  · subst e; simp [ha]
  · simp [e]
theorem Hand.swap {t : List Int} {h : Int} {a : Nat} (H : Hand t h a) (hu : us t a = true) (ho : Over t.length a h (t.getD a (-1))) : Hand (t.set a h) (t.getD a (-1)) (cy t.length (a + 1)) := by
  have hal := H.at_
  have h2 := H.two
  have hV := H.robin.valid
  have us' : ∀ i, us (t.set a h) i = us t i := us_same hu H.pos
  have gd : ∀ i, (t.set a h).getD i (-1) = if i = a then h else t.getD i (-1) := fun i => getD_set _ _ _ _ _ hal
  have hl : (t.set a h).length = t.length := by simp
  obtain ⟨o, hoe⟩ : ∃ o, o = t.getD a (-1) := ⟨_, rfl⟩
  have hpo := hV.path a hu
  rw [← hoe] at ho hpo ⊢
  have ho0 : 0 ≤ o := by rw [us] at hu; rw [hoe]; exact of_decide_eq_true hu
  have hsm := cost_small hV.free hu hpo
  have hcn := cost_next hal h2 o hsm
  have hnew := H.new
  refine ⟨⟨⟨?_, ?_, ?_, ?_⟩, ?_⟩, by rw [hl]; exact h2, by rw [hl]; exact cy_lt (by omega), ho0, ?_, ?_, ?_⟩
  · obtain ⟨g, hg, hgu⟩ := hV.free
    exact ⟨g, by rw [hl]; exact hg, by rw [us']; exact hgu⟩
  · intro i hi
    rw [gd]
    split
    · have := H.pos; omega
    · exact hV.ge i (by rw [hl] at hi; exact hi)
  · intro i j hi hj
    rw [us'] at hi hj
    rw [gd, gd]
    split
    · split
      · intro _; omega
      · intro e; exact absurd e.symm (hnew j hj)
    · split
      · intro e; exact absurd e (hnew i hi)
      · exact hV.nodup i j hi hj
  · intro i hi m hm
    rw [us'] at hi
    rw [gd, hl] at hm ⊢
    rw [us']
    split
    · rename_i e; subst e; rw [if_pos rfl] at hm; exact H.path m hm
    · rename_i e; rw [if_neg e] at hm; exact hV.path i hi m hm
  · intro i hi hi1
    rw [us', hl] at hi1
    rw [us'] at hi
    rw [gd, gd, hl]
    have hil := us_lt hi
    by_cases e1 : i = a
    · subst e1
      rw [if_pos rfl, if_neg (next_ne hal h2)]
      have := H.robin.sorted i hi hi1
      rw [← hoe] at this
      unfold Bef at this ⊢
      unfold Over at ho
      omega
    · rw [if_neg e1]
      by_cases e2 : cy t.length (i + 1) = a
      · rw [if_pos e2]
        have ep : cy t.length (a + t.length - 1) = i := by rw [← e2]; exact prev_next hil h2
        have := H.ahead
        rw [ep] at this
        exact this hi
      · rw [if_neg e2]
        exact H.robin.sorted i hi hi1
  · intro i hi
    rw [us'] at hi
    rw [gd]
    split
    · intro e
      exact hnew a hu (by rw [← hoe, e])
    · rename_i e
      intro e'
      exact e (hV.nodup i a hi hu (by rw [e', hoe]))
  · intro m hm
    rw [hl] at hm ⊢
    rw [us']
    rw [hcn] at hm
    rcases Nat.lt_or_ge m (cost t.length a o) with h1 | h1
    · exact hpo m h1
    · have : m = cost t.length a o := by omega
      rw [this, own_cost hal]; exact hu
  · rw [hl, prev_next hal h2]
    intro _
    rw [gd, if_pos rfl]
    unfold Bef
    rw [hcn]
    unfold Over at ho
    omega
theorem Hand.put {t : List Int} {h : Int} {a : Nat} (H : Hand t h a) (hu : us t a = false) (hm : many t + 1 < t.length) : Robin (t.set a h) := by
  have hal := H.at_
  have h2 := H.two
  have hV := H.robin.valid
  have us' : ∀ i, us (t.set a h) i = (decide (i = a) || us t i) := fun i => us_set _ _ _ _ hal H.pos
  have gd : ∀ i, (t.set a h).getD i (-1) = if i = a then h else t.getD i (-1) := fun i => getD_set _ _ _ _ _ hal
  have hl : (t.set a h).length = t.length := by simp
  have ua : ∀ i, us t i = true → i ≠ a := fun i hi e => by rw [e, hu] at hi; cases hi
  refine ⟨⟨?_, ?_, ?_, ?_⟩, ?_⟩
  · exact free_of_many _ (by rw [many_set t a h hu hal H.pos, hl]; exact hm)
  · intro i hi
    rw [gd]
    split
    · have := H.pos; omega
    · exact hV.ge i (by rw [hl] at hi; exact hi)
  · intro i j hi hj
    rw [us'] at hi hj
    rw [gd, gd]
    by_cases e1 : i = a
    · by_cases e2 : j = a
      · intro _; omega
      · rw [if_pos e1, if_neg e2]
        simp [e2] at hj
        intro e; exact absurd e.symm (H.new j hj)
    · simp [e1] at hi
      by_cases e2 : j = a
      · rw [if_neg e1, if_pos e2]
        intro e; exact absurd e (H.new i hi)
      · simp [e2] at hj
        rw [if_neg e1, if_neg e2]
        exact hV.nodup i j hi hj
  · intro i hi m hm'
    rw [us'] at hi
    rw [gd, hl] at hm' ⊢
    rw [us']
    by_cases e1 : i = a
    · rw [if_pos e1] at hm' ⊢
      subst e1
      rw [H.path m hm']; simp
    · simp [e1] at hi
      rw [if_neg e1] at hm' ⊢
      rw [hV.path i hi m hm']; simp
  · intro i hi hi1
    rw [hl] at hi1 ⊢
    rw [us'] at hi hi1
    rw [gd, gd]
    by_cases e1 : i = a
    · subst e1
      have hne := next_ne hal h2
      rw [if_pos rfl, if_neg hne]
      simp [hne] at hi1
      -- the key behind has its own cell there
      have hil := us_lt hi1
      have hp := hV.path _ hi1
      have hc0 : cost t.length (cy t.length (i + 1)) (t.getD (cy t.length (i + 1)) (-1)) = 0 := by
        have hoc := own_cost hil (t.getD (cy t.length (i + 1)) (-1))
        have hlt := cost_lt hil (t.getD (cy t.length (i + 1)) (-1))
        have ho := own_lt (n := t.length) (by omega) (t.getD (cy t.length (i + 1)) (-1))
        generalize cost t.length (cy t.length (i + 1)) (t.getD (cy t.length (i + 1)) (-1)) = c at *
        generalize own t.length (t.getD (cy t.length (i + 1)) (-1)) = o at *
        rcases Nat.eq_zero_or_pos c with h0 | h0
        · exact h0
        · have := hp (c - 1) (by omega)
          have e : cy t.length (o + (c - 1)) = i := by revert hoc; unfold cy; split <;> split <;> split <;> omega
          rw [e, hu] at this; cases this
      unfold Bef
      rw [hc0]
      omega
    · simp [e1] at hi
      rw [if_neg e1]
      by_cases e2 : cy t.length (i + 1) = a
      · rw [if_pos e2]
        have ep : cy t.length (a + t.length - 1) = i := by rw [← e2]; exact prev_next (us_lt hi) h2
        have := H.ahead
        rw [ep] at this
        exact this hi
      · simp [e2] at hi1
        rw [if_neg e2]
        exact H.robin.sorted i hi hi1
theorem keys_swap : ∀ (t : List Int) (p : Nat) (k : Int), us t p = true → 0 ≤ k → (t.getD p (-1) :: keys (t.set p k)).Perm (k :: keys t)
  | [], p, k, h, _ => by have := us_lt h; simp at this
  | x :: t, 0, k, hu, hk => by
    have : 0 ≤ x := by rw [us] at hu; exact of_decide_eq_true hu
    simp only [keys, List.set_cons_zero, List.filter_cons, this, hk, decide_true, if_true, List.getD_cons_zero]
    exact List.Perm.swap _ _ _
  | x :: t, p + 1, k, hu, hk => by
    have ih := keys_swap t p k (by simpa [us] using hu) hk
    simp only [keys, List.set_cons_succ, List.filter_cons, List.getD_cons_succ] at ih ⊢
    split
    · exact (List.Perm.swap _ _ _).trans ((ih.cons x).trans (List.Perm.swap _ _ _))
    · exact ih
theorem hand_go : ∀ (d : Nat) (t : List Int) (h : Int) (a : Nat), Hand t h a → many t + 1 < t.length → d < t.length → (∀ m, m < d → us t (cy t.length (a + m)) = true) → us t (cy t.length (a + d)) = false →
    Robin (robGo d t h a) ∧ (keys (robGo d t h a)).Perm (h :: keys t) ∧ (robGo d t h a).length = t.length
  | 0, t, h, a, H, hm, hd, _, hf => by
    have e : cy t.length (a + 0) = a := by have := H.at_; unfold cy; split <;> omega
    rw [e] at hf
    exact ⟨H.put hf hm, keys_set t a h H.at_ hf H.pos, by simp [robGo]⟩
  | d + 1, t, h, a, H, hm, hd, hu, hf => by
    have hua : us t a = true := by
      have := hu 0 (by omega)
      have e : cy t.length (a + 0) = a := by have := H.at_; unfold cy; split <;> omega
      rwa [e] at this
    have sh : ∀ m, m + 1 ≤ d + 1 → cy t.length (cy t.length (a + 1) + m) = cy t.length (a + (m + 1)) := by
      intro m hmd
      have := H.at_
      unfold cy; split <;> split <;> split <;> omega
    unfold robGo
    by_cases ho : Over t.length a h (t.getD a (-1))
    · rw [if_pos ho]
      have H' := H.swap hua ho
      have us' : ∀ i, us (t.set a h) i = us t i := us_same hua H.pos
      have al : Alike (t.set a h) t := ⟨by simp, us'⟩
      have := hand_go d (t.set a h) (t.getD a (-1)) (cy t.length (a + 1)) H' (by rw [many_alike al, List.length_set]; exact hm) (by rw [List.length_set]; omega)
        (fun m hmd => by rw [List.length_set, us', sh m (by omega)]; exact hu (m + 1) (by omega)) (by rw [List.length_set, us', sh d (by omega)]; exact hf)
      exact ⟨this.1, this.2.1.trans (keys_swap t a h hua H.pos), by rw [this.2.2]; simp⟩
    · rw [if_neg ho]
      have := hand_go d t h (cy t.length (a + 1)) (H.pass hua ho) hm (by omega) (fun m hmd => by rw [sh m (by omega)]; exact hu (m + 1) (by omega)) (by rw [sh d (by omega)]; exact hf)
      exact this
theorem Robin.hand {t : List Int} (hR : Robin t) (h2 : 2 ≤ t.length) {k : Int} (hk : 0 ≤ k) (hn : k ∉ keys t) : Hand t k (own t.length k) := by
  have ho := own_lt (n := t.length) (by omega) k
  have hc : cost t.length (own t.length k) k = 0 := by unfold cost cy; split <;> omega
  refine ⟨hR, h2, ho, hk, ?_, ?_, ?_⟩
  · intro i hi e
    exact hn (mem_keys.2 ⟨i, hi, e⟩)
  · intro m hm; rw [hc] at hm; omega
  · intro _
    unfold Bef
    rw [next_prev ho h2, hc]
    omega
theorem rob_spec {t : List Int} (hR : Robin t) (h2 : 2 ≤ t.length) {k : Int} (hk : 0 ≤ k) (hn : k ∉ keys t) (hm : many t + 1 < t.length) : Robin (rob t k) ∧ (keys (rob t k)).Perm (k :: keys t) ∧ (rob t k).length = t.length := by
  have hF := hR.valid.free
  have s := ff_spec hF (own_lt (n := t.length) (by omega) k)
  exact hand_go _ t k _ (hR.hand h2 hk hn) hm s.1 s.2.2 s.2.1
theorem Valid.empty {n : Nat} (h : 0 < n) : Valid (empty n) :=
  ⟨⟨0, by simp [TabT.empty, h], us_empty n 0⟩, ge_empty n, fun i j hi => (by rw [us_empty] at hi; cases hi), fun i hi => (by rw [us_empty] at hi; cases hi)⟩
theorem Robin.empty {n : Nat} (h : 0 < n) : Robin (empty n) := ⟨Valid.empty h, fun i hi => (by rw [us_empty] at hi; cases hi)⟩
/-- How far behind the cell g a key's own cell lies. -/
def off (n g : Nat) (k : Int) : Nat := cy n (own n k + n - g)
theorem off_spec {t : List Int} (hV : Valid t) {g : Nat} (hg : g < t.length) (hgu : us t g = false) {e : Nat} (he : e < t.length) (hu : us t (cy t.length (g + e)) = true) :
    1 ≤ off t.length g (t.getD (cy t.length (g + e)) (-1)) ∧ off t.length g (t.getD (cy t.length (g + e)) (-1)) + cost t.length (cy t.length (g + e)) (t.getD (cy t.length (g + e)) (-1)) = e ∧
      ∀ m, off t.length g (t.getD (cy t.length (g + e)) (-1)) ≤ m → m ≤ e → us t (cy t.length (g + m)) = true := by
  have hil := us_lt hu
  have hp := hV.path _ hu
  have ho := own_lt (n := t.length) (by omega) (t.getD (cy t.length (g + e)) (-1))
  have hoc := own_cost hil (t.getD (cy t.length (g + e)) (-1))
  have hcl := cost_lt hil (t.getD (cy t.length (g + e)) (-1))
  unfold off
  generalize cost t.length (cy t.length (g + e)) (t.getD (cy t.length (g + e)) (-1)) = c at *
  generalize own t.length (t.getD (cy t.length (g + e)) (-1)) = o at *
  have he1 : e ≠ 0 := by
    intro h0
    have : cy t.length (g + e) = g := by rw [h0]; unfold cy; split <;> omega
    rw [this, hgu] at hu; cases hu
  have hce : c < e := by
    rcases Nat.lt_or_ge c e with h | h
    · exact h
    · have := hp (c - e) (by omega)
      have e1 : cy t.length (o + (c - e)) = g := by revert hoc; unfold cy; split <;> split <;> split <;> omega
      rw [e1, hgu] at this; cases this
  have hof : cy t.length (o + t.length - g) = e - c := by revert hoc; unfold cy; split <;> split <;> split <;> omega
  rw [hof]
  refine ⟨by omega, by omega, fun m h1 h2 => ?_⟩
  rcases Nat.lt_or_ge m e with h3 | h3
  · have := hp (m - (e - c)) (by omega)
    have e2 : cy t.length (o + (m - (e - c))) = cy t.length (g + m) := by revert hoc; unfold cy; split <;> split <;> split <;> split <;> omega
    rwa [e2] at this
  · have : m = e := by omega
    rw [this]; exact hu
/-- Along used cells, keys come in one order. -/
def Lt (n g : Nat) (x y : Int) : Prop := off n g x < off n g y ∨ off n g x = off n g y ∧ y < x
theorem Lt.trans {n g : Nat} {x y z : Int} (h : Lt n g x y) (k : Lt n g y z) : Lt n g x z := by unfold Lt at *; omega
theorem Robin.next {t : List Int} (hR : Robin t) {g : Nat} (hg : g < t.length) (hgu : us t g = false) {e : Nat} (he : e + 1 < t.length) (h1 : us t (cy t.length (g + e)) = true) (h2 : us t (cy t.length (g + (e + 1))) = true) :
    Lt t.length g (t.getD (cy t.length (g + e)) (-1)) (t.getD (cy t.length (g + (e + 1))) (-1)) := by
  have s1 := off_spec hR.valid hg hgu (by omega) h1
  have s2 := off_spec hR.valid hg hgu he h2
  have en : cy t.length (cy t.length (g + e) + 1) = cy t.length (g + (e + 1)) := by unfold cy; split <;> split <;> split <;> omega
  have := hR.sorted _ h1
  rw [en] at this
  have := this h2
  unfold Bef at this
  rw [en] at this
  unfold Lt
  omega
end TabT
namespace Go.Proofs.Ytfblohigbdomjaa.G
open Go.RowKit Go.Proofs.YtfblohigbdomjaaW.PrintWords Go.Proofs.YtfblohigbdomjaaW.PrintLast Go.Proofs.YtfblohigbdomjaaW.PrintMore
set_option linter.unusedVariables false
set_option linter.unusedSimpArgs false
set_option linter.unusedSectionVars false
theorem t_g0 {t : List Int} {i : Nat} (h : i < t.length) : t.getD i (-1) = t.getD i 0 := by
  rw [List.getD_eq_getElem?_getD, List.getD_eq_getElem?_getD, List.getElem?_eq_getElem h]; rfl
theorem cy_self {n a : Nat} (h : a < n) : TabT.cy n (a + 0) = a := by unfold TabT.cy; split <;> omega
theorem cy_shift {n a d m : Nat} (ha : a < n) (hd : d + 1 < n) (hm : m ≤ d) : TabT.cy n (TabT.cy n (a + 1) + m) = TabT.cy n (a + (m + 1)) := by
  unfold TabT.cy; split <;> split <;> split <;> omega
theorem step_arith {n a : Nat} (ha : a < n) (hn : n ≤ 1000) : Int.tmod (wrap64 ((a : Int) + 1)) (n : Int) = ((TabT.cy n (a + 1) : Nat) : Int) := by
  rw [wrap_next (n := n) ha (by omega), ← TabT.cy_mod (by omega)]
  rfl
theorem own_arith (key n : Nat) : Int.tmod (key : Int) (n : Int) = ((TabT.own n (key : Int) : Nat) : Int) := by
  unfold TabT.own
  show ((key % n : Nat) : Int) = (((key : Int) % (n : Int)).toNat : Int)
  rw [show ((key : Int) % (n : Int)) = ((key % n : Nat) : Int) from rfl, Int.toNat_natCast]
theorem us_val {t : List Int} {i : Nat} (h : TabT.us t i = true) : 0 ≤ t.getD i 0 := by
  have hi := TabT.us_lt h
  rw [TabT.us, decide_eq_true_eq, t_g0 hi] at h
  exact h
theorem us_free {t : List Int} {i : Nat} (hi : i < t.length) (h : TabT.us t i = false) : t.getD i 0 < 0 := by
  rw [TabT.us, decide_eq_false_iff_not, t_g0 hi] at h
  omega
/-- What the cells of a table may hold. -/
def Cells (t : List Int) : Prop := ∀ i, i < t.length → -1 ≤ t.getD i 0 ∧ t.getD i 0 ≤ 999
theorem Cells.set {t : List Int} (h : Cells t) {p : Nat} {k : Int} (hp : p < t.length) (h0 : 0 ≤ k) (h9 : k ≤ 999) : Cells (t.set p k) := by
  intro i hi
  rw [List.length_set] at hi
  rw [TabT.getD_set _ _ _ _ _ hp]
  split
  · omega
  · exact h i hi
theorem Cells.empty (n : Nat) : Cells (TabT.empty n) := by
  intro i hi
  have hi2 : i < n := by simpa [TabT.empty] using hi
  unfold TabT.empty
  rw [List.getD_eq_getElem?_getD, List.getElem?_replicate, if_pos hi2]
  simp
theorem Cells.ins {t : List Int} (h : Cells t) (hF : TabT.Free t) {k : Int} (h0 : 0 ≤ k) (h9 : k ≤ 999) : Cells (TabT.ins t k) := h.set (TabT.pos_lt hF k) h0 h9
theorem t_prEmpty_ev (n : Nat) (hn : n ≤ 1000) : Ev (fun k => spec_prEmpty.f k (n : Int)) (TabT.empty n) := by
  unfold spec_prEmpty.f TabT.empty
  refine Ev.up0 n (fun q => List.replicate q (-1 : Int)) (fun k s q => spec_prEmpty.l0 k (n : Int) q s) (List.replicate n (-1)) (fun q hq h => Ev.one h fun k => ?_) (Ev.end_ fun k => ?_)
  · rw [spec_prEmpty.l0, if_pos (by omega), if_pos (by simp; omega), wrap_next (n := n) hq (by omega), List.replicate_succ']
  · rw [spec_prEmpty.l0, if_neg (by omega)]
theorem t_empty_eq (n : Nat) (hn : n ≤ 1000) : impl_empty.f (n : Int) = some (TabT.empty n) := by
  unfold impl_empty.f slices_Repeat_int_int.f TabT.empty
  rw [if_pos ⟨rfl, by omega, by omega⟩]
  rfl
/-- What holds when q of the keys are in. -/
structure Filled (n : Nat) (t : List Int) (q : Nat) : Prop where
  len_ : t.length = n
  cells : Cells t
  many_ : TabT.many t = q
theorem Filled.free {n q : Nat} {t : List Int} (h : Filled n t q) (hq : q < n) : TabT.Free t := TabT.free_of_many t (by rw [h.many_, h.len_]; exact hq)
theorem costN_cost {n key a : Nat} (ha : a < n) : costN n key a = TabT.cost n a (key : Int) := by
  have hm := Nat.mod_lt key (show 0 < n by omega)
  have ho : TabT.own n (key : Int) = key % n := by
    unfold TabT.own
    rw [show ((key : Int) % (n : Int)) = ((key % n : Nat) : Int) from rfl, Int.toNat_natCast]
  unfold costN TabT.cost
  rw [ho, TabT.cy_mod (by omega)]
theorem robGo_cells : ∀ (d : Nat) (t : List Int) (h : Int) (a : Nat), Cells t → a < t.length → 0 ≤ h → h ≤ 999 → d < t.length → (∀ m, m < d → TabT.us t (TabT.cy t.length (a + m)) = true) → Cells (TabT.robGo d t h a)
  | 0, t, h, a, hc, ha, h0, h9, _, _ => hc.set ha h0 h9
  | d + 1, t, h, a, hc, ha, h0, h9, hd, hu => by
    have hua := hu 0 (by omega)
    rw [cy_self ha] at hua
    have ho := us_val hua
    have ho9 := hc a ha
    have hlt := TabT.cy_lt (n := t.length) (i := a + 1) (by omega)
    rw [TabT.robGo]
    split
    · refine robGo_cells d _ _ _ (hc.set ha h0 h9) (by rw [List.length_set]; exact hlt) (by rw [t_g0 ha]; exact ho) (by rw [t_g0 ha]; exact ho9.2) (by rw [List.length_set]; omega) (fun m hm => ?_)
      rw [List.length_set, TabT.us_same hua h0, cy_shift ha hd (by omega)]
      exact hu (m + 1) (by omega)
    · refine robGo_cells d _ _ _ hc hlt h0 h9 (by omega) (fun m hm => ?_)
      rw [cy_shift ha hd (by omega)]
      exact hu (m + 1) (by omega)
end Go.Proofs.Ytfblohigbdomjaa.G
namespace Go.Proofs.Ytfblohigbdomjaa.G
open Go.RowKit Go.Proofs.YtfblohigbdomjaaW.PrintWords Go.Proofs.YtfblohigbdomjaaW.PrintLast Go.Proofs.YtfblohigbdomjaaW.PrintMore
set_option linter.unusedVariables false
set_option linter.unusedSimpArgs false
set_option linter.unusedSectionVars false
section
variable (n : Nat) (h2 : 2 ≤ n) (h12 : n ≤ 12) (ks : List Int) (q : Nat)
include h2 h12
theorem sp_rob (r : List Int) : ∀ (d : Nat) (t : List Int) (h : Int) (a : Nat), t.length = n → Cells t → 0 ≤ h → h ≤ 999 → a < n → d < n → (∀ m, m < d → TabT.us t (TabT.cy n (a + m)) = true) → TabT.us t (TabT.cy n (a + d)) = false →
    Ev (fun k => spec_prRobin.l0 k (n : Int) ks (ks.length : Int) (wrap64 ((q : Int) + 1)) (TabT.robGo d t h a)) r → Ev (fun k => spec_prRobin.l1 k (n : Int) h (a : Int) ks (ks.length : Int) (q : Int) t) r := by
  intro d
  induction d with
  | zero =>
    intro t h a hl hc h0 h9 ha hd _ hf hr
    rw [cy_self ha] at hf
    have e1 := us_free (by omega) hf
    have e2 := hc a (by omega)
    refine Ev.one hr fun k => ?_
    rw [spec_prRobin.l1, if_pos (by omega), if_pos (by omega), rd_nat, if_pos (by omega), Int.toNat_natCast]
    rfl
  | succ d ih =>
    intro t h a hl hc h0 h9 ha hd hu hf hr
    have hua := hu 0 (by omega)
    rw [cy_self ha] at hua
    have ho := us_val hua
    have ho9 := hc a (by omega)
    have hlt := TabT.cy_lt (n := n) (i := a + 1) (by omega)
    obtain ⟨kh, rfl⟩ : ∃ m : Nat, h = m := ⟨h.toNat, by omega⟩
    obtain ⟨ko, hko⟩ : ∃ m : Nat, t.getD a 0 = m := ⟨(t.getD a 0).toNat, by omega⟩
    rw [TabT.robGo, hl, t_g0 (by omega : a < t.length), hko] at hr
    have c1 := prCost_eq (n := n) (key := kh) (at_ := a) (by omega) (by omega) (by omega) ha
    have c2 := prCost_eq (n := n) (key := ko) (at_ := a) (by omega) (by omega) (by omega) ha
    rw [costN_cost ha] at c1 c2
    by_cases hov : TabT.Over n a (kh : Int) (ko : Int)
    · rw [if_pos hov] at hr
      have := ih (t.set a (kh : Int)) (ko : Int) (TabT.cy n (a + 1)) (by rw [List.length_set]; exact hl) (hc.set (by omega) h0 h9) (by omega) (by omega) hlt (by omega)
        (fun m hm => by rw [TabT.us_same hua h0, cy_shift ha hd (by omega)]; exact hu (m + 1) (by omega)) (by rw [TabT.us_same hua h0, cy_shift ha hd (Nat.le_refl _)]; exact hf) hr
      refine Ev.one this fun k => ?_
      rw [spec_prRobin.l1, if_pos (by omega), if_pos (by omega), rd_nat, if_neg (by omega), hko, c1, Option.bind_some, c2, Option.bind_some, Int.toNat_natCast, step_arith ha (by omega)]
      unfold TabT.Over at hov
      rcases hov with hov | ⟨hov, hov2⟩
      · rw [if_pos (by omega), if_neg (by omega)]
      · rw [if_neg (by omega), if_pos (by omega), if_pos (by omega), if_neg (by omega)]
    · rw [if_neg hov] at hr
      have := ih t (kh : Int) (TabT.cy n (a + 1)) hl hc h0 h9 hlt (by omega)
        (fun m hm => by rw [cy_shift ha hd (by omega)]; exact hu (m + 1) (by omega)) (by rw [cy_shift ha hd (Nat.le_refl _)]; exact hf) hr
      refine Ev.one this fun k => ?_
      rw [spec_prRobin.l1, if_pos (by omega), if_pos (by omega), rd_nat, if_neg (by omega), hko, c1, Option.bind_some, c2, Option.bind_some, Int.toNat_natCast, step_arith ha (by omega)]
      unfold TabT.Over at hov
      rw [if_neg (by omega)]
      by_cases e : ((TabT.cost n a (kh : Int) : Nat) : Int) = ((TabT.cost n a (ko : Int) : Nat) : Int)
      · rw [if_pos e, if_neg (by omega), if_neg (by omega)]
      · rw [if_neg e, if_neg (by omega)]
theorem im_rob (r : List Int) : ∀ (d : Nat) (t : List Int) (h : Int) (a : Nat), TabT.Hand t h a → t.length = n → Cells t → h ≤ 999 → d < n → (∀ m, m < d → TabT.us t (TabT.cy n (a + m)) = true) → TabT.us t (TabT.cy n (a + d)) = false →
    Ev (fun k => impl_robin.l0 k (n : Int) ks (ks.length : Int) (wrap64 ((q : Int) + 1)) (TabT.robGo d t h a)) r → Ev (fun k => impl_robin.l1 k (n : Int) h ((TabT.cost n a h : Nat) : Int) (a : Int) ks (ks.length : Int) (q : Int) t) r := by
  intro d
  induction d with
  | zero =>
    intro t h a H hl hc h9 hd _ hf hr
    have ha : a < n := by have := H.at_; omega
    rw [cy_self ha] at hf
    have e1 := us_free (by omega) hf
    have e2 := hc a (by omega)
    refine Ev.one hr fun k => ?_
    rw [impl_robin.l1, if_pos (by omega), if_pos (by omega), rd_nat, if_neg (by omega), Int.toNat_natCast]
    rfl
  | succ d ih =>
    intro t h a H hl hc h9 hd hu hf hr
    have ha : a < n := by have := H.at_; omega
    have h0 := H.pos
    have hua := hu 0 (by omega)
    rw [cy_self ha] at hua
    have ho := us_val hua
    have ho9 := hc a (by omega)
    have hlt := TabT.cy_lt (n := n) (i := a + 1) (by omega)
    obtain ⟨kh, rfl⟩ : ∃ m : Nat, h = m := ⟨h.toNat, by omega⟩
    obtain ⟨ko, hko⟩ : ∃ m : Nat, t.getD a 0 = m := ⟨(t.getD a 0).toNat, by omega⟩
    have hko1 : t.getD a (-1) = (ko : Int) := by rw [t_g0 (by omega : a < t.length), hko]
    have s1 := TabT.cost_small H.robin.valid.free hua H.path
    have s2 := TabT.cost_small H.robin.valid.free hua (H.robin.valid.path a hua)
    rw [hl] at s1 s2
    rw [hko1] at s2
    have n1 := TabT.cost_next ha h2 (kh : Int) s1
    have n2 := TabT.cost_next ha h2 (ko : Int) s2
    have c2 := tcost_eq (l := t) (key := ko) (at_ := a) (by omega) (by omega) (by omega) hko
    rw [costN_cost (by omega), hl] at c2
    rw [TabT.robGo, hl, hko1] at hr
    by_cases hov : TabT.Over n a (kh : Int) (ko : Int)
    · rw [if_pos hov] at hr
      have H' := H.swap hua (by rw [hl, hko1]; exact hov)
      rw [hl, hko1] at H'
      have := ih (t.set a (kh : Int)) (ko : Int) (TabT.cy n (a + 1)) H' (by rw [List.length_set]; exact hl) (hc.set (by omega) h0 h9) (by omega) (by omega)
        (fun m hm => by rw [TabT.us_same hua h0, cy_shift ha hd (by omega)]; exact hu (m + 1) (by omega)) (by rw [TabT.us_same hua h0, cy_shift ha hd (Nat.le_refl _)]; exact hf) hr
      rw [n2] at this
      refine Ev.one this fun k => ?_
      rw [impl_robin.l1, if_pos (by omega), if_pos (by omega), rd_nat, if_pos (by omega), hko, c2, Option.bind_some, Int.toNat_natCast, step_arith ha (by omega), wrap_next (n := 1000) (by omega) (by omega), wrap_next (n := 1000) (by omega) (by omega)]
      unfold TabT.Over at hov
      rcases hov with hov | ⟨hov, hov2⟩
      · rw [if_pos (by omega), if_neg (by omega)]
      · rw [if_neg (by omega), if_pos (by omega), if_pos (by omega), if_neg (by omega)]
    · rw [if_neg hov] at hr
      have H' := H.pass hua (by rw [hl, hko1]; exact hov)
      rw [hl] at H'
      have := ih t (kh : Int) (TabT.cy n (a + 1)) H' hl hc h9 (by omega)
        (fun m hm => by rw [cy_shift ha hd (by omega)]; exact hu (m + 1) (by omega)) (by rw [cy_shift ha hd (Nat.le_refl _)]; exact hf) hr
      rw [n1] at this
      refine Ev.one this fun k => ?_
      rw [impl_robin.l1, if_pos (by omega), if_pos (by omega), rd_nat, if_pos (by omega), hko, c2, Option.bind_some, Int.toNat_natCast, step_arith ha (by omega), wrap_next (n := 1000) (by omega) (by omega), wrap_next (n := 1000) (by omega) (by omega)]
      unfold TabT.Over at hov
      rw [if_neg (by omega)]
      by_cases e : ((TabT.cost n a (kh : Int) : Nat) : Int) = ((TabT.cost n a (ko : Int) : Nat) : Int)
      · rw [if_pos e, if_neg (by omega), if_neg (by omega)]
      · rw [if_neg e, if_neg (by omega)]
end
end Go.Proofs.Ytfblohigbdomjaa.G
namespace Go.Proofs.Ytfblohigbdomjaa.G
open Go.RowKit Go.Proofs.YtfblohigbdomjaaW.PrintWords Go.Proofs.YtfblohigbdomjaaW.PrintLast Go.Proofs.YtfblohigbdomjaaW.PrintMore
set_option linter.unusedVariables false
set_option linter.unusedSimpArgs false
set_option linter.unusedSectionVars false
def robAll (t : List Int) (ks : List Int) : List Int := ks.foldl TabT.rob t
theorem robAll_snoc (t : List Int) (ks : List Int) (k : Int) : robAll t (ks ++ [k]) = TabT.rob (robAll t ks) k := by
  simp [robAll, List.foldl_append]
structure RFilled (n : Nat) (t : List Int) (ks : List Int) : Prop where
  len_ : t.length = n
  cells : Cells t
  robin : TabT.Robin t
  keys_ : (TabT.keys t).Perm ks
theorem RFilled.many_ {n : Nat} {t ks : List Int} (h : RFilled n t ks) : TabT.many t = ks.length := by
  rw [TabT.many_keys]; exact h.keys_.length_eq
theorem RFilled.hand {n : Nat} {t ks : List Int} (h : RFilled n t ks) (h2 : 2 ≤ n) {k : Int} (h0 : 0 ≤ k) (hn : k ∉ ks) : TabT.Hand t k (TabT.own n k) := by
  have := h.robin.hand (by rw [h.len_]; exact h2) h0 (fun e => hn (h.keys_.mem_iff.mp e))
  rwa [h.len_] at this
theorem rfilled {n : Nat} (h2 : 2 ≤ n) (ks : List Int) (hl : ks.length < n) (hk : ∀ x ∈ ks, 0 ≤ x ∧ x ≤ 999) (hnd : ks.Nodup) : ∀ q, q ≤ ks.length → RFilled n (robAll (TabT.empty n) (ks.take q)) (ks.take q) := by
  intro q
  induction q with
  | zero =>
    intro _
    refine ⟨by simp [robAll, TabT.empty], Cells.empty n, TabT.Robin.empty (by omega), ?_⟩
    show (TabT.keys (TabT.empty n)).Perm []
    rw [TabT.keys_empty]
  | succ q ih =>
    intro hq
    have F := ih (by omega)
    have hm := hk (ks.getD q 0) (by rw [List.getD_eq_getElem?_getD, List.getElem?_eq_getElem (by omega : q < ks.length)]; exact List.getElem_mem _)
    have hnew : ks.getD q 0 ∉ ks.take q := by
      intro hmem
      obtain ⟨i, hi, e⟩ := List.mem_take_iff_getElem.mp hmem
      unfold List.Nodup at hnd
      rw [List.pairwise_iff_getElem] at hnd
      rw [List.getD_eq_getElem?_getD, List.getElem?_eq_getElem (by omega : q < ks.length)] at e
      exact hnd i q (by omega) (by omega) (by omega) e
    have hmany : TabT.many (robAll (TabT.empty n) (ks.take q)) = q := by rw [F.many_, List.length_take]; omega
    have hF := F.robin.valid.free
    have s := TabT.ff_spec hF (TabT.own_lt (n := (robAll (TabT.empty n) (ks.take q)).length) (by rw [F.len_]; omega) (ks.getD q 0))
    have R := TabT.rob_spec F.robin (by rw [F.len_]; exact h2) hm.1 (fun e => hnew (F.keys_.mem_iff.mp e)) (by rw [hmany, F.len_]; omega)
    rw [take_succ_getD (by omega), robAll_snoc]
    refine ⟨by rw [R.2.2, F.len_], ?_, R.1, ?_⟩
    · exact robGo_cells _ _ _ _ F.cells (TabT.own_lt (by rw [F.len_]; omega) _) hm.1 hm.2 s.1 s.2.2
    · exact R.2.1.trans ((F.keys_.cons _).trans (List.perm_append_comm (l₁ := [ks.getD q 0])))
end Go.Proofs.Ytfblohigbdomjaa.G
namespace Go.Proofs.Ytfblohigbdomjaa.G
open Go.RowKit Go.Proofs.YtfblohigbdomjaaW.PrintWords Go.Proofs.YtfblohigbdomjaaW.PrintLast Go.Proofs.YtfblohigbdomjaaW.PrintMore
set_option linter.unusedVariables false
set_option linter.unusedSimpArgs false
set_option linter.unusedSectionVars false
section
variable (n : Nat) (ks : List Int) (h2 : 2 ≤ n) (h12 : n ≤ 12) (hl : ks.length < n) (hk : ∀ x ∈ ks, 0 ≤ x ∧ x ≤ 999) (hnd : ks.Nodup)
include h2 h12 hl hk hnd
theorem prRobin_ev : Ev (fun k => spec_prRobin.f k (n : Int) ks) (robAll (TabT.empty n) ks) := by
  unfold spec_prRobin.f
  refine Ev.bind (t_prEmpty_ev n (by omega)) ?_
  have := Ev.up0 ks.length (fun q => robAll (TabT.empty n) (ks.take q)) (fun k s q => spec_prRobin.l0 k (n : Int) ks (ks.length : Int) q s) (robAll (TabT.empty n) ks) (fun q hq h => ?_) (Ev.end_ fun k => ?_)
  · simpa [robAll] using this
  · have F := rfilled h2 ks hl hk hnd q (by omega)
    have hm := hk (ks.getD q 0) (by rw [List.getD_eq_getElem?_getD, List.getElem?_eq_getElem hq]; exact List.getElem_mem hq)
    have hF := F.robin.valid.free
    have ho := TabT.own_lt (n := n) (by omega) (ks.getD q 0)
    have s := TabT.ff_spec hF (by rw [F.len_]; exact ho)
    rw [F.len_] at s
    rw [take_succ_getD hq, robAll_snoc, TabT.rob, F.len_] at h
    have := sp_rob n h2 h12 ks q (robAll (TabT.empty n) ks) _ _ (ks.getD q 0) (TabT.own n (ks.getD q 0)) F.len_ F.cells hm.1 hm.2 ho s.1 s.2.2 s.2.1 (by rw [wrap_next (n := ks.length) hq (by omega)]; exact h)
    refine Ev.one this fun k => ?_
    obtain ⟨m, hmk⟩ : ∃ m : Nat, ks.getD q 0 = m := ⟨(ks.getD q 0).toNat, by omega⟩
    rw [spec_prRobin.l0, if_pos (by omega), if_pos (by omega), if_pos (by omega), if_neg (by omega), rd_nat, hmk, own_arith]
  · rw [spec_prRobin.l0, if_neg (by omega), List.take_length]
theorem robin_ev : Ev (fun k => impl_robin.f k (n : Int) ks) (robAll (TabT.empty n) ks) := by
  unfold impl_robin.f
  simp only [t_empty_eq n (by omega), Option.bind_some]
  have := Ev.up0 ks.length (fun q => robAll (TabT.empty n) (ks.take q)) (fun k s q => impl_robin.l0 k (n : Int) ks (ks.length : Int) q s) (robAll (TabT.empty n) ks) (fun q hq h => ?_) (Ev.end_ fun k => ?_)
  · simpa [robAll] using this
  · have F := rfilled h2 ks hl hk hnd q (by omega)
    have hm := hk (ks.getD q 0) (by rw [List.getD_eq_getElem?_getD, List.getElem?_eq_getElem hq]; exact List.getElem_mem hq)
    have hnew : ks.getD q 0 ∉ ks.take q := by
      intro hmem
      obtain ⟨i, hi, e⟩ := List.mem_take_iff_getElem.mp hmem
      have hnd2 := hnd
      unfold List.Nodup at hnd2
      rw [List.pairwise_iff_getElem] at hnd2
      rw [List.getD_eq_getElem?_getD, List.getElem?_eq_getElem hq] at e
      exact hnd2 i q (by omega) hq (by omega) e
    have hF := F.robin.valid.free
    have ho := TabT.own_lt (n := n) (by omega) (ks.getD q 0)
    have s := TabT.ff_spec hF (by rw [F.len_]; exact ho)
    rw [F.len_] at s
    have H := F.hand h2 hm.1 hnew
    have hcost : TabT.cost n (TabT.own n (ks.getD q 0)) (ks.getD q 0) = 0 := by unfold TabT.cost TabT.cy; split <;> omega
    rw [take_succ_getD hq, robAll_snoc, TabT.rob, F.len_] at h
    have := im_rob n h2 h12 ks q (robAll (TabT.empty n) ks) _ _ (ks.getD q 0) (TabT.own n (ks.getD q 0)) H F.len_ F.cells hm.2 s.1 s.2.2 s.2.1 (by rw [wrap_next (n := ks.length) hq (by omega)]; exact h)
    rw [hcost] at this
    refine Ev.one this fun k => ?_
    obtain ⟨m, hmk⟩ : ∃ m : Nat, ks.getD q 0 = m := ⟨(ks.getD q 0).toNat, by omega⟩
    rw [impl_robin.l0, if_pos (by omega), if_pos (by omega), if_pos (by omega), if_neg (by omega), rd_nat, hmk, own_arith]
    rfl
  · rw [impl_robin.l0, if_neg (by omega), List.take_length]
end
end Go.Proofs.Ytfblohigbdomjaa.G
namespace Go.Proofs.Ytfblohigbdomjaa.Pure
open Go.RowKit Go.Proofs.Ytfblohigbdomjaa.G Go.Proofs.YtfblohigbdomjaaW.PrintWords Go.Proofs.YtfblohigbdomjaaW.PrintLast
set_option linter.unusedVariables false
set_option linter.unusedSimpArgs false
def rtV (a : Int) (l : List Int) : List Int × Bool := if keysB l a = true then (robAll (TabT.empty a.toNat) l, true) else ([], false)
theorem rtV_len (a : Int) (l : List Int) : (rtV a l).1.length ≤ 12 := by
  unfold rtV
  split
  · rename_i h
    obtain ⟨h1, h2, h3, h4, h5⟩ := keysB_parts h
    have F := rfilled (n := a.toNat) (by omega) l (by omega) h4 h5 l.length (Nat.le_refl _)
    rw [List.take_length] at F
    rw [F.len_]; omega
  · simp
theorem spec_RobinTable_ev (a : Int) (l : List Int) (hn : l.length ≤ 1048576) : Ev (fun k => spec_RobinTable.f k a l) (rtV a l) := by
  unfold spec_RobinTable.f rtV
  refine Ev.bind (prKeys_ev l a hn) ?_
  cases h : keysB l a with
  | false => simp only [Bool.false_eq_true, if_false]; exact Ev.now _
  | true =>
    obtain ⟨h1, h2, h3, h4, h5⟩ := keysB_parts h
    obtain ⟨n, rfl⟩ : ∃ n : Nat, a = n := ⟨a.toNat, by omega⟩
    simp only [if_true, Int.toNat_natCast]
    refine Ev.bind (prRobin_ev n l (by omega) (by omega) (by omega) h4 h5) ?_
    exact Ev.now _
theorem impl_RobinTable_ev (a : Int) (l : List Int) (hn : l.length ≤ 1048576) : Ev (fun k => impl_RobinTable.f k a l) (rtV a l) := by
  unfold impl_RobinTable.f rtV
  simp only [areKeys_f l a hn, Option.bind_some]
  cases h : keysB l a with
  | false => simp only [Bool.false_eq_true, if_false]; exact Ev.now _
  | true =>
    obtain ⟨h1, h2, h3, h4, h5⟩ := keysB_parts h
    obtain ⟨n, rfl⟩ : ∃ n : Nat, a = n := ⟨a.toNat, by omega⟩
    simp only [if_true, Int.toNat_natCast]
    refine Ev.bind (robin_ev n l (by omega) (by omega) (by omega) h4 h5) ?_
    exact Ev.now _
theorem FnExactRobinTable : laws_FnExactRobinTable.Pure := by
  intro a0 l1 w0 hm hb hw
  refine Ev.rounds ?_
  unfold laws_FnExactRobinTable.f
  have hv := rtV_len a0 l1
  by_cases h : (l1.length : Int) > 1048576
  · simp only [h, if_true]; exact Ev.now _
  · simp only [h, if_false]
    have hn : l1.length ≤ 1048576 := by omega
    refine Ev.bind (toIntS_ev l1 (by omega)) ?_
    refine Ev.bind (spec_RobinTable_ev a0 l1 hn) ?_
    refine Ev.bind (toIntS_ev l1 (by omega)) ?_
    refine Ev.bind (impl_RobinTable_ev a0 l1 hn) ?_
    refine Ev.bind (eqTable_ev _ _ (by omega)) ?_
    simp only [decide_true, if_true, bne_self_eq_false]
    refine Ev.step (fun k => by rw [laws_FnExactRobinTable.j0, if_neg (by decide)]) ?_
    refine Ev.bind (toIntS_ev l1 (by omega)) ?_
    refine Ev.bind (eqIntS_ev l1 l1 (by omega)) ?_
    simp only [decide_true, if_true]
    refine Ev.bind (markIntS_ev _ 1 (by omega) (by omega)) ?_
    simp only [nneg, if_false]
    refine Ev.bind (eqTable_ev _ _ (by omega)) ?_
    simp only [decide_true, if_true, bne_self_eq_false]
    refine Ev.step (fun k => by rw [laws_FnExactRobinTable.j1, if_neg (by decide)]) ?_
    refine Ev.bind (markTable_ev _ 1 (by omega) (by omega)) ?_
    refine Ev.bind (heldTable_ev _ 1 (by omega) (by omega)) ?_
    simp only [nneg, if_false, if_true]
    refine Ev.bind (toIntS_ev l1 (by omega)) ?_
    refine Ev.bind (impl_RobinTable_ev a0 l1 hn) ?_
    refine Ev.bind (eqTable_ev _ _ (by omega)) ?_
    simp only [decide_true, if_true, bne_self_eq_false]
    refine Ev.step (fun k => by rw [laws_FnExactRobinTable.j2, if_neg (by decide)]) ?_
    refine Ev.bind (heldTable_ev _ 1 (by omega) (by omega)) ?_
    simp only [nneg, if_false, if_true]
    exact Ev.now _
end Go.Proofs.Ytfblohigbdomjaa.Pure
namespace Go.Proofs.YtfblohigbdomjaaW.PrintWords
open Go.ChangeShapes Go.WideShapes
theorem sized_ints {H : Type} {enc : TypeId × Value → H} {P : Program} {W : World} {base : Nat} {spare : Nat → Bool} {held : Bool} {t e : TypeId} {k : IntKind} {a : Option Addr} {len cap : Nat} {d : DataW H} {ps : List MemPlace} {ts : List TypeId} {ds : List (DataW H)} {j : Nat}
    (hsz : (DataW.weightsEach P ts ds).all (· ≤ reachBytes) = true) (ht : ts[j]? = some t) (hd : ds[j]? = some d) (hu : P.underlying t = some (.slice e)) (he : P.underlying e = some (.int k)) (hc : P.cellsOf e = 1) {B : Nat} (hB : P.bytesOf e = B)
    (h : DataW.Trod enc P W base spare held t (.slice a len cap) d ps) : len * B ≤ 140737488351232 := by
  obtain ⟨fuel, hf⟩ := h
  rcases open_ints hu he hc hf with ⟨hcs, _⟩ | ⟨x, l, c, zs, hcs, _, hl, _, hz, hx, _, _⟩
  · simp [Value.cells] at hcs
    obtain ⟨rfl, rfl, rfl⟩ := hcs
    simp
  · simp [Value.cells] at hcs
    obtain ⟨rfl, rfl, rfl⟩ := hcs
    obtain ⟨hx, _⟩ := Prod.mk.inj hx
    subst hx
    have z := sized_slice hsz ht hd hu
    rw [hB] at z
    have hl2 : len ≤ zs.length := by
      rw [hz]
      split
      · exact hl
      · exact Nat.le_refl _
    have h1 : (lits (H := H) k (zs.take len)).length + (lits (H := H) k (zs.drop len)).length = zs.length := by
      simp [lits]
      omega
    rw [h1] at z
    exact Nat.le_trans (Nat.mul_le_mul_right _ hl2) z
end Go.Proofs.YtfblohigbdomjaaW.PrintWords
namespace Go.Proofs.Ytfblohigbdomjaa.fnExactRobinTable
open Go.ChangeShapes Go.WideShapes Go.ChangeAt Go.RowKit
open Go.ChangeMaps (open_string shut_string)
set_option linter.unusedVariables false
theorem own : ownKnob Try.prog.godebug = none := by kernel_rfl
theorem laidOut : laidOutB Try.prog = true := by kernel_rfl
def IsRow (k : IntKind) (w : World) (a : Option Addr) (len cap : Nat) (zs : List Int) : Prop :=
  (a = none ∧ len = 0 ∧ cap = 0 ∧ zs = []) ∨
  ∃ x, a = some x ∧ len ≤ cap ∧ cap ≤ maxLen ∧ zs.length = cap ∧ (∀ i, i < zs.length → w.cell? (x.add i) = some (.int k (zs.getD i 0))) ∧ ∀ n ∈ zs, (Lit.int k n).wf = true
set_option maxRecDepth 100000 in
theorem lifted (os : Os) (started : os.Started) (H : Type) (enc : TypeId × Value → H) :
    ReturnsInHanded {} Try.checked os 4 .any (Rows.fnExactRobinTableSpec.pre6 enc Try.prog Try.f4 Rows.fnExactRobinTableRow.domain false) (Rows.fnExactRobinTableSpec.post enc Try.prog Try.f4 false true false false) := by
  refine returnsInHanded_of_change_sized (C := Try.checked) own started (by kernel_rfl) Try.func4
    (ChangeSpec.witness6 (enc := enc) (C := Try.checked) false ⟨#[], #[.int .i64 0, .slice none 0 0], []⟩ 8 (by kernel_rfl) (by kernel_rfl) (by kernel_rfl) (by kernel_rfl)) ?_
  intro W base args ds gs before hval0 hW hcnd hsz0 _
  have hsz : (DataW.weightsEach Try.prog (Try.f4.params.toList ++ Rows.fnExactRobinTableSpec.plain.varTypes Try.prog) (ds ++ gs)).all (· ≤ reachBytes) = true := hsz0
  have hval : ∀ (j : Nat) t v, Try.f4.params[j]? = some t → args[j]? = some v → Value.okWide Try.prog W .any base t v := hval0
  have hW' := hW
  obtain ⟨p, q, hA0, hV, rfl, hfz, hnd⟩ := hW
  have hA : DataW.TrodAll enc Try.prog W 0 (fun _ => true) true Try.f4.params.toList args.toList ds p := hA0
  rw [Try.params4] at hA hval hsz
  obtain ⟨v0, vs0, d0, ds0, p0, q0, hargs, rfl, rfl, h0, r0⟩ := trodAll_cons hA
  obtain ⟨v1, vs1, d1, ds1, p1, q1, rfl, rfl, rfl, h1, r1⟩ := trodAll_cons r0
  obtain ⟨rfl, rfl, rfl⟩ := trodAll_nil r1
  obtain rfl : args = #[v0, v1] := by cases args; simp_all
  obtain ⟨rfl, rfl⟩ := trodVars_none hV
  obtain ⟨a0, rfl, rfl, rfl, w0⟩ := open_int Try.underlying3 (hval 0 3 v0 rfl rfl) h0
  obtain ⟨a1, len1, cap1, rfl⟩ := okWide_slice Try.underlying22 (hval 1 22 v1 rfl rfl)
  have k1 := h1
  have lt1 : ∀ x ∈ p1, x.block < W.heap.size := by obtain ⟨m, hm⟩ := k1; exact DataW.trod_lt m _ _ _ hm
  obtain ⟨z1, w1⟩ : ∃ zs, IsRow .i64 W a1 len1 cap1 zs := by
    obtain ⟨fuel, hf⟩ := h1
    rcases open_ints Try.underlying22 Try.underlying3 (by kernel_rfl) hf with ⟨hcs, _⟩ | ⟨x, l, c, zs, hcs, _, hl, hm, hz, _, hcell, hwz⟩
    · simp [Value.cells] at hcs
      obtain ⟨rfl, rfl, rfl⟩ := hcs
      exact ⟨[], .inl ⟨rfl, rfl, rfl, rfl⟩⟩
    · simp [Value.cells] at hcs
      obtain ⟨rfl, rfl, rfl⟩ := hcs
      exact ⟨zs, .inr ⟨_, rfl, hl, hm, by simpa using hz, hcell, hwz⟩⟩
  have y1 : len1 * 8 ≤ 140737488351232 := Go.Proofs.YtfblohigbdomjaaW.PrintWords.sized_ints hsz (j := 1) (t := 22) rfl rfl Try.underlying22 Try.underlying3 (by kernel_rfl) (by kernel_rfl) h1
  clear hA0 hval0 hsz0 hsz
  refine (G.laws_FnExactRobinTable.walk Pure.FnExactRobinTable a0 a1 len1 cap1 z1 W w0 w1 y1).mono fun e W' ⟨he, bel⟩ => ?_
  subst he
  exact ⟨_, rfl, _, _, _, [], _, [], hW', trodAll_mk1 (shut_bool Try.underlying4 _), (trodAll_cons_mk (shut_int Try.underlying3 w0) (trodAll_cons_mk (Below.trod laidOut (by kernel_rfl) (of_decide_eq_true (by kernel_rfl)) k1 bel lt1) trodAll_mk0)), rfl, bel.frame _, fun h => by cases h⟩
theorem over : Rows.fnExactRobinTableRow.holds Try.pinned (OpenSpec.ofChange Rows.fnExactRobinTableSpec) :=
  OpenClaim.holds_of_wide 4 Try.f4 rfl rfl rfl rfl rfl rfl rfl ⟨rfl, rfl, rfl, rfl, rfl⟩ rfl rfl rfl rfl rfl (by kernel_rfl) Try.func4 (by kernel_rfl)
    (of_decide_eq_true (by kernel_rfl)) (by unfold Func.isWrapper; first | (rw [if_pos (by decide +kernel)]; kernel_rfl) | (rw [if_neg (by decide +kernel)]; exact ⟨rfl, rfl⟩))
    (fun os started H enc _ => lifted os started H enc)
theorem proved : Rows.FnExactRobinTableSaid := over
#print axioms proved
end Go.Proofs.Ytfblohigbdomjaa.fnExactRobinTable
namespace Go.Proofs.Ytfblohigbdomjaa
/-- The row, under a short name, for the claim. -/
theorem fnExactRobinTable_holds : Rows.FnExactRobinTableSaid := fnExactRobinTable.proved
end Go.Proofs.Ytfblohigbdomjaa
