/- The law FnRecurrentSand: part 5 of the printed functions and the facts on them that its row leans on (merged by this session's slim.py). -/
import Derived.Test.YtbncolgpgabjcaaZFnRecurrentSand4
namespace SandT
/-- DHAR's TEST, by numbers. -/
theorem rec_iff {c : List Int} (hs : Stable c) (hn : Nonneg c) : Rec c ↔ ∀ m : Nat, m ≤ c.length → less m c ≤ m := by
  constructor
  · rintro ⟨_, hb⟩ m hm
    obtain ⟨h1, h2⟩ := back_once hb
    -- the first of those nodes that topples
    rcases Nat.lt_or_ge m (less m c) with hv | hv
    · exfalso
      have hlegal := stab_legal (more c)
      have hlt : ∀ i ∈ (stab (more c)).2, i < c.length := fun i hi => by have := legal_lt _ _ hlegal i hi; simpa using this
      generalize hS : (stab (more c)).2 = s at *
      have hnd : s.Nodup := nodup_count_one (fun j => by
        rcases Nat.lt_or_ge j c.length with h | h
        · rw [h1 j h]; exact Nat.le_refl _
        · rw [List.count_eq_zero.2 (fun hj => by have := hlt j hj; omega)]; omega)
      -- split at the first element with c < m
      have : ∃ a i b, s = a ++ i :: b ∧ (∀ x ∈ a, ¬ c.getD x 0 < m) ∧ c.getD i 0 < m := by
        have hex : ∃ i ∈ s, c.getD i 0 < m := by
          have : 0 < less m c := by omega
          rw [less_places] at this
          obtain ⟨i, hi⟩ := List.exists_mem_of_length_pos this
          rw [List.mem_filter, List.mem_range] at hi
          refine ⟨i, ?_, by simpa using hi.2⟩
          have := h1 i hi.1
          exact List.count_pos_iff.1 (by omega)
        clear h1 h2 hlegal hlt hnd hS
        induction s with
        | nil => obtain ⟨i, hi, _⟩ := hex; simp at hi
        | cons x s ih =>
          by_cases hx : c.getD x 0 < m
          · exact ⟨[], x, s, rfl, fun y hy => by simp at hy, hx⟩
          · obtain ⟨i, hi, hic⟩ := hex
            rcases List.mem_cons.1 hi with rfl | hi
            · exact absurd hic hx
            · obtain ⟨a, k, b, e, ha, hk⟩ := ih ⟨i, hi, hic⟩
              exact ⟨x :: a, k, b, by rw [e]; rfl, (fun y hy => by
                rcases List.mem_cons.1 hy with rfl | hy
                · exact hx
                · exact ha y hy), hk⟩
      obtain ⟨a, i, b, rfl, ha, hi⟩ := this
      rw [legal_append] at hlegal
      have hil := hlt i (by simp)
      have hv2 := hlegal.2.2.1
      rw [length_run, get_run _ _ _ (by simpa using hil), get_more _ _ hil, length_more] at hv2
      have hcnt : a.count i = 0 := by
        rw [List.count_eq_zero]
        intro hmem
        exact ha i hmem hi
      rw [hcnt] at hv2
      -- a is made of other nodes
      have hle : a.length ≤ ((List.range c.length).filter fun j => !decide (c.getD j 0 < m)).length := by
        apply length_le_of_count_le
        intro x
        have hxa : a.count x ≤ 1 := by
          have := (List.nodup_iff_count.1 hnd) x
          rw [List.count_append] at this
          omega
        by_cases hm' : x ∈ a
        · have hx1 : x ∈ (List.range c.length).filter fun j => !decide (c.getD j 0 < m) := by
            rw [List.mem_filter, List.mem_range]
            exact ⟨hlt x (by simp [hm']), by simpa using ha x hm'⟩
          have := List.count_pos_iff.2 hx1
          omega
        · rw [List.count_eq_zero.2 hm']; omega
      have := length_filter_not (List.range c.length) (fun j => decide (c.getD j 0 < m))
      rw [← less_places, List.length_range] at this
      omega
    · exact hv
  · intro hm
    refine ⟨hs, ?_⟩
    have hlegal := stab_legal (more c)
    have hst := stab_stable (nn_more hn)
    have hrun := stab_run (more c)
    rw [hrun] at hst ⊢
    have honce := more_once hs
    have hlt : ∀ i ∈ (stab (more c)).2, i < c.length := fun i hi => by have := legal_lt _ _ hlegal i hi; simpa using this
    generalize (stab (more c)).2 = s at *
    have hnd : s.Nodup := nodup_count_one honce
    have hsl : s.length ≤ c.length := by
      have := length_le_of_count_le s (List.range c.length) (fun x => by
        by_cases hx : x ∈ s
        · have := List.count_pos_iff.2 (show x ∈ List.range c.length by rw [List.mem_range]; exact hlt x hx)
          have := honce x
          omega
        · rw [List.count_eq_zero.2 hx]; omega)
      simpa using this
    have full : s.length = c.length := by
      apply Classical.byContradiction
      intro hne
      have hmm := hm (c.length - 1 - s.length) (by omega)
      rw [less_places] at hmm
      -- all nodes that haven't toppled have less
      have hsub : ((List.range c.length).filter fun j => !decide (j ∈ s)).length ≤ ((List.range c.length).filter fun j => decide (c.getD j 0 < ((c.length - 1 - s.length : Nat) : Int))).length := by
        rw [← List.countP_eq_length_filter, ← List.countP_eq_length_filter]
        apply List.countP_mono_left
        intro j hj hj'
        rw [List.mem_range] at hj
        have hjs : j ∉ s := by simpa using hj'
        have := hst j (by simpa using hj)
        rw [length_run, get_run _ _ _ (by simpa using hj), get_more _ _ hj, List.count_eq_zero.2 hjs, length_more] at this
        simp only [decide_eq_true_eq]
        omega
      have hpart := length_filter_not (List.range c.length) (fun j => decide (j ∈ s))
      have hin : ((List.range c.length).filter fun j => decide (j ∈ s)).length ≤ s.length := by
        apply length_le_of_count_le
        intro x
        by_cases hx : x ∈ (List.range c.length).filter fun j => decide (j ∈ s)
        · have h1 : ((List.range c.length).filter fun j => decide (j ∈ s)).count x ≤ 1 := (List.nodup_iff_count.1 (List.nodup_range.filter _)) x
          rw [List.mem_filter] at hx
          have := List.count_pos_iff.2 (show x ∈ s by simpa using hx.2)
          omega
        · rw [List.count_eq_zero.2 hx]; omega
      rw [List.length_range] at hpart
      omega
    apply ext_getD (by simp)
    intro j hj
    have hj' : j < c.length := by simpa using hj
    have hc1 : s.count j = 1 := by
      have hsum := sum_count c.length s hlt
      apply Classical.byContradiction
      intro hne
      have h0 : s.count j = 0 := by have := honce j; omega
      have hle : ∀ k, k ≤ c.length → ((List.range k).map fun i => s.count i).sum + (if j < k then 1 else 0) ≤ k := by
        intro k
        induction k with
        | zero => intro _; simp
        | succ k ih =>
          intro hk
          have := ih (by omega)
          rw [List.range_succ, List.map_append, List.sum_append]
          simp only [List.map_cons, List.map_nil, List.sum_cons, List.sum_nil]
          have h1 := honce k
          by_cases e : j = k
          · subst e; rw [if_pos (by omega)]; rw [if_neg (by omega)] at this; omega
          · by_cases hjk : j < k
            · rw [if_pos (by omega)]; rw [if_pos hjk] at this; omega
            · rw [if_neg (by omega)]; rw [if_neg hjk] at this; omega
      have := hle c.length (Nat.le_refl _)
      rw [if_pos hj', ← hsum, full] at this
      omega
    rw [get_run _ _ _ (by simpa using hj'), get_more _ _ hj', hc1, full, length_more]
    push_cast
    omega
theorem plus_zero {a b : List Int} (hb : ∀ j, j < a.length → b.getD j 0 = 0) : plus a b = a := by
  apply ext_getD (by simp)
  intro j hj
  have hj' : j < a.length := by simpa using hj
  rw [get_plus _ _ _ hj', hb j hj']; omega
def const (n : Nat) (k : Int) : List Int := List.replicate n k
theorem get_const (n j : Nat) (k : Int) (h : j < n) : (const n k).getD j 0 = k := by
  simp [const, List.getD_eq_getElem?_getD, h]
theorem nn_const (n : Nat) {k : Int} (hk : 0 ≤ k) : Nonneg (const n k) := by
  intro j
  unfold const
  rw [List.getD_eq_getElem?_getD, List.getElem?_replicate]
  split <;> simp [hk]
/-- Recurrent sand takes the same number of grains on every node. -/
theorem rec_const {c : List Int} (hr : Rec c) (hn : Nonneg c) : ∀ (k : Nat), (stab (plus c (const c.length k))).1 = c
  | 0 => by
    rw [plus_zero (fun j hj => by rw [get_const _ _ _ hj]; rfl)]
    exact stab_fix hr.1
  | k + 1 => by
    have ih := rec_const hr hn k
    have e : plus c (const c.length ((k + 1 : Nat) : Int)) = plus (plus c (const c.length k)) (ones c.length) := by
      apply ext_getD (by simp)
      intro j hj
      have hj' : j < c.length := by simpa using hj
      rw [get_plus _ _ _ hj', get_plus _ _ _ (by simpa using hj'), get_plus _ _ _ hj', get_const _ _ _ hj', get_const _ _ _ hj', get_ones _ _ hj']
      push_cast; omega
    rw [e, ← stab_plus (nn_plus hn (nn_const _ (by omega))) (nn_ones _), ih]
    exact hr.2
/-- The greatest stable sand is recurrent; it is the neutral one. -/
def top (n : Nat) : List Int := const n ((n : Int) - 1)
theorem neutral {e : List Int} (hr : Rec e) (hn : Nonneg e) : (stab (plus e (top e.length))).1 = e := by
  rcases Nat.eq_zero_or_pos e.length with h0 | h0
  · have : e = [] := List.eq_nil_of_length_eq_zero h0
    subst this; rfl
  · have := rec_const hr hn (e.length - 1)
    unfold top
    have e1 : (((e.length - 1 : Nat) : Int)) = (e.length : Int) - 1 := by omega
    rwa [e1] at this
/-- A list in which i stands as often as f says. -/
def often (f : Nat → Nat) : Nat → List Nat
  | 0 => []
  | n + 1 => often f n ++ List.replicate (f n) n
def times (k : Nat) (e : List Int) : List Int := e.map fun x => (k : Int) * x
@[simp] theorem length_times (k : Nat) (e : List Int) : (times k e).length = e.length := by simp [times]
def rep (e : List Int) : Nat → List Int
  | 0 => top e.length
  | k + 1 => (stab (plus (rep e k) e)).1
@[simp] theorem length_top (n : Nat) : (top n).length = n := by simp [top, const]
@[simp] theorem length_rep (e : List Int) : ∀ k, (rep e k).length = e.length
  | 0 => by simp [rep]
  | k + 1 => by simp [rep, length_rep e k]
end SandT
namespace Go.Proofs.Ytbncolgpgabjcaa.G
open Go.RowKit Go.Proofs.YtbncolgpgabjcaaW.PrintWords Go.Proofs.YtbncolgpgabjcaaW.PrintLast Go.Proofs.YtbncolgpgabjcaaW.PrintMore
set_option linter.unusedVariables false
set_option linter.unusedSimpArgs false
def sandB (l : List Int) : Bool := decide (l.length ≤ 8) && l.all fun x => decide (0 ≤ x ∧ x ≤ 60)
theorem sandB_len {l : List Int} (h : sandB l = true) : l.length ≤ 8 := by unfold sandB at h; simp at h; exact h.1
theorem sandB_get {l : List Int} (h : sandB l = true) (j : Nat) : 0 ≤ l.getD j 0 ∧ l.getD j 0 ≤ 60 := by
  unfold sandB at h
  simp only [Bool.and_eq_true, List.all_eq_true, decide_eq_true_eq] at h
  rcases Nat.lt_or_ge j l.length with hj | hj
  · have := h.2 (l.getD j 0) (by rw [List.getD_eq_getElem?_getD, List.getElem?_eq_getElem hj]; exact List.getElem_mem hj)
    exact this
  · rw [List.getD_eq_getElem?_getD, List.getElem?_eq_none hj]; simp
theorem reSand_ev (l : List Int) (hn : l.length ≤ 4611686018427387904) : Ev (fun k => spec_reSand.f k l) (sandB l) := by
  unfold spec_reSand.f sandB
  by_cases h : l.length ≤ 8
  · simp only [show ((l.length : Int) ≤ 8) from by omega, if_true, h, decide_true, Bool.true_and]
    exact Ev.bind (l1All_ev l 0 60 hn) (Ev.now _)
  · simp only [show ¬ ((l.length : Int) ≤ 8) from by omega, if_false, h, decide_false, Bool.false_and]
    exact Ev.now _
theorem between_eq (a b c : Int) : impl_between.f a b c = some (decide (b ≤ a ∧ a ≤ c)) := by
  unfold impl_between.f
  split
  · rename_i h; congr 1; rw [Bool.eq_iff_iff]; simp; omega
  · rename_i h; congr 1; rw [Bool.eq_iff_iff]; simp; omega
theorem isCars_eq (n : Nat) : impl_isCars.f (n : Int) = some (decide (n ≤ 8)) := by
  unfold impl_isCars.f
  rw [between_eq, Option.bind_some]
  congr 1; rw [Bool.eq_iff_iff]; simp; omega
theorem isSand_eq (l : List Int) : impl_isSand.f l = some (sandB l) := by
  unfold impl_isSand.f sandB
  rw [isCars_eq, Option.bind_some]
  by_cases h : l.length ≤ 8
  · simp only [h, decide_true, if_true, impl_areBetween.f, Option.bind_some, Bool.true_and]
    congr 1
    congr 1
    funext x
    rw [Bool.eq_iff_iff]; simp
  · simp [h]
/-- The first node that can topple, or -1. -/
def firstI (l : List Int) : Int := match SandT.first l with
  | none => -1
  | some i => i
theorem reFirst_l0 (l : List Int) (hn : l.length ≤ 4611686018427387904) : ∀ (d i : Nat), i + d = l.length → (∀ j, j < i → l.getD j 0 < l.length) → Ev (fun k => spec_reFirst.l0 k l l (l.length : Int) i) (firstI l) := by
  intro d
  induction d with
  | zero =>
    intro i hd hb
    refine Ev.end_ fun k => ?_
    rw [spec_reFirst.l0, if_neg (by omega)]
    have : SandT.first l = none := SandT.first_of_stable (fun j hj => hb j (by omega))
    rw [firstI, this]
  | succ d ih =>
    intro i hd hb
    by_cases h : (l.length : Int) ≤ l.getD i 0
    · refine Ev.end_ fun k => ?_
      rw [spec_reFirst.l0, if_pos (by omega), if_pos (by omega), if_pos (by omega), rd_nat, if_pos (by omega)]
      have : SandT.first l = some i := by
        unfold SandT.first
        rw [List.findIdx?_eq_some_iff_getElem]
        have hi : i < l.length := by omega
        have e1 : l.getD i 0 = l[i] := by rw [List.getD_eq_getElem?_getD, List.getElem?_eq_getElem hi]; rfl
        refine ⟨hi, by rw [← e1]; simpa using h, fun j hj => ?_⟩
        have e2 : l.getD j 0 = l[j] := by rw [List.getD_eq_getElem?_getD, List.getElem?_eq_getElem (by omega)]; rfl
        have := hb j hj
        rw [← e2]; simpa using this
      rw [firstI, this]
    · refine Ev.one (ih (i + 1) (by omega) (fun j hj => ?_)) fun k => ?_
      · rcases Nat.lt_or_ge j i with h1 | h1
        · exact hb j h1
        · have : j = i := by omega
          rw [this]; omega
      · rw [spec_reFirst.l0, if_pos (by omega), if_pos (by omega), if_pos (by omega), rd_nat, if_neg (by omega), wrap_next (n := l.length) (by omega) hn]
theorem reFirst_ev (l : List Int) (hn : l.length ≤ 4611686018427387904) : Ev (fun k => spec_reFirst.f k l) (firstI l) := reFirst_l0 l hn l.length 0 (by omega) (fun j hj => absurd hj (Nat.not_lt_zero _))
theorem firstI_neg (l : List Int) : decide (firstI l < 0) = l.all fun x => decide (x < l.length) := by
  unfold firstI
  cases e : SandT.first l with
  | none =>
    have := SandT.first_none e
    simp only [show decide ((-1 : Int) < 0) = true from rfl]
    symm
    rw [List.all_eq_true]
    intro x hx
    obtain ⟨j, hj, rfl⟩ := List.getElem_of_mem hx
    have := this j hj
    rw [List.getD_eq_getElem?_getD, List.getElem?_eq_getElem hj] at this
    simpa using this
  | some i =>
    have := SandT.first_some e
    have h1 : decide (((i : Nat) : Int) < 0) = false := decide_eq_false (by omega)
    simp only [h1]
    symm
    rw [List.all_eq_false]
    refine ⟨l[i]'this.1, List.getElem_mem _, ?_⟩
    have h2 := this.2
    rw [List.getD_eq_getElem?_getD, List.getElem?_eq_getElem this.1] at h2
    simpa using h2
def stableV (l : List Int) : Bool × Bool := if sandB l = true then (l.all fun x => decide (x < l.length), true) else (false, false)
theorem impl_IsStable_eq (l : List Int) : impl_IsStable.f l = some (stableV l) := by
  unfold impl_IsStable.f stableV
  rw [isSand_eq, Option.bind_some]
  by_cases h : sandB l = true
  · simp only [h, if_true, impl_isStable.f, Option.bind_some]
  · simp only [h, if_false]; rfl
theorem reTopple_ev (l : List Int) (hl : l.length ≤ 1000) {B : Int} (hB : B ≤ 1000000) (hb : ∀ j, -B ≤ l.getD j 0 ∧ l.getD j 0 ≤ B) (i : Nat) : Ev (fun k => spec_reTopple.f k l (i : Int)) (SandT.topl l i) := by
  unfold spec_reTopple.f
  have := Ev.up0 l.length (fun q => (SandT.topl l i).take q) (fun k s q => spec_reTopple.l0 k l (i : Int) s l (l.length : Int) q) (SandT.topl l i) (fun q hq h => Ev.one h fun k => ?_) (Ev.end_ fun k => ?_)
  · exact this
  · have hlt : ((SandT.topl l i).take q).length < 17592186044416 := by rw [List.length_take]; omega
    have hg := SandT.get_topl l i q hq
    have hbq := hb q
    rw [spec_reTopple.l0, if_pos (by omega), if_pos (by omega), if_pos (by omega), rd_nat]
    by_cases e : q = i
    · rw [if_pos (by omega), if_pos hlt, wrap_next (n := l.length) hq (by omega), wrap_id (by omega) (by omega), take_snoc (by simpa using hq) (by rw [hg, if_pos e])]
    · rw [if_neg (by omega), if_pos hlt, wrap_next (n := l.length) hq (by omega), wrap_id (by omega) (by omega), take_snoc (by simpa using hq) (by rw [hg, if_neg e])]
  · rw [spec_reTopple.l0, if_neg (by omega), List.take_of_length_le (by simp)]
theorem Clone_eq (l : List Int) (h : l.length ≤ 17592186044415) : slices_Clone_int_int.f l = some l := by unfold slices_Clone_int_int.f; rw [if_pos h]
theorem get_le_sum : ∀ {c : List Int}, SandT.Nonneg c → ∀ j, c.getD j 0 ≤ c.sum
  | [], _, j => by simp
  | x :: c, h, 0 => by
    have := SandT.nn_sum (c := c) (fun j => by simpa using h (j + 1))
    simp; omega
  | x :: c, h, j + 1 => by
    have h0 := h 0
    have := get_le_sum (c := c) (fun j => by simpa using h (j + 1)) j
    simp at h0 this ⊢; omega
theorem sum_le {B : Int} : ∀ {c : List Int}, (∀ j, c.getD j 0 ≤ B) → 0 ≤ B → c.sum ≤ c.length * B
  | [], _, _ => by simp
  | x :: c, h, hB => by
    have h0 := h 0
    have := sum_le (c := c) (fun j => by simpa using h (j + 1)) hB
    simp only [List.getD_cons_zero] at h0
    simp only [List.sum_cons, List.length_cons]
    push_cast
    rw [Int.add_mul]; omega
/-- Sand that is far from the ends of the numbers. -/
structure Mild (c : List Int) : Prop where
  nn : SandT.Nonneg c
  len : c.length ≤ 1000
  sum : c.sum ≤ 1000000
theorem Mild.get {c : List Int} (h : Mild c) (j : Nat) : -1000000 ≤ c.getD j 0 ∧ c.getD j 0 ≤ 1000000 := by
  have := get_le_sum h.nn j
  have := h.nn j
  have := h.sum
  omega
theorem Mild.topl {c : List Int} (h : Mild c) {i : Nat} (e : SandT.first c = some i) : Mild (SandT.topl c i) := by
  have hi := SandT.first_some e
  exact ⟨SandT.nn_topl h.nn hi.2, by simpa using h.len, by rw [SandT.sum_topl _ _ hi.1]; have := h.sum; omega⟩
theorem sandB_nn {l : List Int} (h : sandB l = true) : SandT.Nonneg l := fun j => (sandB_get h j).1
theorem sandB_sum {l : List Int} (h : sandB l = true) : l.sum ≤ 480 := by
  have := sum_le (c := l) (B := 60) (fun j => (sandB_get h j).2) (by omega)
  have := sandB_len h
  omega
theorem sandB_mild {l : List Int} (h : sandB l = true) : Mild l := ⟨sandB_nn h, by have := sandB_len h; omega, by have := sandB_sum h; omega⟩
theorem plus_sum (a b : List Int) (h : a.length = b.length) : (SandT.plus a b).sum = a.sum + b.sum := by
  induction a generalizing b with
  | nil =>
    have : b = [] := List.length_eq_zero_iff.1 h.symm
    subst this; simp [SandT.plus]
  | cons x a ih =>
    cases b with
    | nil => simp at h
    | cons y b =>
      have e : SandT.plus (x :: a) (y :: b) = (x + y) :: SandT.plus a b := by
        simp [SandT.plus, List.mapIdx_cons]
      rw [e, List.sum_cons, ih b (by simpa using h)]
      simp only [List.sum_cons]; omega
def asI (s : List Nat) : List Int := s.map fun (i : Nat) => (i : Int)
theorem asI_len (s : List Nat) : (asI s).length = s.length := by simp [asI]
theorem stab_len : ∀ (N : Nat) {c : List Int}, SandT.Nonneg c → c.sum ≤ N → (SandT.stab c).2.length ≤ N := by
  intro N
  induction N with
  | zero =>
    intro c h hs
    cases e : SandT.first c with
    | none => rw [SandT.stab_end e]; simp
    | some i =>
      have hi := SandT.first_some e
      have := SandT.nn_sum (SandT.nn_topl h hi.2)
      rw [SandT.sum_topl _ _ hi.1] at this
      omega
  | succ N ih =>
    intro c h hs
    cases e : SandT.first c with
    | none => rw [SandT.stab_end e]; simp
    | some i =>
      have hi := SandT.first_some e
      rw [SandT.stab_step h e]
      have := ih (SandT.nn_topl h hi.2) (by rw [SandT.sum_topl _ _ hi.1]; omega)
      simpa using this
theorem reSettle_l0 : ∀ (N : Nat) (c out : List Int), Mild c → c.sum ≤ N → out.length + N ≤ 2000000 → Ev (fun k => spec_reSettle.l0 k c out (firstI c)) ((SandT.stab c).1, out ++ asI (SandT.stab c).2) := by
  have stop : ∀ (c out : List Int), SandT.first c = none → Ev (fun k => spec_reSettle.l0 k c out (firstI c)) ((SandT.stab c).1, out ++ asI (SandT.stab c).2) := by
    intro c out e
    refine Ev.end_ fun k => ?_
    rw [spec_reSettle.l0, firstI, e, if_neg (by simp), SandT.stab_end e]
    simp [asI]
  intro N
  induction N with
  | zero =>
    intro c out h hs ho
    cases e : SandT.first c with
    | none => exact stop c out e
    | some i =>
      have hi := SandT.first_some e
      have := SandT.nn_sum (h.topl e).nn
      rw [SandT.sum_topl _ _ hi.1] at this
      omega
  | succ N ih =>
    intro c out h hs ho
    cases e : SandT.first c with
    | none => exact stop c out e
    | some i =>
      have hi := SandT.first_some e
      have hl := h.len
      have fi : firstI c = (i : Int) := by rw [firstI, e]
      rw [fi]
      refine Ev.step (f := fun k => (spec_reTopple.f k c (i : Int)).bind fun t => (if out.length < 17592186044416 then ((spec_reFirst.f k t).bind fun u => (spec_reSettle.l0 k t (out ++ [(i : Int)]) u)) else none)) (fun k => by rw [spec_reSettle.l0, if_pos (by omega)]) ?_
      refine Ev.bind (reTopple_ev c h.len (by omega) h.get i) ?_
      simp only [show out.length < 17592186044416 by omega, if_true]
      refine Ev.bind (reFirst_ev _ (by rw [SandT.length_topl]; omega)) ?_
      have := ih (SandT.topl c i) (out ++ [(i : Int)]) (h.topl e) (by rw [SandT.sum_topl _ _ hi.1]; omega) (by simp; omega)
      rw [SandT.stab_step h.nn e]
      simpa [asI] using this
theorem reSettle_ev {c : List Int} (h : Mild c) : Ev (fun k => spec_reSettle.f k c) ((SandT.stab c).1, asI (SandT.stab c).2) := by
  have hl := h.len
  unfold spec_reSettle.f spec_l1Own.f
  simp only [Option.bind_some, List.length_nil, show 0 + c.length < 17592186044416 by omega, if_true, List.nil_append]
  refine Ev.bind (reFirst_ev _ (by omega)) ?_
  have h0 := SandT.nn_sum h.nn
  have h1 := h.sum
  have := reSettle_l0 c.sum.toNat c [] h (by omega) (by simp; omega)
  simpa using this
theorem firstUp_eq (c : List Int) : firstUp c = firstI c := by
  unfold firstUp firstI
  cases e : SandT.first c with
  | none =>
    refine idxF_miss _ _ _ fun j hj => ?_
    have := SandT.first_none e j hj
    simpa using this
  | some i =>
    have hi := SandT.first_some e
    have := idxF_hit (fun x => decide ((c.length : Int) ≤ x)) c i 0 hi.1 (fun j hj => ?_) (by simpa using hi.2)
    · simpa using this
    · unfold SandT.first at e
      rw [List.findIdx?_eq_some_iff_getElem] at e
      obtain ⟨h1, _, h3⟩ := e
      have := h3 j hj
      rw [List.getD_eq_getElem?_getD, List.getElem?_eq_getElem (by omega)]
      simpa using this
theorem topple_at (l : List Int) (hl : l.length ≤ 1000) {B : Int} (hB : B ≤ 1000000) (hb : ∀ j, -B ≤ l.getD j 0 ∧ l.getD j 0 ≤ B) (i : Nat) (hi : i < l.length) : impl_topple.f 2000 l (i : Int) = some (SandT.topl l i) := by
  have hR : (l.map (· + 1)).length = l.length := by simp
  have hg : ∀ q, q < l.length → (l.map (· + 1)).getD q 0 = l.getD q 0 + 1 := by
    intro q hq
    simp [List.getD_eq_getElem?_getD, List.getElem?_eq_getElem hq]
  have key : ∀ (d k q : Nat), q + d = l.length → d < k → impl_topple.l0 k (mixed (l.map (· + 1)) l q) (i : Int) (l.length : Int) q = some (SandT.topl l i) := by
    intro d
    induction d with
    | zero =>
      intro k q hd hk
      obtain ⟨k, rfl⟩ := succ_of hk
      obtain rfl : q = l.length := by omega
      have hbi := hb i
      rw [mixed_full hR, impl_topple.l0, if_neg (by omega), if_pos (by omega), if_pos (by omega), rd_nat, hg i hi, Int.toNat_natCast, List.length_map, wrap_id (x := (l.length : Int) + 1) (by omega) (by omega), wrap_id (by omega) (by omega)]
      congr 1
      rw [SandT.topl]
      congr 1
      omega
    | succ d ih =>
      intro k q hd hk
      obtain ⟨k, rfl⟩ := succ_of (Nat.lt_of_le_of_lt (Nat.zero_le _) hk)
      have hq : q < l.length := by omega
      have hbq := hb q
      rw [impl_topple.l0, if_pos (by omega), if_pos (by omega), if_pos (by rw [length_mixed hR]; omega), rd_nat, getD_mixed hR hq, Int.toNat_natCast, wrap_id (x := l.getD q 0 + 1) (by omega) (by omega), set_mixed hR hq (hg q hq), wrap_next (n := l.length) hq (by omega)]
      exact ih k (q + 1) (by omega) (by omega)
  have := key l.length 2000 0 (by omega) (by omega)
  unfold impl_topple.f
  simpa [mixed_zero] using this
theorem settle_go : ∀ (N k : Nat) (c out : List Int), N < k → Mild c → c.sum ≤ N → out.length + N ≤ 2000000 → impl_settle.go k c out = some ((SandT.stab c).1, out ++ asI (SandT.stab c).2) := by
  have stop : ∀ (k : Nat) (c out : List Int), SandT.first c = none → impl_settle.go (k + 1) c out = some ((SandT.stab c).1, out ++ asI (SandT.stab c).2) := by
    intro k c out e
    rw [impl_settle.go, firstUp_eq, firstI, e, if_pos (by simp), SandT.stab_end e]
    simp [asI]
  intro N
  induction N with
  | zero =>
    intro k c out hk h hs ho
    obtain ⟨k, rfl⟩ := succ_of hk
    cases e : SandT.first c with
    | none => exact stop k c out e
    | some i =>
      have hi := SandT.first_some e
      have := SandT.nn_sum (h.topl e).nn
      rw [SandT.sum_topl _ _ hi.1] at this
      omega
  | succ N ih =>
    intro k c out hk h hs ho
    obtain ⟨k, rfl⟩ := succ_of (Nat.lt_of_le_of_lt (Nat.zero_le _) hk)
    cases e : SandT.first c with
    | none => exact stop k c out e
    | some i =>
      have hi := SandT.first_some e
      have hl := h.len
      have fi : firstUp c = (i : Int) := by rw [firstUp_eq, firstI, e]
      rw [impl_settle.go, fi, if_neg (by omega), topple_at c h.len (by omega) h.get i hi.1, Option.bind_some, if_pos (by omega)]
      have := ih k (SandT.topl c i) (out ++ [(i : Int)]) (by omega) (h.topl e) (by rw [SandT.sum_topl _ _ hi.1]; omega) (by simp; omega)
      rw [SandT.stab_step h.nn e, this]
      simp [asI]
theorem settle_eq {c : List Int} (h : Mild c) : impl_settle.f c = some ((SandT.stab c).1, asI (SandT.stab c).2) := by
  have hl := h.len
  have h0 := SandT.nn_sum h.nn
  have h1 := h.sum
  unfold impl_settle.f
  rw [if_pos (by omega), settle_go 1000000 1000002 c [] (by omega) h (by omega) (by simp)]
  simp
def cnt (n : Nat) (s : List Nat) : List Int := (List.range n).map fun j => ((s.count j : Nat) : Int)
theorem asI_get (s : List Nat) {q : Nat} (hq : q < s.length) : (asI s).getD q 0 = ((s[q] : Nat) : Int) := by simp [asI, List.getD_eq_getElem?_getD, hq]
theorem rePlus_ev {a b : List Int} (h : a.length = b.length) (hl : a.length ≤ 1000) (ha : ∀ j, -1000000 ≤ a.getD j 0 ∧ a.getD j 0 ≤ 1000000) (hb : ∀ j, -1000000 ≤ b.getD j 0 ∧ b.getD j 0 ≤ 1000000) : Ev (fun k => spec_rePlus.f k a b) (SandT.plus a b) := by
  unfold spec_rePlus.f
  have := Ev.up0 a.length (fun q => (SandT.plus a b).take q) (fun k s q => spec_rePlus.l0 k b s a (a.length : Int) q) (SandT.plus a b) (fun q hq h' => Ev.one h' fun k => ?_) (Ev.end_ fun k => ?_)
  · exact this
  · have hlt : ((SandT.plus a b).take q).length < 17592186044416 := by rw [List.length_take]; omega
    have hg := SandT.get_plus a b q hq
    have := ha q
    have := hb q
    rw [spec_rePlus.l0, if_pos (by omega), if_pos (by omega), if_pos (by omega), if_pos (by omega), if_pos hlt, rd_nat, rd_nat, wrap_id (x := a.getD q 0 + b.getD q 0) (by omega) (by omega), take_snoc (by simpa using hq) hg, wrap_next (n := a.length) hq (by omega)]
  · rw [spec_rePlus.l0, if_neg (by omega), List.take_of_length_le (by simp)]
theorem added_ev {a b : List Int} (h : a.length = b.length) (hl : a.length ≤ 1000) (ha : ∀ j, -1000000 ≤ a.getD j 0 ∧ a.getD j 0 ≤ 1000000) (hb : ∀ j, -1000000 ≤ b.getD j 0 ∧ b.getD j 0 ≤ 1000000) : Ev (fun k => impl_added.f k a b) (SandT.plus a b) := by
  unfold impl_added.f
  simp only [Clone_eq a (by omega), Option.bind_some]
  have hR : (SandT.plus a b).length = a.length := by simp
  have := Ev.up0 b.length (fun q => mixed (SandT.plus a b) a q) (fun k s q => impl_added.l0 k s b (b.length : Int) q) (SandT.plus a b) (fun q hq h' => Ev.one h' fun k => ?_) (Ev.end_ fun k => ?_)
  · simpa [mixed_zero] using this
  · have hq' : q < a.length := by omega
    have hg := SandT.get_plus a b q hq'
    have := ha q
    have := hb q
    rw [impl_added.l0, if_pos (by omega), if_pos (by omega), if_pos (by omega), if_pos (by rw [length_mixed hR]; omega), rd_nat, rd_nat, getD_mixed hR hq', Int.toNat_natCast, wrap_id (x := a.getD q 0 + b.getD q 0) (by omega) (by omega), set_mixed hR hq' hg, wrap_next (n := b.length) hq (by omega)]
  · rw [impl_added.l0, if_neg (by omega), ← h, mixed_full hR]
def turned (l : List Int) : List Int := l.map fun x => (l.length : Int) - 1 - x
theorem turned_len (l : List Int) : (turned l).length = l.length := by simp [turned]
theorem turned_get (l : List Int) {q : Nat} (hq : q < l.length) : (turned l).getD q 0 = (l.length : Int) - 1 - l.getD q 0 := by
  simp [turned, List.getD_eq_getElem?_getD, List.getElem?_eq_getElem hq]
theorem reTurned_ev (l : List Int) (hl : l.length ≤ 1000) (hb : ∀ j, -1000000 ≤ l.getD j 0 ∧ l.getD j 0 ≤ 1000000) : Ev (fun k => spec_reTurned.f k l) (turned l) := by
  unfold spec_reTurned.f
  have := Ev.up0 l.length (fun q => (turned l).take q) (fun k s q => spec_reTurned.l0 k l s l (l.length : Int) q) (turned l) (fun q hq h' => Ev.one h' fun k => ?_) (Ev.end_ fun k => ?_)
  · exact this
  · have hlt : ((turned l).take q).length < 17592186044416 := by rw [List.length_take]; omega
    have hbq := hb q
    rw [spec_reTurned.l0, if_pos (by omega), if_pos (by omega), if_pos (by omega), if_pos hlt, rd_nat, wrap_id (x := (l.length : Int) - 1) (by omega) (by omega), wrap_id (x := (l.length : Int) - 1 - l.getD q 0) (by omega) (by omega), take_snoc (by simpa [turned_len] using hq) (turned_get l hq), wrap_next (n := l.length) hq (by omega)]
  · rw [spec_reTurned.l0, if_neg (by omega), List.take_of_length_le (by simp [turned_len])]
theorem Repeat_eq (x : Int) (n : Nat) (hn : n ≤ 1000000) : slices_Repeat_int_int.f [x] (n : Int) = some (List.replicate n x) := by
  unfold slices_Repeat_int_int.f
  rw [if_pos ⟨rfl, by omega, by omega⟩]
  simp [rd]
theorem get_repl (n : Nat) (x : Int) {j : Nat} (hj : j < n) : (List.replicate n x).getD j 0 = x := by simp [List.getD_eq_getElem?_getD, hj]
theorem get_repl_range (n : Nat) (x : Int) (hx : 0 ≤ x) (j : Nat) : 0 ≤ (List.replicate n x).getD j 0 ∧ (List.replicate n x).getD j 0 ≤ x := by
  rcases Nat.lt_or_ge j n with h | h
  · rw [get_repl n x h]; omega
  · rw [List.getD_eq_getElem?_getD, List.getElem?_eq_none (by simpa using h)]; simpa using hx
theorem mild_of {c : List Int} (hl : c.length ≤ 1000) (h : ∀ j, 0 ≤ c.getD j 0 ∧ c.getD j 0 ≤ 1000) : Mild c := by
  refine ⟨fun j => (h j).1, hl, ?_⟩
  have := sum_le (c := c) (B := 1000) (fun j => (h j).2) (by omega)
  omega
end Go.Proofs.Ytbncolgpgabjcaa.G
namespace ParkT
/-- The first free place from a on, of d places. -/
def fwdF (S : Nat → Bool) : Nat → Nat → Option Nat
  | 0, _ => none
  | d + 1, a => if S a = false then some a else fwdF S d (a + 1)
theorem fwdF_some {S : Nat → Bool} : ∀ {d a p : Nat}, fwdF S d a = some p → a ≤ p ∧ p < a + d ∧ S p = false ∧ ∀ q, a ≤ q → q < p → S q = true
  | 0, a, p, h => by simp [fwdF] at h
  | d + 1, a, p, h => by
    unfold fwdF at h
    split at h
    · obtain rfl := Option.some.inj h
      exact ⟨Nat.le_refl _, by omega, ‹_›, fun q h1 h2 => by omega⟩
    · rename_i hs
      obtain ⟨h1, h2, h3, h4⟩ := fwdF_some h
      refine ⟨by omega, by omega, h3, fun q hq1 hq2 => ?_⟩
      rcases Nat.lt_or_ge a q with h5 | h5
      · exact h4 q (by omega) hq2
      · have : q = a := by omega
        rw [this]; simpa using hs
theorem fwdF_none {S : Nat → Bool} : ∀ {d a : Nat}, fwdF S d a = none → ∀ q, a ≤ q → q < a + d → S q = true
  | 0, a, _, q, h1, h2 => by omega
  | d + 1, a, h, q, h1, h2 => by
    unfold fwdF at h
    split at h
    · cases h
    · rename_i hs
      rcases Nat.lt_or_ge a q with h5 | h5
      · exact fwdF_none h q (by omega) (by omega)
      · have : q = a := by omega
        rw [this]; simpa using hs
/-- How many of the places a, .., a + d - 1 are taken. -/
def cnt (S : Nat → Bool) : Nat → Nat → Nat
  | 0, _ => 0
  | d + 1, a => (if S a = true then 1 else 0) + cnt S d (a + 1)
theorem cnt_le (S : Nat → Bool) : ∀ (d a : Nat), cnt S d a ≤ d
  | 0, _ => Nat.le_refl _
  | d + 1, a => by have := cnt_le S d (a + 1); unfold cnt; split <;> omega
theorem cnt_full {S : Nat → Bool} : ∀ (d a : Nat), (∀ q, a ≤ q → q < a + d → S q = true) → cnt S d a = d
  | 0, _, _ => rfl
  | d + 1, a, h => by
    have := cnt_full d (a + 1) (fun q h1 h2 => h q (by omega) (by omega))
    unfold cnt
    rw [if_pos (h a (Nat.le_refl _) (by omega))]; omega
def put (S : Nat → Bool) (p : Nat) : Nat → Bool := fun q => decide (q = p) || S q
theorem cnt_put {S : Nat → Bool} {p : Nat} (hp : S p = false) : ∀ (d a : Nat), cnt (put S p) d a = cnt S d a + if a ≤ p ∧ p < a + d then 1 else 0
  | 0, a => by
    rw [if_neg (by omega)]; rfl
  | d + 1, a => by
    have ih := cnt_put hp d (a + 1)
    unfold cnt
    rw [ih]
    by_cases e : a = p
    · subst e
      have : ¬ (a + 1 ≤ a ∧ a < a + 1 + d) := by omega
      rw [if_neg this, if_pos (show a ≤ a ∧ a < a + (d + 1) by omega)]
      simp [put, hp]; omega
    · have hq : put S p a = S a := by simp [put, e]
      rw [hq]
      by_cases hr : a + 1 ≤ p ∧ p < a + 1 + d
      · rw [if_pos hr, if_pos (show a ≤ p ∧ p < a + (d + 1) by omega)]; omega
      · rw [if_neg hr, if_neg (show ¬ (a ≤ p ∧ p < a + (d + 1)) by omega)]; omega
/-- No more places are taken from any place on. -/
def Dom (N : Nat) (S' S : Nat → Bool) : Prop := ∀ j, j ≤ N → cnt S' (N - j) j ≤ cnt S (N - j) j
theorem Dom.refl (N : Nat) (S : Nat → Bool) : Dom N S S := fun _ _ => Nat.le_refl _
def driveS (N : Nat) : (Nat → Bool) → List Nat → List (Option Nat)
  | _, [] => []
  | S, a :: l => match fwdF S (N - a) a with
    | none => none :: driveS N S l
    | some p => some p :: driveS N (put S p) l
/-- What is taken in the end. -/
def endS (N : Nat) : (Nat → Bool) → List Nat → (Nat → Bool)
  | S, [] => S
  | S, a :: l => match fwdF S (N - a) a with
    | none => endS N S l
    | some p => endS N (put S p) l
def fails (l : List (Option Nat)) : Nat := (l.filter fun x => x.isNone).length
def from_ (j : Nat) (l : List Nat) : Nat := (l.filter fun x => decide (j ≤ x)).length
theorem endS_keeps (N : Nat) : ∀ (l : List Nat) (S : Nat → Bool) (q : Nat), S q = true → endS N S l q = true
  | [], _, _, h => h
  | a :: l, S, q, h => by
    cases hf : fwdF S (N - a) a with
    | none => simp only [endS, hf]; exact endS_keeps N l S q h
    | some p => simp only [endS, hf]; exact endS_keeps N l _ q (by simp [put, h])
theorem fails_cons_none (l : List (Option Nat)) : fails (none :: l) = fails l + 1 := by simp [fails]
theorem fails_cons_some (p : Nat) (l : List (Option Nat)) : fails (some p :: l) = fails l := by simp [fails]
theorem from_cons (j a : Nat) (l : List Nat) : from_ j (a :: l) = from_ j l + if j ≤ a then 1 else 0 := by
  unfold from_
  rw [List.filter_cons]
  by_cases h : j ≤ a <;> simp [h]
theorem from_le {N : Nat} (j : Nat) (hj : j ≤ N) : ∀ (l : List Nat) (S : Nat → Bool), from_ j l + cnt S (N - j) j ≤ fails (driveS N S l) + cnt (endS N S l) (N - j) j
  | [], S => by simp [from_, driveS, endS, fails]
  | a :: l, S => by
    rw [from_cons]
    cases hp : fwdF S (N - a) a with
    | none =>
      simp only [driveS, endS, hp]
      have := from_le j hj l S
      rw [fails_cons_none]
      split <;> omega
    | some p =>
      simp only [driveS, endS, hp]
      have := from_le j hj l (put S p)
      obtain ⟨h1, h2, h3, h4⟩ := fwdF_some hp
      rw [fails_cons_some]
      rw [cnt_put h3] at this
      by_cases ha : j ≤ a
      · rw [if_pos ha]
        rw [if_pos (by omega)] at this
        omega
      · rw [if_neg ha]
        split at this <;> omega
theorem from_eq {N : Nat} (j : Nat) (hj : j ≤ N) : ∀ (l : List Nat) (S : Nat → Bool), (∀ a ∈ l, a < N) → (j = 0 ∨ endS N S l (j - 1) = false) → from_ j l + cnt S (N - j) j = fails (driveS N S l) + cnt (endS N S l) (N - j) j
  | [], S, _, _ => by simp [from_, driveS, endS, fails]
  | a :: l, S, hl, h0 => by
    have haN := hl a (by simp)
    rw [from_cons]
    cases hf : fwdF S (N - a) a with
    | none =>
      simp only [endS, hf] at h0
      have ih := from_eq j hj l S (fun x hx => hl x (by simp [hx])) h0
      simp only [driveS, endS, hf]
      rw [fails_cons_none]
      have hn := fwdF_none hf
      have : j ≤ a := by
        rcases Nat.lt_or_ge a j with h | h
        · exfalso
          rcases h0 with h1 | h1
          · omega
          · rw [endS_keeps N l S (j - 1) (hn (j - 1) (by omega) (by omega))] at h1; cases h1
        · exact h
      rw [if_pos this]; omega
    | some p =>
      simp only [endS, hf] at h0
      have ih := from_eq j hj l (put S p) (fun x hx => hl x (by simp [hx])) h0
      obtain ⟨h1, h2, h3, h4⟩ := fwdF_some hf
      simp only [driveS, endS, hf]
      rw [fails_cons_some]
      rw [cnt_put h3] at ih
      by_cases ha : j ≤ a
      · rw [if_pos ha]
        rw [if_pos (by omega)] at ih
        omega
      · rw [if_neg ha]
        have : ¬ (j ≤ p) := by
          intro hjp
          rcases h0 with h5 | h5
          · omega
          · have := endS_keeps N l (put S p) (j - 1) (by simp [put, h4 (j - 1) (by omega) (by omega)])
            rw [this] at h5; cases h5
        rw [if_neg (by omega)] at ih
        omega
theorem driveS_fail {N : Nat} : ∀ (l : List Nat) (S : Nat → Bool), (∀ a ∈ l, a < N) → 0 < fails (driveS N S l) → endS N S l (N - 1) = true
  | [], S, _, h => by simp [driveS, fails] at h
  | a :: l, S, hl, h => by
    have haN := hl a (by simp)
    cases hf : fwdF S (N - a) a with
    | none => simp only [endS, hf]; exact endS_keeps N l S _ (fwdF_none hf (N - 1) (by omega) (by omega))
    | some p =>
      simp only [driveS, hf, fails_cons_some] at h
      simp only [endS, hf]
      exact driveS_fail l _ (fun x hx => hl x (by simp [hx])) h
/-- THE DEFECT: as told by the place that is asked for too often. -/
theorem defect_le {N : Nat} (l : List Nat) (j : Nat) (hj : j ≤ N) : from_ j l ≤ fails (driveS N (fun _ => false) l) + (N - j) := by
  have h1 := from_le j hj l (fun _ => false)
  have h2 := cnt_le (endS N (fun _ => false) l) (N - j) j
  omega
theorem defect_at {N : Nat} (l : List Nat) (hl : ∀ a ∈ l, a < N) (h : 0 < fails (driveS N (fun _ => false) l)) : ∃ j, j < N ∧ from_ j l = fails (driveS N (fun _ => false) l) + (N - j) := by
  have hN : 0 < N := by
    cases l with
    | nil => simp [driveS, fails] at h
    | cons a l => have := hl a (by simp); omega
  have hlast := driveS_fail l _ hl h
  generalize hE : endS N (fun _ => false) l = E at hlast
  have ex : ∀ d, d < N → (∀ q, N - 1 - d < q → q < N → E q = true) → ∃ j, j < N ∧ (∀ q, j ≤ q → q < N → E q = true) ∧ (j = 0 ∨ E (j - 1) = false) := by
    intro d hd
    -- go down from N - 1 - d
    have : ∀ (f : Nat) (hf : f < N), (∀ q, f < q → q < N → E q = true) → E f = true → ∃ j, j < N ∧ (∀ q, j ≤ q → q < N → E q = true) ∧ (j = 0 ∨ E (j - 1) = false) := by
      intro f
      induction f with
      | zero => intro hf h1 h2; exact ⟨0, hf, (fun q _ h4 => by
          rcases Nat.eq_zero_or_pos q with h5 | h5
          · rw [h5]; exact h2
          · exact h1 q h5 h4), .inl rfl⟩
      | succ f ih =>
        intro hf h1 h2
        cases hq : E f with
        | true => exact ih (by omega) (fun q h3 h4 => by
            rcases Nat.lt_or_ge (f + 1) q with h5 | h5
            · exact h1 q h5 h4
            · have : q = f + 1 := by omega
              rw [this]; exact h2) hq
        | false => exact ⟨f + 1, hf, (fun q h3 h4 => by
            rcases Nat.lt_or_ge (f + 1) q with h5 | h5
            · exact h1 q h5 h4
            · have : q = f + 1 := by omega
              rw [this]; exact h2), .inr hq⟩
    intro _
    exact this (N - 1) (by omega) (fun q h1 h2 => by omega) hlast
  obtain ⟨j, h1, h2, h3⟩ := ex 0 hN (fun q h1 h2 => by omega)
  refine ⟨j, h1, ?_⟩
  have := from_eq (N := N) j (by omega) l (fun _ => false) hl (by rw [hE]; exact h3)
  rw [hE, cnt_full (S := E) (N - j) j (fun q h4 h5 => h2 q h4 (by omega))] at this
  have hz : cnt (fun _ => false) (N - j) j = 0 := by
    have : ∀ d a, cnt (fun _ => false) d a = 0 := by
      intro d
      induction d with
      | zero => intro a; rfl
      | succ d ih => intro a; unfold cnt; rw [ih]; simp
    exact this _ _
  omega
end ParkT
namespace Go.Proofs.Ytbncolgpgabjcaa.G
open Go.RowKit Go.Proofs.YtbncolgpgabjcaaW.PrintWords Go.Proofs.YtbncolgpgabjcaaW.PrintLast Go.Proofs.YtbncolgpgabjcaaW.PrintMore
set_option linter.unusedVariables false
set_option linter.unusedSimpArgs false
/-- Every car finds a place. -/
def allP (N : Nat) : (Nat → Bool) → List Nat → Bool
  | _, [] => true
  | S, a :: l => match ParkT.fwdF S (N - a) a with
    | none => false
    | some p => allP N (ParkT.put S p) l
theorem allP_lt {N : Nat} : ∀ (l : List Nat) (S : Nat → Bool), allP N S l = true → ∀ a ∈ l, a < N
  | [], _, _, a, h => by simp at h
  | b :: l, S, h, a, ha => by
    rw [allP] at h
    cases e : ParkT.fwdF S (N - b) b with
    | none => rw [e] at h; cases h
    | some p =>
      rw [e] at h
      have hb := ParkT.fwdF_some e
      rcases List.mem_cons.1 ha with rfl | ha
      · omega
      · exact allP_lt l _ h a ha
def valP : Option Nat → Int
  | none => -1
  | some p => p
theorem allP_iff {N : Nat} : ∀ (l : List Nat) (S : Nat → Bool), allP N S l = !decide ((-1 : Int) ∈ (ParkT.driveS N S l).map valP)
  | [], _ => by simp [allP, ParkT.driveS]
  | a :: l, S => by
    rw [allP, ParkT.driveS]
    cases e : ParkT.fwdF S (N - a) a with
    | none => simp [valP]
    | some p =>
      simp only [List.map_cons, List.mem_cons, valP, allP_iff l]
      congr 1
      have : ¬ ((-1 : Int) = (p : Int)) := by omega
      simp [this]
def occ (x : List Int) (q : Nat) : Bool := decide ((q : Int) ∈ x)
theorem occ_none (x : List Int) : occ (x ++ [-1]) = occ x := by
  funext q
  unfold occ
  have : ¬ ((q : Int) = -1) := by omega
  simp [this]
theorem occ_some (x : List Int) (p : Nat) : occ (x ++ [(p : Int)]) = ParkT.put (occ x) p := by
  funext q
  unfold occ ParkT.put
  have : ((q : Int) = (p : Int)) ↔ q = p := by omega
  simp [this, Bool.or_comm]
theorem l1Has_l0 (x : List Int) (a : Int) (hn : x.length ≤ 4611686018427387904) : ∀ (d i : Nat), i + d = x.length → Ev (fun k => spec_l1Has.l0 k a x (x.length : Int) i) (decide (a ∈ x.drop i)) := by
  intro d
  induction d with
  | zero =>
    intro i hd
    refine Ev.end_ fun k => ?_
    rw [spec_l1Has.l0, if_neg (by omega), List.drop_eq_nil_of_le (by omega)]
    simp
  | succ d ih =>
    intro i hd
    have e1 := drop_getD (l := x) (i := i) (by omega)
    by_cases h : x.getD i 0 = a
    · refine Ev.end_ fun k => ?_
      rw [spec_l1Has.l0, if_pos (by omega), if_pos (by omega), if_pos (by omega), rd_nat, if_pos h, e1, h, decide_eq_true (List.mem_cons_self)]
    · refine Ev.one (f := fun k => spec_l1Has.l0 k a x (x.length : Int) ((i + 1 : Nat) : Int)) ?_ fun k => ?_
      · have := ih (i + 1) (by omega)
        have e : decide (a ∈ x.drop i) = decide (a ∈ x.drop (i + 1)) := by
          rw [e1]
          have : ¬ a = x.getD i 0 := fun e => h e.symm
          simp only [List.mem_cons, this, false_or]
        rw [e]; exact this
      · rw [spec_l1Has.l0, if_pos (by omega), if_pos (by omega), if_pos (by omega), rd_nat, if_neg h, wrap_next (n := x.length) (by omega) hn]
theorem l1Has_ev (x : List Int) (a : Int) (hn : x.length ≤ 4611686018427387904) : Ev (fun k => spec_l1Has.f k x a) (decide (a ∈ x)) := by
  unfold spec_l1Has.f
  have := l1Has_l0 x a hn x.length 0 (by omega)
  simpa using this
theorem paDrive_l1 (N : Nat) (hN : N ≤ 1000) (x l : List Int) (hx : x.length ≤ 1000) (len : Int) (i : Int) (r : List Int) : ∀ (d a : Nat), a + d = N → Ev (fun k => spec_paDrive.l0 k (N : Int) (x ++ [valP (ParkT.fwdF (occ x) d a)]) l len (wrap64 (i + 1))) r → Ev (fun k => spec_paDrive.l1 k (N : Int) x (a : Int) l len i) r := by
  intro d
  induction d with
  | zero =>
    intro a ha h
    refine Ev.one h fun k => ?_
    rw [spec_paDrive.l1, if_neg (by omega), if_pos (by omega), if_pos (by omega)]
    rfl
  | succ d ih =>
    intro a ha h
    rw [ParkT.fwdF] at h
    refine Ev.step (f := fun k => (spec_l1Has.f k x (a : Int)).bind fun t369 => (if t369 = true then (spec_paDrive.l1 k (N : Int) x ((a + 1 : Nat) : Int) l len i) else (spec_paDrive.l0 k (N : Int) (x ++ [(a : Int)]) l len (wrap64 (i + 1))))) (fun k => by rw [spec_paDrive.l1, if_pos (by omega), wrap_next (n := N) (by omega) (by omega), if_neg (show ¬ ((a : Int) ≥ (N : Int)) by omega), if_pos (by omega)]) ?_
    refine Ev.bind (l1Has_ev x _ (by omega)) ?_
    by_cases hh : occ x a = true
    · rw [if_neg (by rw [hh]; simp)] at h
      have e : decide ((a : Int) ∈ x) = true := hh
      simp only [e, if_true]
      exact ih (a + 1) (by omega) h
    · rw [if_pos (by simpa using hh)] at h
      have e : decide ((a : Int) ∈ x) = false := by simpa [occ] using hh
      simp only [e, Bool.false_eq_true, if_false]
      exact h
def natL (l : List Int) : List Nat := l.map Int.toNat
theorem paDrive_l0 (l : List Int) (N : Nat) (hN : N ≤ 1000) (hl : l.length ≤ 900) (hr : ∀ j, j < l.length → 0 ≤ l.getD j 0 ∧ l.getD j 0 ≤ N) : ∀ (d i : Nat) (x : List Int), i + d = l.length → x.length ≤ i → Ev (fun k => spec_paDrive.l0 k (N : Int) x l (l.length : Int) i) (x ++ (ParkT.driveS N (occ x) (natL (l.drop i))).map valP) := by
  intro d
  induction d with
  | zero =>
    intro i x hd hx
    refine Ev.end_ fun k => ?_
    rw [spec_paDrive.l0, if_neg (by omega), List.drop_eq_nil_of_le (by omega)]
    simp [natL, ParkT.driveS]
  | succ d ih =>
    intro i x hd hx
    have hi : i < l.length := by omega
    have hri := hr i hi
    obtain ⟨a, ha⟩ : ∃ a : Nat, l.getD i 0 = a := ⟨(l.getD i 0).toNat, by omega⟩
    refine Ev.one (f := fun k => spec_paDrive.l1 k (N : Int) x (a : Int) l (l.length : Int) (i : Int)) ?_ fun k => by rw [spec_paDrive.l0, if_pos (by omega), if_pos (by omega), if_pos (by omega), rd_nat, ha]
    refine paDrive_l1 N hN x l (by omega) _ _ _ (N - a) a (by omega) ?_
    rw [wrap_next (n := l.length) hi (by omega)]
    have := ih (i + 1) (x ++ [valP (ParkT.fwdF (occ x) (N - a) a)]) (by omega) (by simp; omega)
    have e : x ++ (ParkT.driveS N (occ x) (natL (l.drop i))).map valP = x ++ [valP (ParkT.fwdF (occ x) (N - a) a)] ++ (ParkT.driveS N (occ (x ++ [valP (ParkT.fwdF (occ x) (N - a) a)])) (natL (l.drop (i + 1)))).map valP := by
      rw [drop_getD hi, ha]
      show x ++ (ParkT.driveS N (occ x) ((a : Int).toNat :: natL (l.drop (i + 1)))).map valP = _
      rw [Int.toNat_natCast, ParkT.driveS]
      cases hf : ParkT.fwdF (occ x) (N - a) a with
      | none => simp [valP, occ_none]
      | some p => simp [valP, occ_some]
    rw [e]
    exact this
def parkB (l : List Int) : Bool := decide (l.length ≤ 8) && (l.all fun x => decide (0 ≤ x ∧ x ≤ (l.length : Int) - 1)) && allP l.length (fun _ => false) (natL l)
theorem all_get {l : List Int} {lo hi : Int} (h : (l.all fun x => decide (lo ≤ x ∧ x ≤ hi)) = true) {j : Nat} (hj : j < l.length) : lo ≤ l.getD j 0 ∧ l.getD j 0 ≤ hi := by
  rw [List.all_eq_true] at h
  have := h l[j] (List.getElem_mem hj)
  rw [List.getD_eq_getElem?_getD, List.getElem?_eq_getElem hj]
  simpa using this
theorem paParking_ev (l : List Int) (hn : l.length ≤ 4611686018427387904) : Ev (fun k => spec_paParking.f k l) (parkB l) := by
  unfold spec_paParking.f parkB
  by_cases h8 : l.length ≤ 8
  · simp only [show ((l.length : Int) ≤ 8) from by omega, if_true]
    rw [decide_eq_true h8, Bool.true_and, wrap_id (x := (l.length : Int) - 1) (by omega) (by omega)]
    refine Ev.bind (l1All_ev l _ _ hn) ?_
    cases ha : (l.all fun x => decide (0 ≤ x ∧ x ≤ (l.length : Int) - 1)) with
    | false => simp only [Bool.false_eq_true, if_false, Bool.false_and]; exact Ev.now _
    | true =>
      simp only [if_true, Bool.true_and]
      unfold spec_paAll.f
      have hd : Ev (fun k => spec_paDrive.f k l (l.length : Int)) ((ParkT.driveS l.length (fun _ => false) (natL l)).map valP) := by
        unfold spec_paDrive.f
        have := paDrive_l0 l l.length (by omega) (by omega) (fun j hj => by have := all_get ha hj; omega) l.length 0 [] (by omega) (by simp)
        have eo : occ [] = fun _ => false := by funext q; simp [occ]
        rw [eo] at this
        simpa using this
      have hlen : ∀ (l : List Nat) (N : Nat) (S : Nat → Bool), (ParkT.driveS N S l).length = l.length := by
        intro l
        induction l with
        | nil => intro N S; rfl
        | cons a l ih =>
          intro N S
          rw [ParkT.driveS]
          cases ParkT.fwdF S (N - a) a <;> simp [ih]
      refine Ev.bind ?_ (Ev.now _)
      refine Ev.bind hd ?_
      refine Ev.bind (l1Has_ev _ _ (by rw [List.length_map, hlen]; simp [natL]; omega)) ?_
      rw [allP_iff]
      exact Ev.now _
  · simp only [show ¬ ((l.length : Int) ≤ 8) from by omega, if_false]
    rw [decide_eq_false h8, Bool.false_and, Bool.false_and]
    exact Ev.now _
def taken (x : List Bool) (q : Nat) : Bool := x.getD q false
theorem drive_l1 (N : Nat) (hN : N ≤ 1000) (x : List Bool) (hx : x.length = N) (o l : List Int) (ho : o.length ≤ 1000) (len i : Int) (r : List Int × Bool) :
    ∀ (d a : Nat), a + d = N → (match ParkT.fwdF (taken x) d a with | none => r = ([], false) | some p => Ev (fun k => impl_drive.l0 k (N : Int) (x.set p true) (o ++ [(p : Int)]) l len (wrap64 (i + 1))) r) → Ev (fun k => impl_drive.l1 k (N : Int) x o (a : Int) l len i) r := by
  intro d
  induction d with
  | zero =>
    intro a ha h
    rw [ParkT.fwdF] at h
    subst h
    exact Ev.end_ fun k => by rw [impl_drive.l1, if_neg (by omega), if_pos (by omega)]
  | succ d ih =>
    intro a ha h
    rw [ParkT.fwdF] at h
    have hrd : rdOf false x (a : Int) = taken x a := by simp [rdOf, taken]
    by_cases hh : taken x a = true
    · rw [if_neg (by rw [hh]; simp)] at h
      refine Ev.one (ih (a + 1) (by omega) h) fun k => ?_
      rw [impl_drive.l1, if_pos (by omega), if_pos (by omega), if_pos (by omega), if_pos (by rw [hrd]; exact hh), wrap_next (n := N) (by omega) (by omega)]
    · rw [if_pos (by simpa using hh)] at h
      simp only at h
      refine Ev.one h fun k => ?_
      rw [impl_drive.l1, if_pos (by omega), if_pos (by omega), if_pos (by omega), if_neg (by rw [hrd]; exact hh), if_neg (by omega), if_pos (by omega), Int.toNat_natCast]
theorem drive_past (N : Nat) (x : List Bool) (o l : List Int) (len i a : Int) (ha : (N : Int) ≤ a) : Ev (fun k => impl_drive.l1 k (N : Int) x o a l len i) (([] : List Int), false) :=
  Ev.end_ fun k => by rw [impl_drive.l1, if_neg (by omega), if_pos (by omega)]
theorem taken_set {x : List Bool} {p : Nat} (hp : p < x.length) : taken (x.set p true) = ParkT.put (taken x) p := by
  funext q
  show (x.set p true).getD q false = (decide (q = p) || x.getD q false)
  rw [List.getD_eq_getElem?_getD, List.getD_eq_getElem?_getD, List.getElem?_set]
  by_cases e : p = q
  · subst e; simp [hp]
  · have : ¬ q = p := fun h => e h.symm
    simp [e, this]
/-- The places, where every car finds one. -/
def outP' (N : Nat) : (Nat → Bool) → List Nat → List Int
  | _, [] => []
  | S, a :: l => match ParkT.fwdF S (N - a) a with
    | none => []
    | some p => (p : Int) :: outP' N (ParkT.put S p) l
theorem drive_l0 (l : List Int) (N : Nat) (hN : N ≤ 1000) (hl : l.length ≤ 900) (hr : ∀ j, j < l.length → 0 ≤ l.getD j 0) : ∀ (d i : Nat) (x : List Bool) (o : List Int), i + d = l.length → x.length = N → o.length ≤ i → Ev (fun k => impl_drive.l0 k (N : Int) x o l (l.length : Int) i) (if allP N (taken x) (natL (l.drop i)) = true then (o ++ outP' N (taken x) (natL (l.drop i)), true) else ([], false)) := by
  intro d
  induction d with
  | zero =>
    intro i x o hd hx ho
    refine Ev.end_ fun k => ?_
    rw [impl_drive.l0, if_neg (by omega), List.drop_eq_nil_of_le (by omega)]
    simp [natL, allP, outP']
  | succ d ih =>
    intro i x o hd hx ho
    have hi : i < l.length := by omega
    have hri := hr i hi
    obtain ⟨a, ha⟩ : ∃ a : Nat, l.getD i 0 = a := ⟨(l.getD i 0).toNat, by omega⟩
    refine Ev.one (f := fun k => impl_drive.l1 k (N : Int) x o (a : Int) l (l.length : Int) (i : Int)) ?_ fun k => by rw [impl_drive.l0, if_pos (by omega), if_pos (by omega), if_pos (by omega), rd_nat, ha]
    have e0 : natL (l.drop i) = a :: natL (l.drop (i + 1)) := by
      rw [drop_getD hi, ha]
      show (a : Int).toNat :: natL (l.drop (i + 1)) = _
      rw [Int.toNat_natCast]
    rw [e0, allP, outP']
    by_cases hlt : a < N
    · refine drive_l1 N hN x hx o l (by omega) _ _ _ (N - a) a (by omega) ?_
      cases hf : ParkT.fwdF (taken x) (N - a) a with
      | none => simp
      | some p =>
        have hp := ParkT.fwdF_some hf
        simp only
        rw [wrap_next (n := l.length) hi (by omega)]
        have := ih (i + 1) (x.set p true) (o ++ [(p : Int)]) (by omega) (by simpa using hx) (by simp; omega)
        rw [taken_set (by omega)] at this
        simpa using this
    · have e1 : N - a = 0 := by omega
      rw [e1, ParkT.fwdF]
      simp only [Bool.false_eq_true, if_false]
      exact drive_past N x o l _ _ _ (by omega)
theorem isParking_ev (l : List Int) : Ev (fun k => impl_isParking.f k l) (parkB l) := by
  unfold impl_isParking.f impl_areCars.f
  by_cases h8 : l.length ≤ 8
  · simp only [show ((l.length : Int) ≤ 8) from by omega, if_true, impl_areBetween.f, Option.bind_some]
    cases hb : (l.all fun x => decide (0 ≤ x) && decide (x ≤ 99)) with
    | false =>
      simp only [Bool.false_eq_true, if_false]
      have : parkB l = false := by
        unfold parkB
        rw [decide_eq_true h8, Bool.true_and]
        have h1 : (l.all fun x => decide (0 ≤ x ∧ x ≤ (l.length : Int) - 1)) = false := by
          rw [List.all_eq_false] at hb ⊢
          obtain ⟨x, hx, hn⟩ := hb
          refine ⟨x, hx, ?_⟩
          simp at hn ⊢
          omega
        rw [h1, Bool.false_and]
      rw [this]
      exact Ev.now _
    | true =>
      simp only [if_true]
      have hr : ∀ j, j < l.length → 0 ≤ l.getD j 0 := by
        intro j hj
        rw [List.all_eq_true] at hb
        have := hb l[j] (List.getElem_mem hj)
        rw [List.getD_eq_getElem?_getD, List.getElem?_eq_getElem hj]
        simp at this ⊢
        exact this.1
      have hd : Ev (fun k => impl_drive.f k l (l.length : Int)) (if allP l.length (fun _ => false) (natL l) = true then (outP' l.length (fun _ => false) (natL l), true) else ([], false)) := by
        unfold impl_drive.f
        simp only [show (0 : Int) ≤ (l.length : Int) by omega, Int.toNat_natCast, show l.length ≤ 281474976710656 by omega, if_true]
        have := drive_l0 l l.length (by omega) (by omega) hr l.length 0 (List.replicate l.length false) [] (by omega) (by simp) (by simp)
        have et : taken (List.replicate l.length false) = fun _ => false := by
          funext q
          unfold taken
          rw [List.getD_eq_getElem?_getD, List.getElem?_replicate]
          split <;> rfl
        rw [et] at this
        simpa using this
      refine Ev.bind hd ?_
      have e : parkB l = allP l.length (fun _ => false) (natL l) := by
        unfold parkB
        rw [decide_eq_true h8, Bool.true_and]
        cases ha : allP l.length (fun _ => false) (natL l) with
        | false => rw [Bool.and_false]
        | true =>
          rw [Bool.and_true, List.all_eq_true]
          intro x hx
          have h1 := allP_lt _ _ ha x.toNat (List.mem_map.2 ⟨x, hx, rfl⟩)
          obtain ⟨j, hj, rfl⟩ := List.getElem_of_mem hx
          have h2 := hr j hj
          rw [List.getD_eq_getElem?_getD, List.getElem?_eq_getElem hj] at h2
          simp at h2
          exact decide_eq_true (by omega)
      rw [e]
      cases allP l.length (fun _ => false) (natL l) with
      | true => simp only [if_true]; exact Ev.now _
      | false => simp only [Bool.false_eq_true, if_false]; exact Ev.now _
  · simp only [show ¬ ((l.length : Int) ≤ 8) from by omega, if_false, Option.bind_some, Bool.false_eq_true]
    unfold parkB
    rw [decide_eq_false h8, Bool.false_and, Bool.false_and]
    exact Ev.now _
theorem parkB_get {l : List Int} (h : parkB l = true) : l.length ≤ 8 ∧ ∀ j, -1000000 ≤ l.getD j 0 ∧ l.getD j 0 ≤ 1000000 := by
  unfold parkB at h
  simp only [Bool.and_eq_true, decide_eq_true_eq] at h
  obtain ⟨⟨h1, h2⟩, _⟩ := h
  refine ⟨h1, fun j => ?_⟩
  rcases Nat.lt_or_ge j l.length with hj | hj
  · have := all_get h2 hj; omega
  · rw [List.getD_eq_getElem?_getD, List.getElem?_eq_none hj]; simp
theorem spec_l1Same_l0 (a b : List Int) (hl : a.length = b.length) (hn : a.length ≤ 4611686018427387904) : ∀ (d i : Nat), i + d = a.length → Ev (fun k => spec_l1Same.l0 k a b (a.length : Int) i) (decide (a.drop i = b.drop i)) := by
  intro d
  induction d with
  | zero =>
    intro i hd
    refine Ev.end_ fun k => ?_
    rw [spec_l1Same.l0, if_neg (by omega), List.drop_eq_nil_of_le (by omega), List.drop_eq_nil_of_le (by omega)]
    simp
  | succ d ih =>
    intro i hd
    have e1 := drop_getD (l := a) (i := i) (by omega)
    have e2 := drop_getD (l := b) (i := i) (by omega)
    by_cases h : a.getD i 0 = b.getD i 0
    · refine Ev.one (f := fun k => spec_l1Same.l0 k a b (a.length : Int) ((i + 1 : Nat) : Int)) ?_ fun k => ?_
      · have := ih (i + 1) (by omega)
        have e : decide (a.drop i = b.drop i) = decide (a.drop (i + 1) = b.drop (i + 1)) := by rw [e1, e2, h]; simp
        rw [e]; exact this
      · rw [spec_l1Same.l0, if_pos (by omega), if_pos (by omega), if_pos (by omega), if_pos (by omega), rd_nat, rd_nat, if_pos h, wrap_next (n := a.length) (by omega) hn]
    · refine Ev.end_ fun k => ?_
      rw [spec_l1Same.l0, if_pos (by omega), if_pos (by omega), if_pos (by omega), if_pos (by omega), rd_nat, rd_nat, if_neg h, e1, e2, decide_eq_false (fun e => h (List.cons.inj e).1)]
theorem spec_l1Same_ev (a b : List Int) (hn : a.length ≤ 4611686018427387904) : Ev (fun k => spec_l1Same.f k a b) (decide (a = b)) := by
  unfold spec_l1Same.f
  by_cases h : a.length = b.length
  · simp only [show ((a.length : Int) = (b.length : Int)) from by omega, if_true]
    have := spec_l1Same_l0 a b h hn a.length 0 (by omega)
    simpa [h] using this
  · simp only [show ¬ ((a.length : Int) = (b.length : Int)) from by omega, if_false]
    have e : decide (a = b) = false := decide_eq_false (fun e => h (by rw [e]))
    rw [e]; exact Ev.now _
theorem slices_Equal_int_int_l0 (a b : List Int) (hl : a.length = b.length) (hn : a.length ≤ 4611686018427387904) : ∀ (d i : Nat), i + d = a.length → Ev (fun k => slices_Equal_int_int.l0 k a b (a.length : Int) i) (decide (a.drop i = b.drop i)) := by
  intro d
  induction d with
  | zero =>
    intro i hd
    refine Ev.end_ fun k => ?_
    rw [slices_Equal_int_int.l0, if_neg (by omega), List.drop_eq_nil_of_le (by omega), List.drop_eq_nil_of_le (by omega)]
    simp
  | succ d ih =>
    intro i hd
    have e1 := drop_getD (l := a) (i := i) (by omega)
    have e2 := drop_getD (l := b) (i := i) (by omega)
    by_cases h : a.getD i 0 = b.getD i 0
    · refine Ev.one (f := fun k => slices_Equal_int_int.l0 k a b (a.length : Int) ((i + 1 : Nat) : Int)) ?_ fun k => ?_
      · have := ih (i + 1) (by omega)
        have e : decide (a.drop i = b.drop i) = decide (a.drop (i + 1) = b.drop (i + 1)) := by rw [e1, e2, h]; simp
        rw [e]; exact this
      · rw [slices_Equal_int_int.l0, if_pos (by omega), if_pos (by omega), if_pos (by omega), if_pos (by omega), rd_nat, rd_nat, if_pos h, wrap_next (n := a.length) (by omega) hn]
    · refine Ev.end_ fun k => ?_
      rw [slices_Equal_int_int.l0, if_pos (by omega), if_pos (by omega), if_pos (by omega), if_pos (by omega), rd_nat, rd_nat, if_neg h, e1, e2, decide_eq_false (fun e => h (List.cons.inj e).1)]
theorem slices_Equal_int_int_ev (a b : List Int) (hn : a.length ≤ 4611686018427387904) : Ev (fun k => slices_Equal_int_int.f k a b) (decide (a = b)) := by
  unfold slices_Equal_int_int.f
  by_cases h : a.length = b.length
  · simp only [show ((a.length : Int) = (b.length : Int)) from by omega, if_true]
    have := slices_Equal_int_int_l0 a b h hn a.length 0 (by omega)
    simpa [h] using this
  · simp only [show ¬ ((a.length : Int) = (b.length : Int)) from by omega, if_false]
    have e : decide (a = b) = false := decide_eq_false (fun e => h (by rw [e]))
    rw [e]; exact Ev.now _
theorem reOnes_ev (n : Nat) (hn : n ≤ 1000) : Ev (fun k => spec_reOnes.f k (n : Int)) (SandT.ones n) := by
  unfold spec_reOnes.f
  have := Ev.up0 n (fun q => List.replicate q (1 : Int)) (fun k s q => spec_reOnes.l0 k (n : Int) s q) (SandT.ones n) (fun q hq h => Ev.one h fun k => ?_) (Ev.end_ fun k => ?_)
  · exact this
  · rw [spec_reOnes.l0, if_pos (by omega), if_pos (by rw [List.length_replicate]; omega), wrap_next (n := n) hq (by omega), ← List.replicate_succ']
  · rw [spec_reOnes.l0, if_neg (by omega)]; rfl
def recB (l : List Int) : Bool := (l.all fun x => decide (x < l.length)) && decide ((SandT.stab (SandT.more l)).1 = l)
theorem more_mild {l : List Int} (h : sandB l = true) : Mild (SandT.more l) := by
  have := sandB_len h
  refine mild_of (by simpa using (by omega : l.length ≤ 1000)) fun j => ?_
  rcases Nat.lt_or_ge j l.length with hj | hj
  · rw [SandT.get_more l j hj]; have := sandB_get h j; omega
  · rw [List.getD_eq_getElem?_getD, List.getElem?_eq_none (by simpa using hj)]; simp
theorem ones_range (n j : Nat) : -1000000 ≤ (SandT.ones n).getD j 0 ∧ (SandT.ones n).getD j 0 ≤ 1000000 := by
  have := get_repl_range n 1 (by omega) j
  unfold SandT.ones; omega
theorem reAgain_ev {l : List Int} (h : sandB l = true) : Ev (fun k => spec_reAgain.f k l) (recB l) := by
  have hl := sandB_len h
  unfold spec_reAgain.f recB
  refine Ev.bind (reOnes_ev l.length (by omega)) ?_
  refine Ev.bind (rePlus_ev (by simp [SandT.ones]) (by omega) (sandB_mild h).get (ones_range _)) ?_
  show Ev (fun k => (spec_reSettle.f k (SandT.more l)).bind _) _
  refine Ev.bind (reSettle_ev (more_mild h)) ?_
  refine Ev.bind (reSand_ev l (by omega)) ?_
  simp only [h, if_true]
  refine Ev.bind (reFirst_ev l (by omega)) ?_
  have e := firstI_neg l
  by_cases hf : firstI l < 0
  · simp only [hf, if_true]
    simp only [hf, decide_true] at e
    rw [← e, Bool.true_and]
    refine Ev.bind (spec_l1Same_ev _ _ (by simp; omega)) ?_
    exact Ev.now _
  · simp only [hf, if_false]
    simp only [hf, decide_false] at e
    rw [← e, Bool.false_and]
    exact Ev.now _
def recV (l : List Int) : Bool × Bool := if sandB l = true then (recB l, true) else (false, false)
theorem spec_IsRecurrent_ev (l : List Int) (hn : l.length ≤ 4611686018427387904) : Ev (fun k => spec_IsRecurrent.f k l) (recV l) := by
  unfold spec_IsRecurrent.f recV
  refine Ev.bind (reSand_ev l hn) ?_
  by_cases h : sandB l = true
  · simp only [h, if_true]
    refine Ev.bind (reAgain_ev h) ?_
    exact Ev.now _
  · simp only [h, Bool.false_eq_true, if_false]
    exact Ev.now _
theorem burn_ev {l : List Int} (h : sandB l = true) : Ev (fun k => impl_burn.f k l) ((SandT.stab (SandT.more l)).1, asI (SandT.stab (SandT.more l)).2) := by
  have hl := sandB_len h
  unfold impl_burn.f
  simp only [Repeat_eq 1 l.length (by omega), Option.bind_some]
  refine Ev.bind (added_ev (b := SandT.ones l.length) (by simp [SandT.ones]) (by omega) (sandB_mild h).get (ones_range _)) ?_
  show Ev (fun k => (impl_settle.f (SandT.more l)).bind fun bt => some (bt.1, bt.2)) _
  simp only [settle_eq (more_mild h), Option.bind_some]
  exact Ev.now _
theorem isRecurrent_ev (l : List Int) : Ev (fun k => impl_isRecurrent.f k l) (sandB l && recB l) := by
  unfold impl_isRecurrent.f
  simp only [isSand_eq, Option.bind_some]
  by_cases h : sandB l = true
  · have hl := sandB_len h
    simp only [h, if_true, Bool.true_and, impl_isStable.f, Option.bind_some, recB]
    cases hs : (l.all fun x => decide (x < l.length)) with
    | true =>
      refine Ev.step (f := fun k => (impl_burn.f k l).bind fun bt => ((slices_Equal_int_int.f k bt.1 l).bind fun t => some t)) (fun k => by rw [impl_isRecurrent.j0, if_neg (by simp)]) ?_
      refine Ev.bind (burn_ev h) ?_
      refine Ev.bind (slices_Equal_int_int_ev _ _ (by simp; omega)) ?_
      rw [Bool.true_and]
      exact Ev.now _
    | false => exact Ev.end_ fun k => by rw [impl_isRecurrent.j0, if_pos (by simp)]; simp
  · simp only [h, Bool.false_eq_true, if_false, Bool.not_eq_true _ ▸ h]
    have h' : sandB l = false := by simpa using h
    rw [Bool.false_and]
    exact Ev.end_ fun k => by rw [impl_isRecurrent.j0, if_pos rfl]
theorem impl_IsRecurrent_ev (l : List Int) : Ev (fun k => impl_IsRecurrent.f k l) (recV l) := by
  unfold impl_IsRecurrent.f recV
  simp only [isSand_eq, Option.bind_some]
  by_cases h : sandB l = true
  · simp only [h, if_true]
    refine Ev.bind (isRecurrent_ev l) ?_
    rw [h, Bool.true_and]
    exact Ev.now _
  · simp only [h, Bool.false_eq_true, if_false]
    exact Ev.now _
theorem r_all (c : List Int) : (c.all fun x => decide (x < c.length)) = true ↔ SandT.Stable c := by
  rw [List.all_eq_true]
  constructor
  · intro h j hj
    have := h c[j] (List.getElem_mem hj)
    rw [List.getD_eq_getElem?_getD, List.getElem?_eq_getElem hj]
    simpa using this
  · intro h x hx
    obtain ⟨j, hj, rfl⟩ := List.getElem_of_mem hx
    have := h j hj
    rw [List.getD_eq_getElem?_getD, List.getElem?_eq_getElem hj] at this
    simpa using this
theorem r_rec (l : List Int) : recB l = true ↔ SandT.Rec l := by
  unfold recB SandT.Rec
  rw [Bool.and_eq_true, r_all, decide_eq_true_iff]
theorem allP_fails {N : Nat} : ∀ (l : List Nat) (S : Nat → Bool), allP N S l = true ↔ ParkT.fails (ParkT.driveS N S l) = 0
  | [], _ => by simp [allP, ParkT.driveS, ParkT.fails]
  | a :: l, S => by
    rw [allP, ParkT.driveS]
    cases e : ParkT.fwdF S (N - a) a with
    | none => simp [ParkT.fails_cons_none]
    | some p => simp only [ParkT.fails_cons_some]; exact allP_fails l _
theorem allP_from {N : Nat} {l : List Nat} (hl : ∀ a ∈ l, a < N) : allP N (fun _ => false) l = true ↔ ∀ j, j ≤ N → ParkT.from_ j l ≤ N - j := by
  rw [allP_fails]
  constructor
  · intro h j hj
    have := ParkT.defect_le l j hj
    omega
  · intro h
    rcases Nat.eq_zero_or_pos (ParkT.fails (ParkT.driveS N (fun _ => false) l)) with h0 | h0
    · exact h0
    · obtain ⟨j, hj, e⟩ := ParkT.defect_at l hl h0
      have := h j (by omega)
      omega
theorem from_turned {c : List Int} (hs : ∀ x ∈ c, 0 ≤ x ∧ x < c.length) (j : Nat) (hj : j ≤ c.length) : ParkT.from_ j (natL (turned c)) = SandT.less ((c.length - j : Nat) : Int) c := by
  unfold ParkT.from_ SandT.less natL turned
  rw [List.map_map, List.filter_map, List.length_map]
  congr 1
  apply List.filter_congr
  intro x hx
  have := hs x hx
  simp only [Function.comp]
  rw [Bool.eq_iff_iff, decide_eq_true_iff, decide_eq_true_iff]
  omega
theorem stable_mem {c : List Int} (h : sandB c = true) (hst : SandT.Stable c) : ∀ x ∈ c, 0 ≤ x ∧ x < c.length := by
  intro x hx
  obtain ⟨j, hj, rfl⟩ := List.getElem_of_mem hx
  have h1 := sandB_get h j
  have h2 := hst j hj
  rw [List.getD_eq_getElem?_getD, List.getElem?_eq_getElem hj] at h1 h2
  simp at h1 h2
  omega
theorem turned_range {c : List Int} (hs : ∀ x ∈ c, 0 ≤ x ∧ x < c.length) : (turned c).all (fun x => decide (0 ≤ x ∧ x ≤ (c.length : Int) - 1)) = true := by
  rw [List.all_eq_true]
  intro x hx
  obtain ⟨y, hy, rfl⟩ := List.mem_map.1 hx
  have := hs y hy
  exact decide_eq_true (by omega)
/-- Stable sand is recurrent just when its mirror parks. -/
theorem rec_park {c : List Int} (h : sandB c = true) (hst : SandT.Stable c) : recB c = parkB (turned c) := by
  have hs := stable_mem h hst
  have hl := sandB_len h
  rw [Bool.eq_iff_iff, r_rec, SandT.rec_iff hst (sandB_nn h)]
  unfold parkB
  rw [turned_len, decide_eq_true hl, Bool.true_and, turned_range hs, Bool.true_and, allP_from]
  · constructor
    · intro hm j hj
      rw [from_turned hs j hj]
      exact hm (c.length - j) (by omega)
    · intro hp m hm
      have := hp (c.length - m) (by omega)
      rw [from_turned hs _ (by omega), show c.length - (c.length - m) = m by omega] at this
      exact this
  · intro a ha
    obtain ⟨x, hx, rfl⟩ := List.mem_map.1 ha
    have := turned_range hs
    rw [List.all_eq_true] at this
    have := this x hx
    simp at this
    omega
theorem turned_turned (c : List Int) : turned (turned c) = c := by
  apply SandT.ext_getD
  · rw [turned_len, turned_len]
  · intro j hj
    rw [turned_len, turned_len] at hj
    rw [turned_get _ (by rw [turned_len]; exact hj), turned_get _ hj, turned_len]
    omega
theorem sandB_of' {c : List Int} (hl : c.length ≤ 8) (h : ∀ x ∈ c, 0 ≤ x ∧ x ≤ 60) : sandB c = true := by
  unfold sandB
  rw [Bool.and_eq_true]
  refine ⟨decide_eq_true hl, ?_⟩
  rw [List.all_eq_true]
  intro x hx
  exact decide_eq_true (h x hx)
/-- The sand of a parking list is recurrent. -/
theorem park_rec {q : List Int} (h : parkB q = true) : sandB (turned q) = true ∧ recB (turned q) = true := by
  have h' := h
  unfold parkB at h'
  simp only [Bool.and_eq_true, decide_eq_true_eq] at h'
  obtain ⟨⟨h1, h2⟩, _⟩ := h'
  rw [List.all_eq_true] at h2
  have hr : ∀ x ∈ turned q, 0 ≤ x ∧ x ≤ (q.length : Int) - 1 := by
    intro x hx
    obtain ⟨y, hy, rfl⟩ := List.mem_map.1 hx
    have := h2 y hy
    simp at this
    omega
  have hs : sandB (turned q) = true := sandB_of' (by rw [turned_len]; exact h1) (fun x hx => by have := hr x hx; omega)
  have hst : SandT.Stable (turned q) := by
    intro j hj
    have hm : (turned q).getD j 0 ∈ turned q := by rw [List.getD_eq_getElem?_getD, List.getElem?_eq_getElem hj]; exact List.getElem_mem hj
    have := hr _ hm
    rw [turned_len]; omega
  refine ⟨hs, ?_⟩
  rw [rec_park hs hst, turned_turned]
  exact h
def Bytes (l : List Int) : Prop := ∀ x ∈ l, 0 ≤ x ∧ x ≤ 255
theorem bytes_of {l : List Int} (h : ∀ x ∈ l, (Lit.int .u8 x).wf = true) : Bytes l := by
  intro x hx
  have h2 := h x hx
  simp only [Lit.wf, Bool.and_eq_true, decide_eq_true_eq] at h2
  have e1 : IntKind.u8.min = 0 := by decide
  have e2 : IntKind.u8.max = 255 := by decide
  rw [e1, e2] at h2
  exact h2
theorem Bytes.get {l : List Int} (h : Bytes l) (j : Nat) : 0 ≤ l.getD j 0 ∧ l.getD j 0 ≤ 255 := by
  rcases Nat.lt_or_ge j l.length with hj | hj
  · exact h _ (by rw [List.getD_eq_getElem?_getD, List.getElem?_eq_getElem hj]; exact List.getElem_mem hj)
  · rw [List.getD_eq_getElem?_getD, List.getElem?_eq_none hj]; simp
theorem and255 (x : Int) : 0 ≤ Go.bits .and .u64 x 255 ∧ Go.bits .and .u64 x 255 ≤ 255 := by
  obtain ⟨a, ha⟩ : ∃ a : BitVec 64, a = BitVec.ofInt 64 x := ⟨_, rfl⟩
  have e : Go.bits .and .u64 x 255 = IntKind.u64.wrap ((BitVec.ofInt 64 x &&& BitVec.ofInt 64 255).toNat : Int) := rfl
  have hle : (BitVec.ofInt 64 x &&& BitVec.ofInt 64 255).toNat ≤ 255 := by
    rw [BitVec.toNat_and]
    exact Nat.le_trans Nat.and_le_right (by decide)
  rw [e, IntKind.wrap_u64]
  omega
theorem next_ok {l : List Int} (hb : Bytes l) (p s : Int) (h0 : 0 ≤ p) (h1 : p ≤ 1000000000000000000) : ∃ v s', spec_l1Cur_next.f l p s = some (v, p + 1, s') ∧ 0 ≤ v ∧ v ≤ 255 := by
  have hw : wrap64 (p + 1) = p + 1 := wrap_id (by omega) (by omega)
  have hr : 0 ≤ rd l p ∧ rd l p ≤ 255 := hb.get _
  unfold spec_l1Cur_next.f
  rw [hw]
  by_cases c1 : p < (l.length : Int)
  · rw [if_pos c1, if_pos h0]
    by_cases c2 : p + 1 ≤ (l.length : Int)
    · rw [if_pos c2]
      exact ⟨_, _, rfl, by rw [wrap_id (by omega) (by omega)]; exact hr⟩
    · omega
  · rw [if_neg c1]
    rw [if_neg (by omega)]
    refine ⟨_, _, rfl, ?_⟩
    have := and255 ((IntKind.u64.wrap ((IntKind.u64.wrap (IntKind.u64.wrap (s * 6364136223846793005))) + 1442695040888963407)) / 1099511627776)
    rw [wrap_id (by omega) (by omega)]
    exact this
theorem tmod_ok {v a : Int} (hv : 0 ≤ v) (ha : 0 < a) : 0 ≤ Int.tmod v a ∧ Int.tmod v a < a := by
  rw [Int.tmod_eq_emod_of_nonneg hv]
  exact ⟨Int.emod_nonneg _ (by omega), Int.emod_lt_of_pos _ ha⟩
theorem pick_ok {l : List Int} (hb : Bytes l) (p s a : Int) (h0 : 0 ≤ p) (h1 : p ≤ 100000000000000000) : ∃ r p' s', spec_l1Cur_pick.f l p s a = some (r, p', s') ∧ 0 ≤ r ∧ (r < a ∨ r = 0) ∧ p ≤ p' ∧ p' ≤ p + 2 := by
  unfold spec_l1Cur_pick.f
  by_cases c1 : a ≤ 1
  · rw [if_pos c1]
    exact ⟨0, p, s, rfl, by omega, Or.inr rfl, by omega, by omega⟩
  · rw [if_neg c1]
    obtain ⟨v, s1, e1, b1, b2⟩ := next_ok hb p s h0 (by omega)
    rw [e1, Option.bind_some]
    by_cases c2 : a > 200
    · rw [if_pos c2]
      obtain ⟨v2, s2, e2, b3, b4⟩ := next_ok hb (p + 1) s1 (by omega) (by omega)
      simp only [e2, Option.bind_some]
      rw [if_neg (by omega)]
      have hw : wrap64 (wrap64 (v * 256) + v2) = v * 256 + v2 := by rw [wrap_id (x := v * 256) (by omega) (by omega), wrap_id (by omega) (by omega)]
      have := tmod_ok (v := v * 256 + v2) (a := a) (by omega) (by omega)
      rw [hw]
      exact ⟨_, _, _, rfl, this.1, Or.inl this.2, by omega, by omega⟩
    · rw [if_neg c2, if_neg (by omega)]
      have := tmod_ok (v := v) (a := a) (by omega) (by omega)
      exact ⟨_, _, _, rfl, this.1, Or.inl this.2, by show p ≤ p + 1; omega, by show p + 1 ≤ p + 2; omega⟩
theorem among_ok {l : List Int} (hb : Bytes l) (p s : Int) (q : List Int) (hq : 0 < q.length) (h0 : 0 ≤ p) (h1 : p ≤ 100000000000000000) : ∃ v p' s', spec_l1Cur_among.f l p s q = some (v, p', s') ∧ p ≤ p' ∧ p' ≤ p + 2 := by
  obtain ⟨r, p', s', e, b1, b2, b3, b4⟩ := pick_ok hb p s (q.length : Int) h0 h1
  unfold spec_l1Cur_among.f
  rw [e, Option.bind_some]
  simp only [b1, if_true]
  rw [if_pos (by omega)]
  exact ⟨_, _, _, rfl, b3, b4⟩
theorem one_ok {l : List Int} (hb : Bytes l) (p s a : Int) (h0 : 0 ≤ p) (h1 : p ≤ 100000000000000000) : ∃ v p' s', spec_l1Cur_one.f l p s a = some (v, p', s') ∧ p ≤ p' ∧ p' ≤ p + 2 := by
  obtain ⟨r, p', s', e, b1, b2, b3, b4⟩ := pick_ok hb p s a h0 h1
  unfold spec_l1Cur_one.f
  rw [e, Option.bind_some]
  exact ⟨_, _, _, rfl, b3, b4⟩
theorem grains_l0 {l : List Int} (hb : Bytes l) (n : Nat) (hn : n ≤ 7) : ∀ (d : Nat) (x3 : List Int) (p s : Int), x3.length + d = n → 0 ≤ p → p + 2 * d ≤ 1000000000000000 → ∃ out p' s', Ev (fun k => spec_l1Cur_grains.l0 k x3 (n : Int) l p s) (out, p', s') ∧ out.length ≤ 9 ∧ p ≤ p' ∧ p' ≤ p + 2 * d + 6 := by
  intro d
  induction d with
  | zero =>
    intro x3 p s hd h0 h1
    obtain ⟨r, p1, s1, e1, b1, b2, b3, b4⟩ := pick_ok hb p s 12 h0 (by omega)
    by_cases c0 : r = 0
    · obtain ⟨v, p2, s2, e2, b5, b6⟩ := among_ok hb p1 s1 [-1, 0, 60, 61] (by simp) (by omega) (by omega)
      refine ⟨x3 ++ [v], p2, s2, Ev.end_ fun k => ?_, by simp; omega, by omega, by omega⟩
      rw [spec_l1Cur_grains.l0, if_neg (by omega), e1, Option.bind_some]
      simp only [c0, if_true]
      rw [e2, Option.bind_some, if_pos (by omega)]
    · by_cases c1 : r = 1
      · obtain ⟨v, p2, s2, e2, b5, b6, b7, b8⟩ := pick_ok hb p1 s1 2 (by omega) (by omega)
        have hw : wrap64 (8 + v) = 8 + v := wrap_id (by omega) (by omega)
        refine ⟨(List.replicate (8 + v).toNat 0).set 0 60, p2, s2, Ev.end_ fun k => ?_, by simp; omega, by omega, by omega⟩
        rw [spec_l1Cur_grains.l0, if_neg (by omega), e1, Option.bind_some]
        simp only [c0, c1, if_true, if_false]
        rw [if_neg (by omega), e2, Option.bind_some]
        simp only [hw]
        rw [if_pos (by omega), if_pos (by omega), Option.bind_some, if_pos (by rw [List.length_replicate]; omega)]
        rfl
      · refine ⟨x3, p1, s1, Ev.end_ fun k => ?_, by omega, by omega, by omega⟩
        rw [spec_l1Cur_grains.l0, if_neg (by omega), e1, Option.bind_some]
        simp only [c0, c1, if_false]
  | succ d ih =>
    intro x3 p s hd h0 h1
    obtain ⟨r, p1, s1, e1, b1, b2, b3, b4⟩ := pick_ok hb p s (wrap64 ((n : Int) + 3)) h0 (by omega)
    obtain ⟨out, p', s', he, ho, hp1, hp2⟩ := ih (x3 ++ [r]) p1 s1 (by simp; omega) (by omega) (by omega)
    refine ⟨out, p', s', Ev.one he fun k => ?_, ho, by omega, by omega⟩
    rw [spec_l1Cur_grains.l0, if_pos (by omega), e1, Option.bind_some, if_pos (by omega)]
theorem grains_ok {l : List Int} (hb : Bytes l) (p s : Int) (h0 : 0 ≤ p) (h1 : p ≤ 100000000000000) : ∃ out p' s', Ev (fun k => spec_l1Cur_grains.f k l p s) (out, p', s') ∧ out.length ≤ 9 ∧ p ≤ p' ∧ p' ≤ p + 30 := by
  obtain ⟨r, p1, s1, e1, b1, b2, b3, b4⟩ := pick_ok hb p s 7 h0 (by omega)
  obtain ⟨out, p', s', he, ho, hp1, hp2⟩ := grains_l0 hb r.toNat (by omega) r.toNat [] p1 s1 (by simp) (by omega) (by omega)
  refine ⟨out, p', s', ?_, ho, by omega, by omega⟩
  unfold spec_l1Cur_grains.f
  simp only [e1, Option.bind_some]
  rw [show (r.toNat : Int) = r by omega] at he
  exact he
theorem big_eq (a b : List Int) : ∃ r, laws_big.f a b = some r := by
  unfold laws_big.f
  split
  · exact ⟨_, rfl⟩
  · exact ⟨_, rfl⟩
theorem laws_wSame_l0 (a b : List Int) (hl : a.length = b.length) (hn : a.length ≤ 4611686018427387904) : ∀ (d i : Nat), i + d = a.length → Ev (fun k => laws_wSame.l0 k a b (a.length : Int) i) (decide (a.drop i = b.drop i)) := by
  intro d
  induction d with
  | zero =>
    intro i hd
    refine Ev.end_ fun k => ?_
    rw [laws_wSame.l0, if_neg (by omega), List.drop_eq_nil_of_le (by omega), List.drop_eq_nil_of_le (by omega)]
    simp
  | succ d ih =>
    intro i hd
    have e1 := drop_getD (l := a) (i := i) (by omega)
    have e2 := drop_getD (l := b) (i := i) (by omega)
    by_cases h : a.getD i 0 = b.getD i 0
    · refine Ev.one (f := fun k => laws_wSame.l0 k a b (a.length : Int) ((i + 1 : Nat) : Int)) ?_ fun k => ?_
      · have := ih (i + 1) (by omega)
        have e : decide (a.drop i = b.drop i) = decide (a.drop (i + 1) = b.drop (i + 1)) := by rw [e1, e2, h]; simp
        rw [e]; exact this
      · rw [laws_wSame.l0, if_pos (by omega), if_pos (by omega), if_pos (by omega), if_pos (by omega), rd_nat, rd_nat, if_pos h, wrap_next (n := a.length) (by omega) hn]
    · refine Ev.end_ fun k => ?_
      rw [laws_wSame.l0, if_pos (by omega), if_pos (by omega), if_pos (by omega), if_pos (by omega), rd_nat, rd_nat, if_neg h, e1, e2, decide_eq_false (fun e => h (List.cons.inj e).1)]
theorem laws_wSame_ev (a b : List Int) (hn : a.length ≤ 4611686018427387904) : Ev (fun k => laws_wSame.f k a b) (decide (a = b)) := by
  unfold laws_wSame.f
  by_cases h : a.length = b.length
  · simp only [show ((a.length : Int) = (b.length : Int)) from by omega, if_true]
    have := laws_wSame_l0 a b h hn a.length 0 (by omega)
    simpa [h] using this
  · simp only [show ¬ ((a.length : Int) = (b.length : Int)) from by omega, if_false]
    have e : decide (a = b) = false := decide_eq_false (fun e => h (by rw [e]))
    rw [e]; exact Ev.now _
theorem own_eq (q : List Int) (h : q.length < 17592186044416) : spec_l1Own.f q = some q := by
  unfold spec_l1Own.f
  simp only [Option.bind_some, List.length_nil, Nat.zero_add, h, if_true, List.nil_append]
theorem park_l1 (l : List Int) (p s : Int) : ∀ (d : Nat) (x : List Int), x.length + d = 9 → Ev (fun k => spec_l1Cur_park.l1 k x l p s) (x ++ List.replicate d 0, p, s) := by
  intro d
  induction d with
  | zero =>
    intro x hd
    refine Ev.end_ fun k => ?_
    rw [spec_l1Cur_park.l1, if_neg (by omega)]
    simp
  | succ d ih =>
    intro x hd
    refine Ev.one (f := fun k => spec_l1Cur_park.l1 k (x ++ [0]) l p s) ?_ fun k => by rw [spec_l1Cur_park.l1, if_pos (by omega), if_pos (by omega)]
    have := ih (x ++ [0]) (by simp; omega)
    rw [List.replicate_succ]
    simpa using this
theorem park_l0 {l : List Int} (hb : Bytes l) : ∀ (d : Nat) (x : List Int) (p s : Int), x.length + d ≤ 9 → 0 ≤ p → p + 4 * d ≤ 1000000000000000 → ∃ out p' s', Ev (fun k => spec_l1Cur_park.l0 k x (d : Int) l p s) (out, p', s') ∧ out.length ≤ 10 ∧ p ≤ p' ∧ p' ≤ p + 4 * d + 8 := by
  intro d
  induction d with
  | zero =>
    intro x p s hd h0 h1
    obtain ⟨r, p1, s1, e1, b1, b2, b3, b4⟩ := pick_ok hb p s 20 h0 (by omega)
    by_cases c0 : r = 0
    · obtain ⟨v, p2, s2, e2, b5, b6⟩ := among_ok hb p1 s1 [-1, 0, (x.length : Int), wrap64 ((x.length : Int) + 1), 99, 100] (by simp) (by omega) (by omega)
      refine ⟨x ++ [v], p2, s2, Ev.end_ fun k => ?_, by simp; omega, by omega, by omega⟩
      rw [spec_l1Cur_park.l0, if_neg (by omega), e1, Option.bind_some]
      simp only [c0, if_true]
      rw [e2, Option.bind_some, if_pos (by omega)]
    · by_cases c1 : r = 1
      · by_cases c2 : (x.length : Int) > 0
        · obtain ⟨v, p2, s2, e2, b5, b6, b7, b8⟩ := pick_ok hb p1 s1 (x.length : Int) (by omega) (by omega)
          obtain ⟨u, p3, s3, e3, b9, b10, b11, b12⟩ := pick_ok hb p2 s2 (x.length : Int) (by omega) (by omega)
          refine ⟨x.set v.toNat u, p3, s3, Ev.end_ fun k => ?_, by simp; omega, by omega, by omega⟩
          rw [spec_l1Cur_park.l0, if_neg (by omega), e1, Option.bind_some]
          simp only [c0, c1, c2, if_true, if_false]
          rw [if_neg (by omega), e2, Option.bind_some]
          simp only
          rw [e3, Option.bind_some, if_pos b5, if_pos (by omega)]
        · refine ⟨x, p1, s1, Ev.end_ fun k => ?_, by omega, by omega, by omega⟩
          rw [spec_l1Cur_park.l0, if_neg (by omega), e1, Option.bind_some]
          simp only [c0, c1, c2, if_true, if_false]
          rw [if_neg (by omega)]
      · by_cases c2 : r = 2
        · refine ⟨x ++ List.replicate (9 - x.length) 0, p1, s1, Ev.one (park_l1 l p1 s1 (9 - x.length) x (by omega)) fun k => ?_, by simp; omega, by omega, by omega⟩
          rw [spec_l1Cur_park.l0, if_neg (by omega), e1, Option.bind_some]
          simp only
          rw [if_neg c0, if_neg c1, if_pos c2]
        · refine ⟨x, p1, s1, Ev.end_ fun k => ?_, by omega, by omega, by omega⟩
          rw [spec_l1Cur_park.l0, if_neg (by omega), e1, Option.bind_some]
          simp only
          rw [if_neg c0, if_neg c1, if_neg c2]
  | succ d ih =>
    intro x p s hd h0 h1
    obtain ⟨r, p1, s1, e1, b1, b2, b3, b4⟩ := pick_ok hb p s (wrap64 ((x.length : Int) + 1)) h0 (by omega)
    obtain ⟨u, p2, s2, e2, b5, b6, b7, b8⟩ := pick_ok hb p1 s1 (wrap64 ((x.length : Int) + 1)) (by omega) (by omega)
    rw [wrap_id (x := (x.length : Int) + 1) (by omega) (by omega)] at b6 e1 e2
    obtain ⟨out, p', s', he, ho, hp1, hp2⟩ := ih (x.take u.toNat ++ [r] ++ x.drop u.toNat) p2 s2 (by simp; omega) (by omega) (by omega)
    refine ⟨out, p', s', Ev.one he fun k => ?_, ho, by omega, by omega⟩
    rw [spec_l1Cur_park.l0, if_pos (by omega), wrap_id (x := (x.length : Int) + 1) (by omega) (by omega), e1, Option.bind_some]
    simp only
    rw [e2, Option.bind_some, if_pos b5, if_pos (by omega), own_eq _ (by rw [List.length_take]; omega), Option.bind_some, if_pos (by rw [List.length_take]; omega), Option.bind_some, Option.bind_some, if_pos (by simp; omega), wrap_id (x := ((d + 1 : Nat) : Int) - 1) (by omega) (by omega), show ((d + 1 : Nat) : Int) - 1 = (d : Int) by omega]
theorem park_ok {l : List Int} (hb : Bytes l) (p s : Int) (h0 : 0 ≤ p) (h1 : p ≤ 10000000000000) : ∃ out p' s', Ev (fun k => spec_l1Cur_park.f k l p s 8) (out, p', s') ∧ out.length ≤ 10 ∧ p ≤ p' ∧ p' ≤ p + 60 := by
  obtain ⟨r, p1, s1, e1, b1, b2, b3, b4⟩ := pick_ok hb p s (wrap64 (8 + 1)) h0 (by omega)
  have e9 : wrap64 (8 + 1) = 9 := wrap_id (by omega) (by omega)
  rw [e9] at b2
  obtain ⟨out, p', s', he, ho, hp1, hp2⟩ := park_l0 hb r.toNat [] p1 s1 (by simp; omega) (by omega) (by omega)
  refine ⟨out, p', s', ?_, ho, by omega, by omega⟩
  unfold spec_l1Cur_park.f
  simp only [e1, Option.bind_some]
  rw [show (r.toNat : Int) = r by omega] at he
  exact he
theorem again_ok {l : List Int} (hb : Bytes l) (p s : Int) (h0 : 0 ≤ p) (h1 : p ≤ 1000000000000) : ∃ out p' s', Ev (fun k => spec_l1Cur_again.f k l p s) (out, p', s') ∧ out.length ≤ 10 ∧ p ≤ p' ∧ p' ≤ p + 100 := by
  obtain ⟨x, p1, s1, he, hx, a1, a2⟩ := park_ok hb p s h0 (by omega)
  have rnd : ∀ (p2 s2 : Int), 0 ≤ p2 → p2 ≤ 10000000000000 → p ≤ p2 → p2 ≤ p + 62 → ∃ out p' s', Ev (fun k => spec_l1Cur_again.j0 k x true l p2 s2) (out, p', s') ∧ out.length ≤ 10 ∧ p ≤ p' ∧ p' ≤ p + 100 := by
    intro p2 s2 g0 g1 g2 g3
    obtain ⟨out, p', s', hg, ho, a3, a4⟩ := grains_ok hb p2 s2 g0 (by omega)
    refine ⟨out, p', s', Ev.step (f := fun k => (spec_l1Cur_grains.f k l p2 s2).bind fun bt => some (bt.1, bt.2.1, bt.2.2)) (fun k => by rw [spec_l1Cur_again.j0, if_pos rfl]) ?_, by omega, by omega, by omega⟩
    exact Ev.bind hg (Ev.now _)
  cases hp : parkB x with
  | true =>
    have hg := parkB_get hp
    obtain ⟨b, p2, s2, e2, b5, b6⟩ := one_ok hb p1 s1 6 (by omega) (by omega)
    cases b with
    | true =>
      obtain ⟨out, p', s', h', ho, a3, a4⟩ := rnd p2 s2 (by omega) (by omega) (by omega) (by omega)
      refine ⟨out, p', s', ?_, ho, a3, a4⟩
      unfold spec_l1Cur_again.f
      refine Ev.bind he ?_
      refine Ev.bind (paParking_ev x (by omega)) ?_
      simp only [hp, if_true, e2, Option.bind_some]
      exact h'
    | false =>
      refine ⟨turned x, p2, s2, ?_, by rw [turned_len]; omega, by omega, by omega⟩
      unfold spec_l1Cur_again.f
      refine Ev.bind he ?_
      refine Ev.bind (paParking_ev x (by omega)) ?_
      simp only [hp, if_true, e2, Option.bind_some]
      refine Ev.step (f := fun k => (spec_reTurned.f k x).bind fun t => some (t, p2, s2)) (fun k => by rw [spec_l1Cur_again.j0, if_neg (by simp)]) ?_
      exact Ev.bind (reTurned_ev x (by omega) hg.2) (Ev.now _)
  | false =>
    obtain ⟨out, p', s', h', ho, a3, a4⟩ := rnd p1 s1 (by omega) (by omega) (by omega) (by omega)
    refine ⟨out, p', s', ?_, ho, a3, a4⟩
    unfold spec_l1Cur_again.f
    refine Ev.bind he ?_
    refine Ev.bind (paParking_ev x (by omega)) ?_
    simp only [hp, Bool.false_eq_true, if_false]
    exact h'
theorem DrawIsRecurrent_ok {l : List Int} (hb : Bytes l) : ∃ out, Ev (fun k => spec_DrawIsRecurrent.f k l) out ∧ out.length ≤ 10 := by
  obtain ⟨out, p, s, he, ho, _, _⟩ := again_ok hb 0 0 (by omega) (by omega)
  refine ⟨out, ?_, ho⟩
  unfold spec_DrawIsRecurrent.f
  exact Ev.bind he (Ev.now _)
theorem DrawSandOfParking_ok {l : List Int} (hb : Bytes l) : ∃ out, Ev (fun k => spec_DrawSandOfParking.f k l) out ∧ out.length ≤ 10 := by
  obtain ⟨out, p, s, he, ho, _, _⟩ := park_ok hb 0 0 (by omega) (by omega)
  refine ⟨out, ?_, ho⟩
  unfold spec_DrawSandOfParking.f
  exact Ev.bind he (Ev.now _)
theorem mirrored_ev (l : List Int) (hl : l.length ≤ 1000) (hb : ∀ j, -1000000 ≤ l.getD j 0 ∧ l.getD j 0 ≤ 1000000) : Ev (fun k => impl_mirrored.f k l) (turned l) := by
  unfold impl_mirrored.f
  have := Ev.up0 l.length (fun q => (turned l).take q) (fun k s q => impl_mirrored.l0 k l s l (l.length : Int) q) (turned l) (fun q hq h' => Ev.one h' fun k => ?_) (Ev.end_ fun k => ?_)
  · exact this
  · have hlt : ((turned l).take q).length < 17592186044416 := by rw [List.length_take]; omega
    have hbq := hb q
    rw [impl_mirrored.l0, if_pos (by omega), if_pos (by omega), if_pos (by omega), if_pos hlt, rd_nat, wrap_id (x := (l.length : Int) - 1) (by omega) (by omega), wrap_id (x := (l.length : Int) - 1 - l.getD q 0) (by omega) (by omega), take_snoc (by simpa [turned_len] using hq) (turned_get l hq), wrap_next (n := l.length) hq (by omega)]
  · rw [impl_mirrored.l0, if_neg (by omega), List.take_of_length_le (by simp [turned_len])]
def sopV (l : List Int) : List Int × Bool := if parkB l = true then (turned l, true) else ([], false)
theorem spec_SandOfParking_ev (l : List Int) (hn : l.length ≤ 4611686018427387904) : Ev (fun k => spec_SandOfParking.f k l) (sopV l) := by
  unfold spec_SandOfParking.f sopV
  refine Ev.bind (paParking_ev l hn) ?_
  cases h : parkB l with
  | true =>
    have hg := parkB_get h
    simp only [if_true]
    refine Ev.bind (reTurned_ev l (by omega) hg.2) ?_
    exact Ev.now _
  | false => simp only [Bool.false_eq_true, if_false]; exact Ev.now _
theorem impl_SandOfParking_ev (l : List Int) : Ev (fun k => impl_SandOfParking.f k l) (sopV l) := by
  unfold impl_SandOfParking.f sopV
  refine Ev.bind (isParking_ev l) ?_
  cases h : parkB l with
  | true =>
    have hg := parkB_get h
    simp only [if_true]
    refine Ev.bind (mirrored_ev l (by omega) hg.2) ?_
    exact Ev.now _
  | false => simp only [Bool.false_eq_true, if_false]; exact Ev.now _
theorem sopV_len (l : List Int) : (sopV l).1.length ≤ 8 := by
  unfold sopV
  split
  · rename_i h; have := parkB_get h; rw [turned_len]; omega
  · simp
def fireV (l : List Int) : List Int × Bool := if (sandB l && recB l) = true then (asI (SandT.stab (SandT.more l)).2, true) else ([], false)
theorem spec_FireOrder_ev (l : List Int) (hn : l.length ≤ 4611686018427387904) : Ev (fun k => spec_FireOrder.f k l) (fireV l) := by
  unfold spec_FireOrder.f fireV
  refine Ev.bind (reSand_ev l hn) ?_
  by_cases h : sandB l = true
  · have hl := sandB_len h
    simp only [h, if_true, Bool.true_and]
    refine Ev.bind (reAgain_ev h) ?_
    cases hr : recB l with
    | true =>
      refine Ev.step (f := fun k => (spec_reOnes.f k (l.length : Int)).bind fun t960 => ((spec_rePlus.f k l t960).bind fun t963 => ((spec_reSettle.f k t963).bind fun bt966 => (some (bt966.2, true))))) (fun k => by rw [spec_FireOrder.j0, if_neg (by simp)]) ?_
      refine Ev.bind (reOnes_ev l.length (by omega)) ?_
      refine Ev.bind (rePlus_ev (by simp [SandT.ones]) (by omega) (sandB_mild h).get (ones_range _)) ?_
      show Ev (fun k => (spec_reSettle.f k (SandT.more l)).bind _) _
      refine Ev.bind (reSettle_ev (more_mild h)) ?_
      exact Ev.now _
    | false => exact Ev.end_ fun k => by rw [spec_FireOrder.j0, if_pos (by simp)]; simp
  · have h' : sandB l = false := by simpa using h
    simp only [h', Bool.false_and, Bool.false_eq_true, if_false]
    exact Ev.end_ fun k => by rw [spec_FireOrder.j0, if_pos rfl]
theorem impl_FireOrder_ev (l : List Int) : Ev (fun k => impl_FireOrder.f k l) (fireV l) := by
  unfold impl_FireOrder.f fireV
  refine Ev.bind (isRecurrent_ev l) ?_
  cases h : (sandB l && recB l) with
  | true =>
    simp only [if_true]
    have : sandB l = true := by rw [Bool.and_eq_true] at h; exact h.1
    refine Ev.bind (burn_ev this) ?_
    exact Ev.now _
  | false =>
    simp only [Bool.false_eq_true, if_false]
    exact Ev.now _
theorem fireV_len (l : List Int) : (fireV l).1.length ≤ 600 := by
  unfold fireV
  split
  · rename_i h
    rw [Bool.and_eq_true] at h
    have hl := sandB_len h.1
    show (asI (SandT.stab (SandT.more l)).2).length ≤ 600
    rw [asI_len]
    have h1 := plus_sum l (SandT.ones l.length) (by simp [SandT.ones])
    have h2 := sandB_sum h.1
    have h3 := sum_le (c := SandT.ones l.length) (B := 1) (fun j => (get_repl_range l.length 1 (by omega) j).2) (by omega)
    have h4 : (SandT.ones l.length).length = l.length := by simp [SandT.ones]
    exact Nat.le_trans (stab_len 488 (more_mild h.1).nn (by unfold SandT.more; rw [h1]; rw [h4] at h3; omega)) (by omega)
  · simp
def parkV (l : List Int) : List Int × Bool := if (sandB l && recB l) = true then (turned l, true) else ([], false)
theorem spec_ParkingOfSand_ev (l : List Int) (hn : l.length ≤ 4611686018427387904) : Ev (fun k => spec_ParkingOfSand.f k l) (parkV l) := by
  unfold spec_ParkingOfSand.f parkV
  refine Ev.bind (reSand_ev l hn) ?_
  by_cases h : sandB l = true
  · have hl := sandB_len h
    simp only [h, if_true, Bool.true_and]
    refine Ev.bind (reAgain_ev h) ?_
    cases hr : recB l with
    | true =>
      simp only [if_true]
      refine Ev.bind (reTurned_ev l (by omega) (sandB_mild h).get) ?_
      exact Ev.now _
    | false => simp only [Bool.false_eq_true, if_false]; exact Ev.now _
  · have h' : sandB l = false := by simpa using h
    simp only [h', Bool.false_and, Bool.false_eq_true, if_false]
    exact Ev.now _
theorem impl_ParkingOfSand_ev (l : List Int) : Ev (fun k => impl_ParkingOfSand.f k l) (parkV l) := by
  unfold impl_ParkingOfSand.f parkV
  refine Ev.bind (isRecurrent_ev l) ?_
  cases h : (sandB l && recB l) with
  | true =>
    simp only [if_true]
    have : sandB l = true := by rw [Bool.and_eq_true] at h; exact h.1
    have hl := sandB_len this
    refine Ev.bind (mirrored_ev l (by omega) (sandB_mild this).get) ?_
    exact Ev.now _
  | false =>
    simp only [Bool.false_eq_true, if_false]
    exact Ev.now _
theorem parkV_len (l : List Int) : (parkV l).1.length ≤ 8 := by
  unfold parkV
  split
  · rename_i h
    rw [Bool.and_eq_true] at h
    have hl := sandB_len h.1
    simpa [turned_len] using hl
  · simp
theorem wHas_l0 (x : List Int) (a : Int) (hn : x.length ≤ 4611686018427387904) : ∀ (d i : Nat), i + d = x.length → Ev (fun k => laws_wHas.l0 k a x (x.length : Int) i) (decide (a ∈ x.drop i)) := by
  intro d
  induction d with
  | zero =>
    intro i hd
    refine Ev.end_ fun k => ?_
    rw [laws_wHas.l0, if_neg (by omega), List.drop_eq_nil_of_le (by omega)]
    simp
  | succ d ih =>
    intro i hd
    have e1 := drop_getD (l := x) (i := i) (by omega)
    by_cases h : x.getD i 0 = a
    · refine Ev.end_ fun k => ?_
      rw [laws_wHas.l0, if_pos (by omega), if_pos (by omega), if_pos (by omega), rd_nat, if_pos h, e1, h, decide_eq_true (List.mem_cons_self)]
    · refine Ev.one (f := fun k => laws_wHas.l0 k a x (x.length : Int) ((i + 1 : Nat) : Int)) ?_ fun k => ?_
      · have := ih (i + 1) (by omega)
        have e : decide (a ∈ x.drop i) = decide (a ∈ x.drop (i + 1)) := by
          rw [e1]
          have : ¬ a = x.getD i 0 := fun e => h e.symm
          simp only [List.mem_cons, this, false_or]
        rw [e]; exact this
      · rw [laws_wHas.l0, if_pos (by omega), if_pos (by omega), if_pos (by omega), rd_nat, if_neg h, wrap_next (n := x.length) (by omega) hn]
theorem wHas_ev (x : List Int) (a : Int) (hn : x.length ≤ 4611686018427387904) : Ev (fun k => laws_wHas.f k x a) (decide (a ∈ x)) := by
  unfold laws_wHas.f
  have := wHas_l0 x a hn x.length 0 (by omega)
  simpa using this
def carsB (l : List Int) : Bool := decide (l.length ≤ 8) && l.all fun x => decide (0 ≤ x) && decide (x ≤ 99)
theorem areCars_eq (l : List Int) : impl_areCars.f l = some (carsB l) := by
  unfold impl_areCars.f carsB impl_areBetween.f
  by_cases h : l.length ≤ 8
  · rw [if_pos (by omega), decide_eq_true h]; simp
  · rw [if_neg (by omega), decide_eq_false h]; simp
theorem cars_of_park {l : List Int} (h : parkB l = true) : carsB l = true := by
  unfold parkB at h
  simp only [Bool.and_eq_true, decide_eq_true_eq] at h
  obtain ⟨⟨h1, h2⟩, _⟩ := h
  unfold carsB
  rw [decide_eq_true h1, Bool.true_and, List.all_eq_true]
  rw [List.all_eq_true] at h2
  intro x hx
  have := h2 x hx
  simp at this ⊢
  omega
theorem wParking_ev (l : List Int) : Ev (fun k => laws_wParking.f k l) (parkB l) := by
  unfold laws_wParking.f impl_IsParking.f
  simp only [areCars_eq, Option.bind_some]
  cases hc : carsB l with
  | true =>
    simp only [if_true]
    refine Ev.bind (Ev.bind (isParking_ev l) (Ev.now _)) ?_
    simp only [if_true]
    exact Ev.now _
  | false =>
    have : parkB l = false := by
      cases hp : parkB l with
      | false => rfl
      | true => rw [cars_of_park hp] at hc; cases hc
    rw [this]
    simp only [Bool.false_eq_true, if_false, Option.bind_some]
    exact Ev.now _
theorem rec_l1 (s : List Nat) (hn : s.Nodup) (hl : s.length ≤ 1000) : ∀ (d i : Nat), i + d = s.length → Ev (fun k => laws_FnRecurrentSand.l1 k (asI s) (asI s) ((asI s).length : Int) i) true := by
  intro d
  induction d with
  | zero =>
    intro i hd
    exact Ev.end_ fun k => by rw [laws_FnRecurrentSand.l1, if_neg (by rw [asI_len]; omega)]
  | succ d ih =>
    intro i hd
    have hi : i < s.length := by omega
    refine Ev.step (f := fun k => (laws_wHas.f k ((asI s).take i) ((asI s).getD i 0)).bind fun t1459 => (if t1459 = true then (some false) else (laws_FnRecurrentSand.l1 k (asI s) (asI s) ((asI s).length : Int) ((i + 1 : Nat) : Int)))) (fun k => by rw [laws_FnRecurrentSand.l1, if_pos (by rw [asI_len]; omega), if_pos (by omega), if_pos (by rw [asI_len]; omega), if_pos (by rw [asI_len]; omega), rd_nat, Int.toNat_natCast, wrap_next (n := s.length) hi (by omega)]) ?_
    refine Ev.bind (wHas_ev _ _ (by rw [List.length_take, asI_len]; omega)) ?_
    have e : decide ((asI s).getD i 0 ∈ (asI s).take i) = false := by
      apply decide_eq_false
      intro hm
      rw [List.mem_take_iff_getElem] at hm
      obtain ⟨p, hp, e⟩ := hm
      rw [asI_get s hi] at e
      have hps : p < s.length := by rw [asI_len] at hp; omega
      have hpi : p < i := by omega
      have e2 : ((s[p] : Nat) : Int) = ((s[i] : Nat) : Int) := by rw [← e]; simp [asI]
      exact List.pairwise_iff_getElem.1 hn p i hps hi hpi (by omega)
    simp only [e, Bool.false_eq_true, if_false]
    exact ih (i + 1) (by omega)
theorem rec_j5 {c : List Int} (h : sandB c = true) : Ev (fun k => laws_FnRecurrentSand.j5 k c (parkV c).1 (parkV c).2 (fireV c).1) true := by
  have hl := sandB_len h
  cases hr : recB c with
  | true =>
    have hR := (r_rec c).1 hr
    have ep : parkV c = (turned c, true) := by rw [parkV, h, hr]; rfl
    have ef : fireV c = (asI (SandT.stab (SandT.more c)).2, true) := by rw [fireV, h, hr]; rfl
    have hb := SandT.back_once hR.2
    have hn : (SandT.stab (SandT.more c)).2.Nodup := by
      apply SandT.nodup_count_one
      exact SandT.more_once hR.1
    rw [ep, ef]
    refine Ev.step (f := fun k => (impl_SandOfParking.f k (turned c)).bind fun bt1449 => (if bt1449.2 = true then ((laws_wSame.f k bt1449.1 c).bind fun t1453 => (if t1453 = true then (laws_FnRecurrentSand.j6 k (asI (SandT.stab (SandT.more c)).2) (((asI (SandT.stab (SandT.more c)).2).length : Int) != (c.length : Int))) else (laws_FnRecurrentSand.j6 k (asI (SandT.stab (SandT.more c)).2) true))) else (laws_FnRecurrentSand.j6 k (asI (SandT.stab (SandT.more c)).2) true))) (fun k => by rw [laws_FnRecurrentSand.j5, if_pos rfl]) ?_
    refine Ev.bind (impl_SandOfParking_ev _) ?_
    have es : sopV (turned c) = (c, true) := by
      rw [sopV, ← rec_park h hR.1, if_pos hr, turned_turned]
    rw [es]
    simp only [if_true]
    refine Ev.bind (laws_wSame_ev _ _ (by omega)) ?_
    simp only [decide_true, if_true]
    rw [asI_len, hb.2]
    simp only [bne_self_eq_false]
    refine Ev.step (f := fun k => laws_FnRecurrentSand.l1 k (asI (SandT.stab (SandT.more c)).2) (asI (SandT.stab (SandT.more c)).2) ((asI (SandT.stab (SandT.more c)).2).length : Int) 0) (fun k => by rw [laws_FnRecurrentSand.j6, if_neg (by simp)]) ?_
    exact rec_l1 _ hn (by rw [hb.2]; omega) (SandT.stab (SandT.more c)).2.length 0 (by omega)
  | false =>
    have ep : parkV c = ([], false) := by rw [parkV, h, hr]; rfl
    rw [ep]
    exact Ev.end_ fun k => by rw [laws_FnRecurrentSand.j5, if_neg (by simp)]
theorem rec_j5_not {c : List Int} (h : ¬ sandB c = true) : Ev (fun k => laws_FnRecurrentSand.j5 k c (parkV c).1 (parkV c).2 (fireV c).1) true := by
  have h' : sandB c = false := by simpa using h
  have ep : parkV c = ([], false) := by rw [parkV, h', Bool.false_and]; rfl
  rw [ep]
  exact Ev.end_ fun k => by rw [laws_FnRecurrentSand.j5, if_neg (by simp)]
theorem rec_l0 {c : List Int} (h : sandB c = true) (hst : SandT.Stable c) : Ev (fun k => laws_FnRecurrentSand.l0 k c (recB c) (parkV c).1 (parkV c).2 (fireV c).1 [] c (c.length : Int) 0) true := by
  have hl := sandB_len h
  have := Ev.up0 c.length (fun q => (turned c).take q) (fun k s q => laws_FnRecurrentSand.l0 k c (recB c) (parkV c).1 (parkV c).2 (fireV c).1 s c (c.length : Int) q) true (fun q hq h' => Ev.one h' fun k => ?_) ?_
  · exact this
  · have hlt : ((turned c).take q).length < 17592186044416 := by rw [List.length_take]; omega
    have hbq := sandB_get h q
    rw [laws_FnRecurrentSand.l0, if_pos (by omega), if_pos (by omega), if_pos (by omega), if_pos hlt, rd_nat, wrap_id (x := (c.length : Int) - 1) (by omega) (by omega), wrap_id (x := (c.length : Int) - 1 - c.getD q 0) (by omega) (by omega), take_snoc (by simpa [turned_len] using hq) (turned_get c hq), wrap_next (n := c.length) hq (by omega)]
  · rw [List.take_of_length_le (by rw [turned_len]; exact Nat.le_refl _)]
    refine Ev.step (f := fun k => (laws_wParking.f k (turned c)).bind fun t1448 => (if (recB c != t1448) = true then (some false) else (laws_FnRecurrentSand.j5 k c (parkV c).1 (parkV c).2 (fireV c).1))) (fun k => by rw [laws_FnRecurrentSand.l0, if_neg (by omega)]) ?_
    refine Ev.bind (wParking_ev _) ?_
    rw [← rec_park h hst]
    simp only [bne_self_eq_false, Bool.false_eq_true, if_false]
    exact rec_j5 h
theorem rec_j2 (c : List Int) : Ev (fun k => laws_FnRecurrentSand.j2 k c (recV c).1 (parkV c).1 (parkV c).2 (fireV c).1) true := by
  by_cases h : sandB c = true
  · have er : (recV c).1 = recB c := by rw [recV, if_pos h]
    rw [er]
    refine Ev.step (f := fun k => (impl_IsStable.f c).bind fun bt1442 => (if bt1442.2 = true then (laws_FnRecurrentSand.j3 k c (recB c) (parkV c).1 (parkV c).2 (fireV c).1 bt1442.1) else (laws_FnRecurrentSand.j3 k c (recB c) (parkV c).1 (parkV c).2 (fireV c).1 false))) (fun k => by rw [laws_FnRecurrentSand.j2]) ?_
    simp only [impl_IsStable_eq, Option.bind_some, stableV, h, if_true]
    cases hs : (c.all fun x => decide (x < c.length)) with
    | true => exact Ev.one (rec_l0 h ((r_all c).1 hs)) fun k => by rw [laws_FnRecurrentSand.j3, if_pos rfl]
    | false => exact Ev.one (rec_j5 h) fun k => by rw [laws_FnRecurrentSand.j3, if_neg (by simp)]
  · refine Ev.step (f := fun k => (impl_IsStable.f c).bind fun bt1442 => (if bt1442.2 = true then (laws_FnRecurrentSand.j3 k c (recV c).1 (parkV c).1 (parkV c).2 (fireV c).1 bt1442.1) else (laws_FnRecurrentSand.j3 k c (recV c).1 (parkV c).1 (parkV c).2 (fireV c).1 false))) (fun k => by rw [laws_FnRecurrentSand.j2]) ?_
    have e : stableV c = (false, false) := by rw [stableV, if_neg h]
    simp only [impl_IsStable_eq, Option.bind_some, e, Bool.false_eq_true, if_false]
    exact Ev.one (rec_j5_not h) fun k => by rw [laws_FnRecurrentSand.j3, if_neg (by simp)]
theorem rec_j0 {l1 : List Int} (hb : Bytes l1) (c : List Int) : Ev (fun k => laws_FnRecurrentSand.j0 k l1 c (recV c).1 (parkV c).1 (parkV c).2 (fireV c).1 false) true := by
  obtain ⟨q, hq, hl⟩ := DrawSandOfParking_ok hb
  have hv := sopV_len q
  refine Ev.step (f := fun k => (spec_DrawSandOfParking.f k l1).bind fun t1425 => ((impl_SandOfParking.f k t1425).bind fun bt1428 => ((spec_SandOfParking.f k t1425).bind fun bt1432 => (if (bt1428.2 != bt1432.2) = true then (laws_FnRecurrentSand.j1 k c (recV c).1 (parkV c).1 (parkV c).2 (fireV c).1 t1425 bt1428.1 bt1428.2 true) else ((laws_wSame.f k bt1428.1 bt1432.1).bind fun t1436 => (laws_FnRecurrentSand.j1 k c (recV c).1 (parkV c).1 (parkV c).2 (fireV c).1 t1425 bt1428.1 bt1428.2 (!t1436))))))) (fun k => by rw [laws_FnRecurrentSand.j0, if_neg (by simp)]) ?_
  refine Ev.bind hq ?_
  refine Ev.bind (impl_SandOfParking_ev q) ?_
  refine Ev.bind (spec_SandOfParking_ev q (by omega)) ?_
  simp only [bne_self_eq_false, Bool.false_eq_true, if_false]
  refine Ev.bind (laws_wSame_ev _ _ (by omega)) ?_
  simp only [decide_true, Bool.not_true]
  cases hp : parkB q with
  | true =>
    have es : sopV q = (turned q, true) := by rw [sopV, if_pos hp]
    rw [es]
    obtain ⟨h1, h2⟩ := park_rec hp
    refine Ev.step (f := fun k => (impl_ParkingOfSand.f k (turned q)).bind fun bt1437 => (if bt1437.2 = true then ((laws_wSame.f k bt1437.1 q).bind fun t1441 => (if t1441 = true then (laws_FnRecurrentSand.j2 k c (recV c).1 (parkV c).1 (parkV c).2 (fireV c).1) else (some false))) else (some false))) (fun k => by rw [laws_FnRecurrentSand.j1, if_neg (by simp), if_pos rfl]) ?_
    refine Ev.bind (impl_ParkingOfSand_ev _) ?_
    have ep : parkV (turned q) = (q, true) := by rw [parkV, h1, h2, turned_turned]; rfl
    rw [ep]
    simp only [if_true]
    refine Ev.bind (laws_wSame_ev _ _ (by omega)) ?_
    simp only [decide_true, if_true]
    exact rec_j2 c
  | false =>
    have es : sopV q = ([], false) := by rw [sopV, if_neg (by simp [hp])]
    rw [es]
    exact Ev.one (rec_j2 c) fun k => by rw [laws_FnRecurrentSand.j1, if_neg (by simp), if_neg (by simp)]
end Go.Proofs.Ytbncolgpgabjcaa.G
namespace Go.Proofs.Ytbncolgpgabjcaa.Pure
open Go.RowKit Go.Proofs.Ytbncolgpgabjcaa.G Go.Proofs.YtbncolgpgabjcaaW.PrintWords Go.Proofs.YtbncolgpgabjcaaW.PrintLast
set_option linter.unusedVariables false
set_option linter.unusedSimpArgs false
theorem FnRecurrentSand : laws_FnRecurrentSand.Pure := by
  intro l0 l1 _ _ hw0 _ _ hw1
  refine Ev.rounds ?_
  have b0 := bytes_of hw0
  have b1 := bytes_of hw1
  obtain ⟨r, hr⟩ := big_eq l0 l1
  unfold laws_FnRecurrentSand.f
  simp only [hr, Option.bind_some]
  cases r with
  | true => simp only [if_true]; exact Ev.now _
  | false =>
    simp only [Bool.false_eq_true, if_false]
    obtain ⟨c, hc, hl⟩ := DrawIsRecurrent_ok b0
    have hp := parkV_len c
    have hf := fireV_len c
    refine Ev.bind hc ?_
    refine Ev.bind (impl_IsRecurrent_ev c) ?_
    refine Ev.bind (spec_IsRecurrent_ev c (by omega)) ?_
    refine Ev.bind (impl_ParkingOfSand_ev c) ?_
    refine Ev.bind (spec_ParkingOfSand_ev c (by omega)) ?_
    refine Ev.bind (impl_FireOrder_ev c) ?_
    refine Ev.bind (spec_FireOrder_ev c (by omega)) ?_
    simp only [bne_self_eq_false, Bool.false_eq_true, if_false]
    refine Ev.bind (laws_wSame_ev _ _ (by omega)) ?_
    simp only [decide_true, if_true]
    refine Ev.bind (laws_wSame_ev _ _ (by omega)) ?_
    simp only [decide_true, if_true]
    have e2 : (fireV c).2 = (parkV c).2 := by unfold fireV parkV; split <;> rfl
    by_cases h : sandB c = true
    · have e1 : (recV c).2 = true := by rw [recV, if_pos h]
      have e3 : (parkV c).2 = (recV c).1 := by rw [recV, if_pos h, parkV, h]; cases recB c <;> rfl
      simp only [e1, if_true]
      rw [e2, e3]
      simp only [bne_self_eq_false, Bool.false_eq_true, if_false]
      have := rec_j0 b1 c
      rw [e3] at this
      exact this
    · have h' : sandB c = false := by simpa using h
      have e1 : (recV c).2 = false := by rw [recV, if_neg h]
      have e3 : (parkV c).2 = false := by rw [parkV, h']; rfl
      simp only [e1, Bool.false_eq_true, if_false]
      rw [e2, e3]
      simp only [bne_self_eq_false, Bool.false_eq_true, if_false]
      have := rec_j0 b1 c
      rw [e3] at this
      exact this
end Go.Proofs.Ytbncolgpgabjcaa.Pure
namespace Go.Proofs.YtbncolgpgabjcaaW.PrintWords
open Go.ChangeShapes Go.WideShapes
theorem sized_ints {H : Type} {enc : TypeId × Value → H} {P : Program} {W : World} {base : Nat} {spare : Nat → Bool} {held : Bool} {t e : TypeId} {k : IntKind} {a : Option Addr} {len cap : Nat} {d : DataW H} {ps : List MemPlace} {ts : List TypeId} {ds : List (DataW H)} {j : Nat}
    (hsz : (DataW.weightsEach P ts ds).all (· ≤ reachBytes) = true) (ht : ts[j]? = some t) (hd : ds[j]? = some d) (hu : P.underlying t = some (.slice e)) (he : P.underlying e = some (.int k)) (hc : P.cellsOf e = 1) {B : Nat} (hB : P.bytesOf e = B)
    (h : DataW.Trod enc P W base spare held t (.slice a len cap) d ps) : len * B ≤ 140737488351232 := by
  obtain ⟨fuel, hf⟩ := h
  rcases open_ints hu he hc hf with ⟨hcs, _⟩ | ⟨x, l, c, zs, hcs, _, hl, _, hz, hx, _, _⟩
  · simp [Value.cells] at hcs
    obtain ⟨rfl, rfl, rfl⟩ := hcs
    simp
  · simp [Value.cells] at hcs
    obtain ⟨rfl, rfl, rfl⟩ := hcs
    obtain ⟨hx, _⟩ := Prod.mk.inj hx
    subst hx
    have z := sized_slice hsz ht hd hu
    rw [hB] at z
    have hl2 : len ≤ zs.length := by
      rw [hz]
      split
      · exact hl
      · exact Nat.le_refl _
    have h1 : (lits (H := H) k (zs.take len)).length + (lits (H := H) k (zs.drop len)).length = zs.length := by
      simp [lits]
      omega
    rw [h1] at z
    exact Nat.le_trans (Nat.mul_le_mul_right _ hl2) z
end Go.Proofs.YtbncolgpgabjcaaW.PrintWords
namespace Go.Proofs.Ytbncolgpgabjcaa.fnRecurrentSand
open Go.ChangeShapes Go.WideShapes Go.ChangeAt Go.RowKit
open Go.ChangeMaps (open_string shut_string)
set_option linter.unusedVariables false
theorem own : ownKnob Try.prog.godebug = none := by kernel_rfl
theorem laidOut : laidOutB Try.prog = true := by kernel_rfl
def IsRow (k : IntKind) (w : World) (a : Option Addr) (len cap : Nat) (zs : List Int) : Prop :=
  (a = none ∧ len = 0 ∧ cap = 0 ∧ zs = []) ∨
  ∃ x, a = some x ∧ len ≤ cap ∧ cap ≤ maxLen ∧ zs.length = cap ∧ (∀ i, i < zs.length → w.cell? (x.add i) = some (.int k (zs.getD i 0))) ∧ ∀ n ∈ zs, (Lit.int k n).wf = true
set_option maxRecDepth 100000 in
theorem lifted (os : Os) (started : os.Started) (H : Type) (enc : TypeId × Value → H) :
    ReturnsInHanded {} Try.checked os 3 .any (Rows.fnRecurrentSandSpec.pre6 enc Try.prog Try.f3 Rows.fnRecurrentSandRow.domain false) (Rows.fnRecurrentSandSpec.post enc Try.prog Try.f3 false true false false) := by
  refine returnsInHanded_of_change_sized (C := Try.checked) own started (by kernel_rfl) Try.func3
    (ChangeSpec.witness6 (enc := enc) (C := Try.checked) false ⟨#[], #[.slice none 0 0, .slice none 0 0], []⟩ 8 (by kernel_rfl) (by kernel_rfl) (by kernel_rfl) (by kernel_rfl)) ?_
  intro W base args ds gs before hval0 hW hcnd hsz0 _
  have hsz : (DataW.weightsEach Try.prog (Try.f3.params.toList ++ Rows.fnRecurrentSandSpec.plain.varTypes Try.prog) (ds ++ gs)).all (· ≤ reachBytes) = true := hsz0
  have hval : ∀ (j : Nat) t v, Try.f3.params[j]? = some t → args[j]? = some v → Value.okWide Try.prog W .any base t v := hval0
  have hW' := hW
  obtain ⟨p, q, hA0, hV, rfl, hfz, hnd⟩ := hW
  have hA : DataW.TrodAll enc Try.prog W 0 (fun _ => true) true Try.f3.params.toList args.toList ds p := hA0
  rw [Try.params3] at hA hval hsz
  obtain ⟨v0, vs0, d0, ds0, p0, q0, hargs, rfl, rfl, h0, r0⟩ := trodAll_cons hA
  obtain ⟨v1, vs1, d1, ds1, p1, q1, rfl, rfl, rfl, h1, r1⟩ := trodAll_cons r0
  obtain ⟨rfl, rfl, rfl⟩ := trodAll_nil r1
  obtain rfl : args = #[v0, v1] := by cases args; simp_all
  obtain ⟨rfl, rfl⟩ := trodVars_none hV
  obtain ⟨a0, len0, cap0, rfl⟩ := okWide_slice Try.underlying22 (hval 0 22 v0 rfl rfl)
  have k0 := h0
  have lt0 : ∀ x ∈ p0, x.block < W.heap.size := by obtain ⟨m, hm⟩ := k0; exact DataW.trod_lt m _ _ _ hm
  obtain ⟨z0, w0⟩ : ∃ zs, IsRow .u8 W a0 len0 cap0 zs := by
    obtain ⟨fuel, hf⟩ := h0
    rcases open_ints Try.underlying22 Try.underlying5 (by kernel_rfl) hf with ⟨hcs, _⟩ | ⟨x, l, c, zs, hcs, _, hl, hm, hz, _, hcell, hwz⟩
    · simp [Value.cells] at hcs
      obtain ⟨rfl, rfl, rfl⟩ := hcs
      exact ⟨[], .inl ⟨rfl, rfl, rfl, rfl⟩⟩
    · simp [Value.cells] at hcs
      obtain ⟨rfl, rfl, rfl⟩ := hcs
      exact ⟨zs, .inr ⟨_, rfl, hl, hm, by simpa using hz, hcell, hwz⟩⟩
  have y0 : len0 * 1 ≤ 140737488351232 := Go.Proofs.YtbncolgpgabjcaaW.PrintWords.sized_ints hsz (j := 0) (t := 22) rfl rfl Try.underlying22 Try.underlying5 (by kernel_rfl) (by kernel_rfl) h0
  obtain ⟨a1, len1, cap1, rfl⟩ := okWide_slice Try.underlying22 (hval 1 22 v1 rfl rfl)
  have k1 := h1
  have lt1 : ∀ x ∈ p1, x.block < W.heap.size := by obtain ⟨m, hm⟩ := k1; exact DataW.trod_lt m _ _ _ hm
  obtain ⟨z1, w1⟩ : ∃ zs, IsRow .u8 W a1 len1 cap1 zs := by
    obtain ⟨fuel, hf⟩ := h1
    rcases open_ints Try.underlying22 Try.underlying5 (by kernel_rfl) hf with ⟨hcs, _⟩ | ⟨x, l, c, zs, hcs, _, hl, hm, hz, _, hcell, hwz⟩
    · simp [Value.cells] at hcs
      obtain ⟨rfl, rfl, rfl⟩ := hcs
      exact ⟨[], .inl ⟨rfl, rfl, rfl, rfl⟩⟩
    · simp [Value.cells] at hcs
      obtain ⟨rfl, rfl, rfl⟩ := hcs
      exact ⟨zs, .inr ⟨_, rfl, hl, hm, by simpa using hz, hcell, hwz⟩⟩
  have y1 : len1 * 1 ≤ 140737488351232 := Go.Proofs.YtbncolgpgabjcaaW.PrintWords.sized_ints hsz (j := 1) (t := 22) rfl rfl Try.underlying22 Try.underlying5 (by kernel_rfl) (by kernel_rfl) h1
  clear hA0 hval0 hsz0 hsz
  refine (G.laws_FnRecurrentSand.walk Pure.FnRecurrentSand a0 len0 cap0 z0 a1 len1 cap1 z1 W w0 y0 w1 y1).mono fun e W' ⟨he, bel⟩ => ?_
  subst he
  exact ⟨_, rfl, _, _, _, [], _, [], hW', trodAll_mk1 (shut_bool Try.underlying4 _), (trodAll_cons_mk (Below.trod laidOut (by kernel_rfl) (of_decide_eq_true (by kernel_rfl)) k0 bel lt0) (trodAll_cons_mk (Below.trod laidOut (by kernel_rfl) (of_decide_eq_true (by kernel_rfl)) k1 bel lt1) trodAll_mk0)), rfl, bel.frame _, fun h => by cases h⟩
theorem over : Rows.fnRecurrentSandRow.holds Try.pinned (OpenSpec.ofChange Rows.fnRecurrentSandSpec) :=
  OpenClaim.holds_of_wide 3 Try.f3 rfl rfl rfl rfl rfl rfl rfl ⟨rfl, rfl, rfl, rfl, rfl⟩ rfl rfl rfl rfl rfl (by kernel_rfl) Try.func3 (by kernel_rfl)
    (of_decide_eq_true (by kernel_rfl)) (by unfold Func.isWrapper; first | (rw [if_pos (by decide +kernel)]; kernel_rfl) | (rw [if_neg (by decide +kernel)]; exact ⟨rfl, rfl⟩))
    (fun os started H enc _ => lifted os started H enc)
theorem proved : Rows.FnRecurrentSandSaid := over
#print axioms proved
end Go.Proofs.Ytbncolgpgabjcaa.fnRecurrentSand
namespace Go.Proofs.Ytbncolgpgabjcaa
/-- The row, under a short name, for the claim. -/
theorem fnRecurrentSand_holds : Rows.FnRecurrentSandSaid := fnRecurrentSand.proved
end Go.Proofs.Ytbncolgpgabjcaa
