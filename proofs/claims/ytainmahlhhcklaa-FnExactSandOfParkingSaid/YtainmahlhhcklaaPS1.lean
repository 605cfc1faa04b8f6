/- Pure facts on printed functions: sand, its stability, one toppling. -/
import Derived.Test.YtainmahlhhcklaaGx1
import Derived.Test.YtainmahlhhcklaaGx2
import Derived.Test.YtainmahlhhcklaaGx7
import Derived.Test.YtainmahlhhcklaaGx8
import Derived.Test.YtainmahlhhcklaaPA
import Derived.Test.YtainmahlhhcklaaMSand
import Derived.Test.YtainmahlhhcklaaGvA
namespace Go.Proofs.Ytainmahlhhcklaa.G
open Go.RowKit Go.Proofs.YtainmahlhhcklaaW.PrintWords Go.Proofs.YtainmahlhhcklaaW.PrintLast Go.Proofs.YtainmahlhhcklaaW.PrintMore
set_option linter.unusedVariables false
set_option linter.unusedSimpArgs false

def sandB (l : List Int) : Bool := decide (l.length ≤ 8) && l.all fun x => decide (0 ≤ x ∧ x ≤ 60)
theorem sandB_len {l : List Int} (h : sandB l = true) : l.length ≤ 8 := by unfold sandB at h; simp at h; exact h.1
theorem sandB_get {l : List Int} (h : sandB l = true) (j : Nat) : 0 ≤ l.getD j 0 ∧ l.getD j 0 ≤ 60 := by
  unfold sandB at h
  simp only [Bool.and_eq_true, List.all_eq_true, decide_eq_true_eq] at h
  rcases Nat.lt_or_ge j l.length with hj | hj
  · have := h.2 (l.getD j 0) (by rw [List.getD_eq_getElem?_getD, List.getElem?_eq_getElem hj]; exact List.getElem_mem hj)
    exact this
  · rw [List.getD_eq_getElem?_getD, List.getElem?_eq_none hj]; simp
theorem reSand_ev (l : List Int) (hn : l.length ≤ 4611686018427387904) : Ev (fun k => spec_reSand.f k l) (sandB l) := by
  unfold spec_reSand.f sandB
  by_cases h : l.length ≤ 8
  · simp only [show ((l.length : Int) ≤ 8) from by omega, if_true, h, decide_true, Bool.true_and]
    exact Ev.bind (l1All_ev l 0 60 hn) (Ev.now _)
  · simp only [show ¬ ((l.length : Int) ≤ 8) from by omega, if_false, h, decide_false, Bool.false_and]
    exact Ev.now _
theorem between_eq (a b c : Int) : impl_between.f a b c = some (decide (b ≤ a ∧ a ≤ c)) := by
  unfold impl_between.f
  split
  · rename_i h; congr 1; rw [Bool.eq_iff_iff]; simp; omega
  · rename_i h; congr 1; rw [Bool.eq_iff_iff]; simp; omega
theorem isCars_eq (n : Nat) : impl_isCars.f (n : Int) = some (decide (n ≤ 8)) := by
  unfold impl_isCars.f
  rw [between_eq, Option.bind_some]
  congr 1; rw [Bool.eq_iff_iff]; simp; omega
theorem isSand_eq (l : List Int) : impl_isSand.f l = some (sandB l) := by
  unfold impl_isSand.f sandB
  rw [isCars_eq, Option.bind_some]
  by_cases h : l.length ≤ 8
  · simp only [h, decide_true, if_true, impl_areBetween.f, Option.bind_some, Bool.true_and]
    congr 1
    congr 1
    funext x
    rw [Bool.eq_iff_iff]; simp
  · simp [h]
/-- The first node that can topple, or -1. -/
def firstI (l : List Int) : Int := match SandT.first l with
  | none => -1
  | some i => i
theorem reFirst_l0 (l : List Int) (hn : l.length ≤ 4611686018427387904) : ∀ (d i : Nat), i + d = l.length → (∀ j, j < i → l.getD j 0 < l.length) → Ev (fun k => spec_reFirst.l0 k l l (l.length : Int) i) (firstI l) := by
  intro d
  induction d with
  | zero =>
    intro i hd hb
    refine Ev.end_ fun k => ?_
    rw [spec_reFirst.l0, if_neg (by omega)]
    have : SandT.first l = none := SandT.first_of_stable (fun j hj => hb j (by omega))
    rw [firstI, this]
  | succ d ih =>
    intro i hd hb
    by_cases h : (l.length : Int) ≤ l.getD i 0
    · refine Ev.end_ fun k => ?_
      rw [spec_reFirst.l0, if_pos (by omega), if_pos (by omega), if_pos (by omega), rd_nat, if_pos (by omega)]
      have : SandT.first l = some i := by
        unfold SandT.first
        rw [List.findIdx?_eq_some_iff_getElem]
        have hi : i < l.length := by omega
        have e1 : l.getD i 0 = l[i] := by rw [List.getD_eq_getElem?_getD, List.getElem?_eq_getElem hi]; rfl
        refine ⟨hi, by rw [← e1]; simpa using h, fun j hj => ?_⟩
        have e2 : l.getD j 0 = l[j] := by rw [List.getD_eq_getElem?_getD, List.getElem?_eq_getElem (by omega)]; rfl
        have := hb j hj
        rw [← e2]; simpa using this
      rw [firstI, this]
    · refine Ev.one (ih (i + 1) (by omega) (fun j hj => ?_)) fun k => ?_
      · rcases Nat.lt_or_ge j i with h1 | h1
        · exact hb j h1
        · have : j = i := by omega
          rw [this]; omega
      · rw [spec_reFirst.l0, if_pos (by omega), if_pos (by omega), if_pos (by omega), rd_nat, if_neg (by omega), wrap_next (n := l.length) (by omega) hn]
theorem reFirst_ev (l : List Int) (hn : l.length ≤ 4611686018427387904) : Ev (fun k => spec_reFirst.f k l) (firstI l) := reFirst_l0 l hn l.length 0 (by omega) (fun j hj => absurd hj (Nat.not_lt_zero _))
theorem firstI_neg (l : List Int) : decide (firstI l < 0) = l.all fun x => decide (x < l.length) := by
  unfold firstI
  cases e : SandT.first l with
  | none =>
    have := SandT.first_none e
    simp only [show decide ((-1 : Int) < 0) = true from rfl]
    symm
    rw [List.all_eq_true]
    intro x hx
    obtain ⟨j, hj, rfl⟩ := List.getElem_of_mem hx
    have := this j hj
    rw [List.getD_eq_getElem?_getD, List.getElem?_eq_getElem hj] at this
    simpa using this
  | some i =>
    have := SandT.first_some e
    have h1 : decide (((i : Nat) : Int) < 0) = false := decide_eq_false (by omega)
    simp only [h1]
    symm
    rw [List.all_eq_false]
    refine ⟨l[i]'this.1, List.getElem_mem _, ?_⟩
    have h2 := this.2
    rw [List.getD_eq_getElem?_getD, List.getElem?_eq_getElem this.1] at h2
    simpa using h2
def stableV (l : List Int) : Bool × Bool := if sandB l = true then (l.all fun x => decide (x < l.length), true) else (false, false)
theorem spec_IsStable_ev (l : List Int) (hn : l.length ≤ 4611686018427387904) : Ev (fun k => spec_IsStable.f k l) (stableV l) := by
  unfold spec_IsStable.f stableV
  refine Ev.bind (reSand_ev l hn) ?_
  by_cases h : sandB l = true
  · simp only [h, if_true]
    refine Ev.bind (reFirst_ev l hn) ?_
    simp only [firstI_neg]
    exact Ev.now _
  · simp only [h, if_false]
    exact Ev.now _
theorem impl_IsStable_eq (l : List Int) : impl_IsStable.f l = some (stableV l) := by
  unfold impl_IsStable.f stableV
  rw [isSand_eq, Option.bind_some]
  by_cases h : sandB l = true
  · simp only [h, if_true, impl_isStable.f, Option.bind_some]
  · simp only [h, if_false]; rfl

/-! ### One toppling -/
theorem topl_range {l : List Int} {B : Int} (hB : B ≤ 1000000) (hl : l.length ≤ 1000) (h : ∀ j, -B ≤ l.getD j 0 ∧ l.getD j 0 ≤ B) (i j : Nat) (hj : j < l.length) : -9000000 ≤ (SandT.topl l i).getD j 0 ∧ (SandT.topl l i).getD j 0 ≤ 9000000 := by
  rw [SandT.get_topl _ _ _ hj]
  have := h j
  split <;> omega
theorem reTopple_ev (l : List Int) (hl : l.length ≤ 1000) {B : Int} (hB : B ≤ 1000000) (hb : ∀ j, -B ≤ l.getD j 0 ∧ l.getD j 0 ≤ B) (i : Nat) : Ev (fun k => spec_reTopple.f k l (i : Int)) (SandT.topl l i) := by
  unfold spec_reTopple.f
  have := Ev.up0 l.length (fun q => (SandT.topl l i).take q) (fun k s q => spec_reTopple.l0 k l (i : Int) s l (l.length : Int) q) (SandT.topl l i) (fun q hq h => Ev.one h fun k => ?_) (Ev.end_ fun k => ?_)
  · exact this
  · have hlt : ((SandT.topl l i).take q).length < 17592186044416 := by rw [List.length_take]; omega
    have hg := SandT.get_topl l i q hq
    have hbq := hb q
    rw [spec_reTopple.l0, if_pos (by omega), if_pos (by omega), if_pos (by omega), rd_nat]
    by_cases e : q = i
    · rw [if_pos (by omega), if_pos hlt, wrap_next (n := l.length) hq (by omega), wrap_id (by omega) (by omega), take_snoc (by simpa using hq) (by rw [hg, if_pos e])]
    · rw [if_neg (by omega), if_pos hlt, wrap_next (n := l.length) hq (by omega), wrap_id (by omega) (by omega), take_snoc (by simpa using hq) (by rw [hg, if_neg e])]
  · rw [spec_reTopple.l0, if_neg (by omega), List.take_of_length_le (by simp)]
theorem topple_ev (l : List Int) (hl : l.length ≤ 1000) {B : Int} (hB : B ≤ 1000000) (hb : ∀ j, -B ≤ l.getD j 0 ∧ l.getD j 0 ≤ B) (i : Nat) (hi : i < l.length) : Ev (fun k => impl_topple.f k l (i : Int)) (SandT.topl l i) := by
  unfold impl_topple.f
  have hR : (l.map (· + 1)).length = l.length := by simp
  have hg : ∀ q, q < l.length → (l.map (· + 1)).getD q 0 = l.getD q 0 + 1 := by
    intro q hq
    simp [List.getD_eq_getElem?_getD, List.getElem?_eq_getElem hq]
  have := Ev.up0 l.length (fun q => mixed (l.map (· + 1)) l q) (fun k s q => impl_topple.l0 k s (i : Int) (l.length : Int) q) (SandT.topl l i) (fun q hq h => Ev.one h fun k => ?_) (Ev.end_ fun k => ?_)
  · simpa [mixed_zero] using this
  · have hbq := hb q
    rw [impl_topple.l0, if_pos (by omega), if_pos (by omega), if_pos (by rw [length_mixed hR]; omega), rd_nat, getD_mixed hR hq, Int.toNat_natCast, wrap_id (x := l.getD q 0 + 1) (by omega) (by omega), set_mixed hR hq (hg q hq), wrap_next (n := l.length) hq (by omega)]
  · have hbi := hb i
    rw [mixed_full hR, impl_topple.l0, if_neg (by omega), if_pos (by omega), if_pos (by omega), rd_nat, hg i hi, Int.toNat_natCast, List.length_map, wrap_id (x := (l.length : Int) + 1) (by omega) (by omega), wrap_id (by omega) (by omega)]
    unfold SandT.topl
    rw [show l.getD i 0 + 1 - ((l.length : Int) + 1) = l.getD i 0 - l.length by omega]
def toppleV (l : List Int) (i : Int) : List Int × Bool :=
  if sandB l = true ∧ 0 ≤ i ∧ i < l.length ∧ (l.length : Int) ≤ l.getD i.toNat 0 ∧ sandB (SandT.topl l i.toNat) = true then (SandT.topl l i.toNat, true) else ([], false)
theorem spec_ToppleSand_ev (l : List Int) (hn : l.length ≤ 4611686018427387904) (i : Int) : Ev (fun k => spec_ToppleSand.f k l i) (toppleV l i) := by
  unfold spec_ToppleSand.f toppleV
  refine Ev.bind (reSand_ev l hn) ?_
  by_cases hs : sandB l = true
  · have hl := sandB_len hs
    have hb : ∀ j, -60 ≤ l.getD j 0 ∧ l.getD j 0 ≤ 60 := fun j => by have := sandB_get hs j; omega
    simp only [hs, if_true, true_and, l1In_eq, Option.bind_some]
    rw [wrap_id (x := (l.length : Int) - 1) (by omega) (by omega)]
    by_cases hi : 0 ≤ i ∧ i < l.length
    · obtain ⟨j, rfl⟩ := Int.eq_ofNat_of_zero_le hi.1
      have h1 : decide (0 ≤ (j : Int) ∧ (j : Int) ≤ (l.length : Int) - 1) = true := decide_eq_true (by omega)
      rw [h1]
      simp only [if_true, hi.1, hi.2, true_and, Int.toNat_natCast, rd_nat]
      by_cases hc : (l.length : Int) ≤ l.getD j 0
      · have h2 : ¬ (l.getD j 0 < (l.length : Int)) := by omega
        simp only [h2, if_false, hc, true_and]
        refine Ev.bind (reTopple_ev l (by omega) (B := 60) (by omega) hb j) ?_
        refine Ev.bind (reSand_ev _ (by simp; omega)) ?_
        by_cases h3 : sandB (SandT.topl l j) = true
        · simp only [h3, if_true]
          exact Ev.bind (reTopple_ev l (by omega) (B := 60) (by omega) hb j) (Ev.now _)
        · simp only [h3, if_false]; exact Ev.now _
      · have h2 : l.getD j 0 < (l.length : Int) := by omega
        simp only [h2, if_true, hc, false_and, if_false]; exact Ev.now _
    · have h1 : ¬ (decide (0 ≤ i ∧ i ≤ (l.length : Int) - 1) = true) := by simp; omega
      have h2 : ¬ (0 ≤ i ∧ i < (l.length : Int) ∧ (l.length : Int) ≤ l.getD i.toNat 0 ∧ sandB (SandT.topl l i.toNat) = true) := fun h => hi ⟨h.1, h.2.1⟩
      simp only [h1, if_false, h2]; exact Ev.now _
  · simp only [hs, if_false, false_and]; exact Ev.now _
theorem Clone_eq (l : List Int) (h : l.length ≤ 17592186044415) : slices_Clone_int_int.f l = some l := by unfold slices_Clone_int_int.f; rw [if_pos h]
theorem impl_ToppleSand_ev (l : List Int) (i : Int) : Ev (fun k => impl_ToppleSand.f k l i) (toppleV l i) := by
  unfold impl_ToppleSand.f toppleV
  simp only [isSand_eq, Option.bind_some]
  have jt : ∀ r : List Int × Bool, r = ([], false) → Ev (fun k => impl_ToppleSand.j0 k l i true) r := by
    rintro r rfl
    exact Ev.end_ fun k => by rw [impl_ToppleSand.j0, if_pos rfl]
  by_cases hs : sandB l = true
  · have hl := sandB_len hs
    have hb : ∀ j, -60 ≤ l.getD j 0 ∧ l.getD j 0 ≤ 60 := fun j => by have := sandB_get hs j; omega
    simp only [hs, if_true, true_and, between_eq, Option.bind_some]
    rw [wrap_id (x := (l.length : Int) - 1) (by omega) (by omega)]
    by_cases hi : 0 ≤ i ∧ i < l.length
    · obtain ⟨j, rfl⟩ := Int.eq_ofNat_of_zero_le hi.1
      have h1 : decide (0 ≤ (j : Int) ∧ (j : Int) ≤ (l.length : Int) - 1) = true := decide_eq_true (by omega)
      rw [h1]
      simp only [if_true, hi.1, hi.2, true_and, Int.toNat_natCast, rd_nat]
      by_cases hc : (l.length : Int) ≤ l.getD j 0
      · have h2 : decide (l.getD j 0 < (l.length : Int)) = false := decide_eq_false (by omega)
        simp only [h2, hc, true_and]
        refine Ev.step (f := fun k => (slices_Clone_int_int.f l).bind fun t => ((impl_topple.f k t (j : Int)).bind fun t2 => ((impl_isSand.f t2).bind fun t3 => (if t3 = true then (some (t2, true)) else (some (([] : List Int), false)))))) (fun k => by rw [impl_ToppleSand.j0, if_neg (by simp)]) ?_
        simp only [Clone_eq l (by omega), Option.bind_some]
        refine Ev.bind (topple_ev l (by omega) (B := 60) (by omega) hb j (by omega)) ?_
        simp only [isSand_eq, Option.bind_some]
        by_cases h3 : sandB (SandT.topl l j) = true
        · simp only [h3, if_true]; exact Ev.now _
        · simp only [h3, if_false]; exact Ev.now _
      · have h2 : decide (l.getD j 0 < (l.length : Int)) = true := decide_eq_true (by omega)
        simp only [h2, hc, false_and, if_false]; exact jt _ rfl
    · have h1 : ¬ (decide (0 ≤ i ∧ i ≤ (l.length : Int) - 1) = true) := by simp; omega
      have h2 : ¬ (0 ≤ i ∧ i < (l.length : Int) ∧ (l.length : Int) ≤ l.getD i.toNat 0 ∧ sandB (SandT.topl l i.toNat) = true) := fun h => hi ⟨h.1, h.2.1⟩
      simp only [h1, if_false, h2]; exact jt _ rfl
  · simp only [hs, if_false, false_and]; exact jt _ rfl
theorem toppleV_len (l : List Int) (i : Int) : (toppleV l i).1.length ≤ 8 := by
  unfold toppleV
  split
  · rename_i h; simp; exact sandB_len h.1
  · simp
end Go.Proofs.Ytainmahlhhcklaa.G
