
/- Pure facts on printed functions: the used cells and the costs of a table, sums. -/



import Derived.Test.YthlkeledgmpbgaaPT2

import Derived.Test.YthlkeledgmpbgaaGwT

namespace Go.Proofs.Ythlkeledgmpbgaa.G

open Go.RowKit Go.Proofs.YthlkeledgmpbgaaW.PrintWords Go.Proofs.YthlkeledgmpbgaaW.PrintLast Go.Proofs.YthlkeledgmpbgaaW.PrintMore

set_option linter.unusedVariables false

set_option linter.unusedSimpArgs false

theorem tblB_parts {l : List Int} (h : tblB l = true) : 2 ≤ l.length ∧ l.length ≤ 12 ∧ (∀ j, j < l.length → -1 ≤ l.getD j 0 ∧ l.getD j 0 ≤ 999) ∧ (-1 : Int) ∈ l := by
  unfold tblB at h
  simp only [Bool.and_eq_true, decide_eq_true_eq] at h
  exact ⟨by omega, by omega, fun j hj => allT_get h.1.1.2 hj, h.1.2⟩
theorem t_take_sum {l : List Int} {q : Nat} (hq : q < l.length) : (l.take (q + 1)).sum = (l.take q).sum + l.getD q 0 := by
  rw [take_succ_getD hq, List.sum_append]; simp
theorem t_take_range {l : List Int} {B : Int} (hB : 0 ≤ B) (hb : ∀ j, -B ≤ l.getD j 0 ∧ l.getD j 0 ≤ B) : ∀ q, q ≤ l.length → -((q : Int) * B) ≤ (l.take q).sum ∧ (l.take q).sum ≤ (q : Int) * B := by
  intro q
  induction q with
  | zero => intro _; simp
  | succ q ih =>
    intro hq
    have := ih (by omega)
    have := hb q
    rw [t_take_sum (by omega)]
    push_cast
    rw [Int.add_mul]
    omega
/-- The cost of the key in a cell. -/
def cellC (l : List Int) (a : Int) : Int := ((costN l.length (l.getD a.toNat 0).toNat a.toNat : Nat) : Int)
theorem cellC_range {l : List Int} (hn : 2 ≤ l.length) (a : Int) : 0 ≤ cellC l a ∧ cellC l a < l.length := by
  have := costN_lt (n := l.length) (key := (l.getD a.toNat 0).toNat) (at_ := a.toNat) (by omega)
  unfold cellC
  omega
/-- The costs of the keys in the cells below q. -/
def cosTo (l : List Int) (q : Nat) : List Int := (idxsTo posP l q).map (cellC l)
theorem cosTo_succ (l : List Int) (q : Nat) : cosTo l (q + 1) = cosTo l q ++ (if posP (l.getD q 0) = true then [cellC l q] else []) := by
  unfold cosTo
  rw [idxsTo, List.map_append]
  split <;> rfl
theorem cosTo_len (l : List Int) (q : Nat) : (cosTo l q).length ≤ q := by
  unfold cosTo
  rw [List.length_map]
  exact idxsTo_len _ _ _
theorem idxsTo_mem (p : Int → Bool) (l : List Int) (x : Int) : ∀ q, x ∈ idxsTo p l q ↔ ∃ j : Nat, x = j ∧ j < q ∧ p (l.getD j 0) = true
  | 0 => by simp [idxsTo]
  | q + 1 => by
    rw [idxsTo, List.mem_append, idxsTo_mem p l x q]
    constructor
    · rintro (⟨j, h1, h2, h3⟩ | h)
      · exact ⟨j, h1, by omega, h3⟩
      · split at h
        · rename_i hp
          rw [List.mem_singleton] at h
          exact ⟨q, h, by omega, hp⟩
        · cases h
    · rintro ⟨j, h1, h2, h3⟩
      by_cases e : j = q
      · subst e
        exact Or.inr (by rw [if_pos h3, List.mem_singleton]; exact h1)
      · exact Or.inl ⟨j, h1, by omega, h3⟩
def costsV (l : List Int) : List Int := cosTo l l.length
theorem costsV_get {l : List Int} (hn : 2 ≤ l.length) (j : Nat) : 0 ≤ (costsV l).getD j 0 ∧ (costsV l).getD j 0 < l.length := by
  unfold costsV cosTo
  rw [List.getD_eq_getElem?_getD, List.getElem?_map]
  cases (idxsTo posP l l.length)[j]? with
  | none => simp; omega
  | some a => exact cellC_range hn a
section

variable (l : List Int) (hn : 2 ≤ l.length) (hn2 : l.length ≤ 12) (hr : ∀ j, j < l.length → -1 ≤ l.getD j 0 ∧ l.getD j 0 ≤ 999)
include hn hn2 hr
end

end Go.Proofs.Ythlkeledgmpbgaa.G
