/- For every input FnExactGreatestCost returns true: the program's GreatestCost and the reference's agree, the argument reads as it did. No condition. -/
import Derived.Test.YteeimoankbgcaaaGx3
import Derived.Test.YteeimoankbgcaaaGx6
import Derived.Test.YteeimoankbgcaaaGx7
import Derived.Test.YteeimoankbgcaaaPT3
namespace Go.Proofs.Yteeimoankbgcaaa.Pure
open Go.RowKit Go.Proofs.Yteeimoankbgcaaa.G Go.Proofs.YteeimoankbgcaaaW.PrintWords Go.Proofs.YteeimoankbgcaaaW.PrintLast
set_option linter.unusedVariables false
set_option linter.unusedSimpArgs false

theorem foldl_max_out (a : Int) : ∀ (l : List Int) (b : Int), l.foldl max (max a b) = max a (l.foldl max b)
  | [], b => rfl
  | x :: l, b => by rw [List.foldl_cons, List.foldl_cons, ← foldl_max_out a l (max b x)]; congr 1; omega
theorem max_ends (c : List Int) : slices_Max_int_int.f (c ++ [0]) = some (c.foldl max 0) := by
  cases c with
  | nil => rfl
  | cons a r =>
    show some ((r ++ [0]).foldl max a) = some (r.foldl max (max 0 a))
    rw [List.foldl_append, foldl_max_out 0 r a]
    show some (max (r.foldl max a) 0) = some (max 0 (r.foldl max a))
    rw [Int.max_comm]
def gcV (l : List Int) : Int × Bool := if tblB l = true then ((costsV l).foldl max 0, true) else (0, false)
theorem most_eq (a b : Int) : spec_l1Most.f a b = some (max a b) := by
  unfold spec_l1Most.f
  by_cases h : a > b
  · rw [if_pos h]; congr 1; omega
  · rw [if_neg h]; congr 1; omega
theorem spec_Great_ev (l : List Int) (hn : l.length ≤ 4611686018427387904) : Ev (fun k => spec_GreatestCost.f k l) (gcV l) := by
  unfold spec_GreatestCost.f gcV
  refine Ev.bind (prGood_ev l hn) ?_
  cases h : tblB l with
  | false => simp only [Bool.false_eq_true, if_false]; exact Ev.now _
  | true =>
    obtain ⟨h1, h2, h3, h4⟩ := tblB_parts h
    simp only [if_true]
    refine Ev.bind (prCosts_ev l h1 h2 h3) ?_
    have hl := cosTo_len l l.length
    obtain ⟨c, hc⟩ : ∃ c, c = costsV l := ⟨_, rfl⟩
    have hcl : c.length ≤ 12 := by rw [hc]; unfold costsV; omega
    rw [← hc]
    have := Ev.up0 c.length (fun q => (c.take q).foldl max 0) (fun k s q => spec_GreatestCost.l0 k s c (c.length : Int) q) (c.foldl max 0, true) (fun q hq h => Ev.one h fun k => ?_) (Ev.end_ fun k => ?_)
    · simpa using this
    · rw [spec_GreatestCost.l0, if_pos (by omega), if_pos (by omega), if_pos (by omega), rd_nat, most_eq, Option.bind_some, wrap_next (n := c.length) hq (by omega), take_succ_getD hq, List.foldl_append]
      rfl
    · rw [spec_GreatestCost.l0, if_neg (by omega), List.take_length]
theorem impl_Great_ev (l : List Int) (hn : l.length ≤ 4611686018427387904) : Ev (fun k => impl_GreatestCost.f k l) (gcV l) := by
  unfold impl_GreatestCost.f gcV
  refine Ev.bind (isTable_ev l hn) ?_
  cases h : tblB l with
  | false => simp only [Bool.false_eq_true, if_false]; exact Ev.now _
  | true =>
    obtain ⟨h1, h2, h3, h4⟩ := tblB_parts h
    simp only [if_true]
    refine Ev.bind (tcosts_ev l h1 h2 h3) ?_
    have hl := cosTo_len l l.length
    rw [if_pos (by unfold costsV; omega), max_ends]
    exact Ev.now _
theorem FnExactGreatestCost (l0 : List Int) (hm : l0.length ≤ maxLen) (hb : l0.length * 8 ≤ 140737488351232) (hw : ∀ x ∈ l0, (Lit.int .i64 x).wf = true) : ∃ k, laws_FnExactGreatestCost.f k l0 = some true := by
  refine Ev.rounds ?_
  unfold laws_FnExactGreatestCost.f
  rw [szTable_eq l0 (by omega)]
  simp only [Option.bind_some]
  by_cases h : (l0.length : Int) > 1048576
  · rw [if_pos h]
    simp only [show ((-1 : Int) < 0) by decide, if_true]
    exact Ev.now _
  · rw [if_neg h]
    have hn : l0.length ≤ 1048576 := by omega
    simp only [show ¬ ((1048576 : Int) - (l0.length : Int) < 0) by omega, if_false]
    refine Ev.bind (toTable_ev l0 (by omega)) ?_
    refine Ev.bind (spec_Great_ev l0 (by omega)) ?_
    refine Ev.bind (toTable_ev l0 (by omega)) ?_
    refine Ev.bind (impl_Great_ev l0 (by omega)) ?_
    simp only [if_true, bne_self_eq_false]
    refine Ev.step (fun k => by rw [laws_FnExactGreatestCost.j0, if_neg (by decide)]) ?_
    refine Ev.bind (toTable_ev l0 (by omega)) ?_
    refine Ev.bind (eqTable_ev l0 l0 (by omega)) ?_
    simp only [decide_true, if_true]
    exact Ev.now _

end Go.Proofs.Yteeimoankbgcaaa.Pure
