
/- For every input FnExactFirstInsertion returns true: the program's FirstInsertion and the reference's agree, the argument reads as it did, results lie in memory of their own. No condition. -/

import Derived.Test.YthlkeledgmpbgaaGx10
import Derived.Test.YthlkeledgmpbgaaGx6
import Derived.Test.YthlkeledgmpbgaaGx8

import Derived.Test.YthlkeledgmpbgaaPT12

namespace Go.Proofs.Ythlkeledgmpbgaa.Pure

open Go.RowKit Go.Proofs.Ythlkeledgmpbgaa.G Go.Proofs.YthlkeledgmpbgaaW.PrintWords Go.Proofs.YthlkeledgmpbgaaW.PrintLast

set_option linter.unusedVariables false

set_option linter.unusedSimpArgs false

def fiV (l : List Int) : List Int × Bool := if tblB l = true then (fo l (keysZ l).length [], true) else ([], false)
theorem fiV_len (l : List Int) : (fiV l).1.length ≤ l.length := by
  unfold fiV
  split
  · exact Nat.le_trans (fo_done _ _ (Done.nil l)).le (keysZ_len l)
  · simp
theorem spec_First_ev (l : List Int) (hn : l.length ≤ 4611686018427387904) : Ev (fun k => spec_FirstInsertion.f k l) (fiV l) := by
  unfold spec_FirstInsertion.f fiV
  refine Ev.bind (prGood_ev l hn) ?_
  cases h : tblB l with
  | false => simp only [Bool.false_eq_true, if_false]; exact Ev.now _
  | true =>
    simp only [if_true]
    refine Ev.bind (prFirst_ev h) ?_
    exact Ev.now _
theorem impl_First_ev (l : List Int) (hn : l.length ≤ 4611686018427387904) : Ev (fun k => impl_FirstInsertion.f k l) (fiV l) := by
  unfold impl_FirstInsertion.f fiV
  refine Ev.bind (isTable_ev l hn) ?_
  cases h : tblB l with
  | false => simp only [Bool.false_eq_true, if_false]; exact Ev.now _
  | true =>
    simp only [if_true, first_f h, Option.bind_some]
    exact Ev.now _
theorem FnExactFirstInsertion (l0 : List Int) (hm : l0.length ≤ maxLen) (hb : l0.length * 8 ≤ 140737488351232) (hw : ∀ x ∈ l0, (Lit.int .i64 x).wf = true) : ∃ k, laws_FnExactFirstInsertion.f k l0 = some true := by
  refine Ev.rounds ?_
  unfold laws_FnExactFirstInsertion.f
  rw [szTable_eq l0 (by omega)]
  simp only [Option.bind_some]
  by_cases h : (l0.length : Int) > 1048576
  · rw [if_pos h]
    simp only [show ((-1 : Int) < 0) by decide, if_true]
    exact Ev.now _
  · rw [if_neg h]
    have hn : l0.length ≤ 1048576 := by omega
    have hv := fiV_len l0
    simp only [show ¬ ((1048576 : Int) - (l0.length : Int) < 0) by omega, if_false]
    refine Ev.bind (toTable_ev l0 (by omega)) ?_
    refine Ev.bind (spec_First_ev l0 (by omega)) ?_
    refine Ev.bind (toTable_ev l0 (by omega)) ?_
    refine Ev.bind (impl_First_ev l0 (by omega)) ?_
    refine Ev.bind (eqIntS_ev _ _ (by omega)) ?_
    simp only [decide_true, if_true, bne_self_eq_false]
    refine Ev.step (fun k => by rw [laws_FnExactFirstInsertion.j0, if_neg (by decide)]) ?_
    refine Ev.bind (toTable_ev l0 (by omega)) ?_
    refine Ev.bind (eqTable_ev l0 l0 (by omega)) ?_
    simp only [decide_true, if_true]
    refine Ev.bind (markTable_ev _ 1 (by omega) (by omega)) ?_
    simp only [nneg, if_false]
    refine Ev.bind (eqIntS_ev _ _ (by omega)) ?_
    simp only [decide_true, if_true, bne_self_eq_false]
    refine Ev.step (fun k => by rw [laws_FnExactFirstInsertion.j1, if_neg (by decide)]) ?_
    refine Ev.bind (markIntS_ev _ 1 (by omega) (by omega)) ?_
    refine Ev.bind (heldIntS_ev _ 1 (by omega) (by omega)) ?_
    simp only [nneg, if_false, if_true]
    refine Ev.bind (toTable_ev l0 (by omega)) ?_
    refine Ev.bind (impl_First_ev l0 (by omega)) ?_
    refine Ev.bind (eqIntS_ev _ _ (by omega)) ?_
    simp only [decide_true, if_true, bne_self_eq_false]
    refine Ev.step (fun k => by rw [laws_FnExactFirstInsertion.j2, if_neg (by decide)]) ?_
    refine Ev.bind (heldIntS_ev _ 1 (by omega) (by omega)) ?_
    simp only [nneg, if_false, if_true]
    exact Ev.now _

end Go.Proofs.Ythlkeledgmpbgaa.Pure
