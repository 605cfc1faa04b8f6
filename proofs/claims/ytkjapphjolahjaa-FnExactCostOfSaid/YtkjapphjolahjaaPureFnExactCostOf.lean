/- For every input FnExactCostOf returns true: the program's CostOf and the reference's agree, the argument reads as it did. No condition. -/
import Derived.Test.YtkjapphjolahjaaGx13
import Derived.Test.YtkjapphjolahjaaGx14
import Derived.Test.YtkjapphjolahjaaGx15
import Derived.Test.YtkjapphjolahjaaPT3
namespace Go.Proofs.Ytkjapphjolahjaa.Pure
open Go.RowKit Go.Proofs.Ytkjapphjolahjaa.G Go.Proofs.YtkjapphjolahjaaW.PrintWords Go.Proofs.YtkjapphjolahjaaW.PrintLast
set_option linter.unusedVariables false
set_option linter.unusedSimpArgs false

def coV (l : List Int) : Int × Bool := if tblB l = true then ((costsV l).sum, true) else (0, false)
theorem spec_Cost_ev (l : List Int) (hn : l.length ≤ 4611686018427387904) : Ev (fun k => spec_CostOf.f k l) (coV l) := by
  unfold spec_CostOf.f coV
  refine Ev.bind (prGood_ev l hn) ?_
  cases h : tblB l with
  | false => simp only [Bool.false_eq_true, if_false]; exact Ev.now _
  | true =>
    obtain ⟨h1, h2, h3, h4⟩ := tblB_parts h
    simp only [if_true]
    refine Ev.bind (prCosts_ev l h1 h2 h3) ?_
    have hl := cosTo_len l l.length
    refine Ev.bind (t_paSum_ev (costsV l) (by unfold costsV; omega) (fun j => by have := costsV_get h1 j; omega)) ?_
    exact Ev.now _
theorem impl_Cost_ev (l : List Int) (hn : l.length ≤ 4611686018427387904) : Ev (fun k => impl_CostOf.f k l) (coV l) := by
  unfold impl_CostOf.f coV
  refine Ev.bind (isTable_ev l hn) ?_
  cases h : tblB l with
  | false => simp only [Bool.false_eq_true, if_false]; exact Ev.now _
  | true =>
    obtain ⟨h1, h2, h3, h4⟩ := tblB_parts h
    simp only [if_true]
    refine Ev.bind (tcosts_ev l h1 h2 h3) ?_
    have hl := cosTo_len l l.length
    refine Ev.bind (t_total_ev (costsV l) (by unfold costsV; omega) (fun j => by have := costsV_get h1 j; omega)) ?_
    exact Ev.now _
theorem FnExactCostOf (l0 : List Int) (hm : l0.length ≤ maxLen) (hb : l0.length * 8 ≤ 140737488351232) (hw : ∀ x ∈ l0, (Lit.int .i64 x).wf = true) : ∃ k, laws_FnExactCostOf.f k l0 = some true := by
  refine Ev.rounds ?_
  unfold laws_FnExactCostOf.f
  rw [szTable_eq l0 (by omega)]
  simp only [Option.bind_some]
  by_cases h : (l0.length : Int) > 1048576
  · rw [if_pos h]
    simp only [show ((-1 : Int) < 0) by decide, if_true]
    exact Ev.now _
  · rw [if_neg h]
    have hn : l0.length ≤ 1048576 := by omega
    simp only [show ¬ ((1048576 : Int) - (l0.length : Int) < 0) by omega, if_false]
    refine Ev.bind (toTable_ev l0 (by omega)) ?_
    refine Ev.bind (spec_Cost_ev l0 (by omega)) ?_
    refine Ev.bind (toTable_ev l0 (by omega)) ?_
    refine Ev.bind (impl_Cost_ev l0 (by omega)) ?_
    simp only [if_true, bne_self_eq_false]
    refine Ev.step (fun k => by rw [laws_FnExactCostOf.j0, if_neg (by decide)]) ?_
    refine Ev.bind (toTable_ev l0 (by omega)) ?_
    refine Ev.bind (eqTable_ev l0 l0 (by omega)) ?_
    simp only [decide_true, if_true]
    exact Ev.now _

end Go.Proofs.Ytkjapphjolahjaa.Pure
