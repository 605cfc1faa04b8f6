/- For every list of numbers, FnExactIsStable returns true: the program's IsStable and the reference's IsStable agree, and the argument reads as it did. No condition. -/
import Derived.Test.YtainmahlhhcklaaGx3
import Derived.Test.YtainmahlhhcklaaPS1
namespace Go.Proofs.Ytainmahlhhcklaa.Pure
open Go.RowKit Go.Proofs.Ytainmahlhhcklaa.G Go.Proofs.YtainmahlhhcklaaW.PrintWords Go.Proofs.YtainmahlhhcklaaW.PrintLast
set_option linter.unusedVariables false
set_option linter.unusedSimpArgs false

theorem FnExactIsStable : laws_FnExactIsStable.Pure := by
  intro l _ hb _
  refine Ev.rounds ?_
  unfold laws_FnExactIsStable.f
  by_cases h : (l.length : Int) > 1048576
  · simp only [h, if_true]; exact Ev.now _
  · simp only [h, if_false]
    refine Ev.bind (toIntS_ev l (by omega)) ?_
    refine Ev.bind (spec_IsStable_ev l (by omega)) ?_
    refine Ev.bind (toIntS_ev l (by omega)) ?_
    simp only [impl_IsStable_eq, Option.bind_some, bne_self_eq_false, Bool.false_eq_true, if_false]
    refine Ev.step (fun k => by rw [laws_FnExactIsStable.j0, if_neg (by simp)]) ?_
    refine Ev.bind (toIntS_ev l (by omega)) ?_
    refine Ev.bind (eqIntS_ev l l (by omega)) ?_
    simp only [decide_true, if_true]
    exact Ev.now _

end Go.Proofs.Ytainmahlhhcklaa.Pure
