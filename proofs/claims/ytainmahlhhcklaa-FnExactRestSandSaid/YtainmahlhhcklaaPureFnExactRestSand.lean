/- For every input FnExactRestSand returns true: the program's RestSand and the reference's RestSand agree, the arguments read as they did, and results lie in memory of their own. No condition. -/
import Derived.Test.YtainmahlhhcklaaGx27
import Derived.Test.YtainmahlhhcklaaPS4R
namespace Go.Proofs.Ytainmahlhhcklaa.Pure
open Go.RowKit Go.Proofs.Ytainmahlhhcklaa.G Go.Proofs.YtainmahlhhcklaaW.PrintWords Go.Proofs.YtainmahlhhcklaaW.PrintLast
set_option linter.unusedVariables false
set_option linter.unusedSimpArgs false

theorem FnExactRestSand : laws_FnExactRestSand.Pure := by
  intro a0 hw_a0
  refine Ev.rounds ?_
  unfold laws_FnExactRestSand.f
  have hv0 := restV_len a0
  refine Ev.bind (spec_RestSand_ev a0) ?_
  refine Ev.bind (impl_RestSand_ev a0) ?_
  refine Ev.bind (eqIntS_ev _ _ (by omega)) ?_
  simp only [decide_true, if_true]
  (try simp only [bne_self_eq_false, Bool.false_eq_true, if_false, if_true])
  refine Ev.step (fun k => by rw [laws_FnExactRestSand.j0, if_neg (by simp)]) ?_
  refine Ev.bind (markIntS_ev _ 1 (by omega) (by omega)) ?_
  refine Ev.bind (heldIntS_ev _ 1 (by omega) (by omega)) ?_
  simp only [nneg, if_false, if_true]
  refine Ev.bind (impl_RestSand_ev a0) ?_
  refine Ev.bind (eqIntS_ev _ _ (by omega)) ?_
  simp only [decide_true, if_true]
  (try simp only [bne_self_eq_false, Bool.false_eq_true, if_false, if_true])
  refine Ev.step (fun k => by rw [laws_FnExactRestSand.j1, if_neg (by simp)]) ?_
  refine Ev.bind (heldIntS_ev _ 1 (by omega) (by omega)) ?_
  simp only [nneg, if_false, if_true]
  exact Ev.now _

end Go.Proofs.Ytainmahlhhcklaa.Pure
