/- For every input FnExactPlanesBetween returns true: the program's PlanesBetween and the reference's PlanesBetween agree, the arguments read as they did, and results lie in memory of their own. No condition. -/
import Derived.Test.YtainmahlhhcklaaGx7
import Derived.Test.YtainmahlhhcklaaPS2
namespace Go.Proofs.Ytainmahlhhcklaa.Pure
open Go.RowKit Go.Proofs.Ytainmahlhhcklaa.G Go.Proofs.YtainmahlhhcklaaW.PrintWords Go.Proofs.YtainmahlhhcklaaW.PrintLast
set_option linter.unusedVariables false
set_option linter.unusedSimpArgs false

theorem FnExactPlanesBetween : laws_FnExactPlanesBetween.Pure := by
  intro l0 l1 _ hb_l0 hw_l0 _ hb_l1 hw_l1
  refine Ev.rounds ?_
  unfold laws_FnExactPlanesBetween.f
  by_cases h_l0 : (l0.length : Int) > 1048576
  · simp only [h_l0, if_true]; exact Ev.now _
  · simp only [h_l0, if_false]
    have n_l0 : l0.length ≤ 1048576 := by omega
    by_cases h_l1 : (l1.length : Int) > 1048576
    · simp only [h_l1, if_true]; exact Ev.now _
    · simp only [h_l1, if_false]
      have n_l1 : l1.length ≤ 1048576 := by omega
      refine Ev.bind (toIntS_ev l0 (by omega)) ?_
      refine Ev.bind (toIntS_ev l1 (by omega)) ?_
      refine Ev.bind (spec_Planes_ev l0 l1 (by omega) (by omega)) ?_
      refine Ev.bind (toIntS_ev l0 (by omega)) ?_
      refine Ev.bind (toIntS_ev l1 (by omega)) ?_
      refine Ev.bind (impl_Planes_ev l0 l1) ?_
      (try simp only [bne_self_eq_false, Bool.false_eq_true, if_false, if_true])
      refine Ev.step (fun k => by rw [laws_FnExactPlanesBetween.j0, if_neg (by simp)]) ?_
      refine Ev.bind (toIntS_ev l0 (by omega)) ?_
      refine Ev.bind (eqIntS_ev l0 l0 (by omega)) ?_
      simp only [decide_true, if_true]
      refine Ev.bind (toIntS_ev l1 (by omega)) ?_
      refine Ev.bind (eqIntS_ev l1 l1 (by omega)) ?_
      simp only [decide_true, if_true]
      exact Ev.now _

end Go.Proofs.Ytainmahlhhcklaa.Pure
