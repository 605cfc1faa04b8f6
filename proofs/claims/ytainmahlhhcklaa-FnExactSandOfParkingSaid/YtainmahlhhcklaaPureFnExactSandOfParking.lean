/- For every input FnExactSandOfParking returns true: the program's SandOfParking and the reference's SandOfParking agree, the arguments read as they did, and results lie in memory of their own. No condition. -/
import Derived.Test.YtainmahlhhcklaaGx19
import Derived.Test.YtainmahlhhcklaaPSP
namespace Go.Proofs.Ytainmahlhhcklaa.Pure
open Go.RowKit Go.Proofs.Ytainmahlhhcklaa.G Go.Proofs.YtainmahlhhcklaaW.PrintWords Go.Proofs.YtainmahlhhcklaaW.PrintLast
set_option linter.unusedVariables false
set_option linter.unusedSimpArgs false

theorem FnExactSandOfParking : laws_FnExactSandOfParking.Pure := by
  intro l0 _ hb_l0 hw_l0
  refine Ev.rounds ?_
  unfold laws_FnExactSandOfParking.f
  by_cases h_l0 : (l0.length : Int) > 1048576
  · simp only [h_l0, if_true]; exact Ev.now _
  · simp only [h_l0, if_false]
    have n_l0 : l0.length ≤ 1048576 := by omega
    have hv0 := sopV_len l0
    refine Ev.bind (toIntS_ev l0 (by omega)) ?_
    refine Ev.bind (spec_SandOfParking_ev l0 (by omega)) ?_
    refine Ev.bind (toIntS_ev l0 (by omega)) ?_
    refine Ev.bind (impl_SandOfParking_ev l0) ?_
    refine Ev.bind (eqIntS_ev _ _ (by omega)) ?_
    simp only [decide_true, if_true]
    (try simp only [bne_self_eq_false, Bool.false_eq_true, if_false, if_true])
    refine Ev.step (fun k => by rw [laws_FnExactSandOfParking.j0, if_neg (by simp)]) ?_
    refine Ev.bind (toIntS_ev l0 (by omega)) ?_
    refine Ev.bind (eqIntS_ev l0 l0 (by omega)) ?_
    simp only [decide_true, if_true]
    refine Ev.bind (markIntS_ev l0 (1) (by omega) (by omega)) ?_
    simp only [show ¬ (1 + (l0.length : Int) < 0) by omega, if_false]
    refine Ev.bind (eqIntS_ev _ _ (by omega)) ?_
    simp only [decide_true, if_true]
    (try simp only [bne_self_eq_false, Bool.false_eq_true, if_false, if_true])
    refine Ev.step (fun k => by rw [laws_FnExactSandOfParking.j1, if_neg (by simp)]) ?_
    refine Ev.bind (markIntS_ev _ 1 (by omega) (by omega)) ?_
    refine Ev.bind (heldIntS_ev _ 1 (by omega) (by omega)) ?_
    simp only [nneg, if_false, if_true]
    refine Ev.bind (toIntS_ev l0 (by omega)) ?_
    refine Ev.bind (impl_SandOfParking_ev l0) ?_
    refine Ev.bind (eqIntS_ev _ _ (by omega)) ?_
    simp only [decide_true, if_true]
    (try simp only [bne_self_eq_false, Bool.false_eq_true, if_false, if_true])
    refine Ev.step (fun k => by rw [laws_FnExactSandOfParking.j2, if_neg (by simp)]) ?_
    refine Ev.bind (heldIntS_ev _ 1 (by omega) (by omega)) ?_
    simp only [nneg, if_false, if_true]
    exact Ev.now _

end Go.Proofs.Ytainmahlhhcklaa.Pure
