/- For every input FnExactStretchList returns true: the program's StretchList and the reference's StretchList agree, the arguments read as they did, and results lie in memory of their own. No condition. -/
import Derived.Test.YtfclfjengfmjaaaGx16
import Derived.Test.YtfclfjengfmjaaaPL2
namespace Go.Proofs.Ytfclfjengfmjaaa.Pure
open Go.RowKit Go.Proofs.Ytfclfjengfmjaaa.G Go.Proofs.YtfclfjengfmjaaaW.PrintWords Go.Proofs.YtfclfjengfmjaaaW.PrintLast
set_option linter.unusedVariables false
set_option linter.unusedSimpArgs false

theorem FnExactStretchList : laws_FnExactStretchList.Pure := by
  intro l0 l1 _ hb_l0 hw_l0 _ hb_l1 hw_l1
  refine Ev.rounds ?_
  unfold laws_FnExactStretchList.f
  by_cases h_l0 : (l0.length : Int) > 1048576
  · simp only [h_l0, if_true]; exact Ev.now _
  · simp only [h_l0, if_false]
    have n_l0 : l0.length ≤ 1048576 := by omega
    by_cases h_l1 : (l1.length : Int) > 1048576
    · simp only [h_l1, if_true]; exact Ev.now _
    · simp only [h_l1, if_false]
      have n_l1 : l1.length ≤ 1048576 := by omega
      have hv0 := stretchP_len l0 l1
      refine Ev.bind (toIntS_ev l0 (by omega)) ?_
      refine Ev.bind (toIntS_ev l1 (by omega)) ?_
      refine Ev.bind (spec_StretchList_ev l0 l1 (by omega) (by omega)) ?_
      refine Ev.bind (toIntS_ev l0 (by omega)) ?_
      refine Ev.bind (toIntS_ev l1 (by omega)) ?_
      refine Ev.bind (impl_StretchList_ev l0 l1 (by omega) (by omega)) ?_
      refine Ev.bind (eqIntS_ev _ _ (by omega)) ?_
      simp only [decide_true, if_true]
      (try simp only [bne_self_eq_false, Bool.false_eq_true, if_false, if_true])
      refine Ev.step (fun k => by rw [laws_FnExactStretchList.j0, if_neg (by simp)]) ?_
      refine Ev.bind (toIntS_ev l0 (by omega)) ?_
      refine Ev.bind (eqIntS_ev l0 l0 (by omega)) ?_
      simp only [decide_true, if_true]
      refine Ev.bind (toIntS_ev l1 (by omega)) ?_
      refine Ev.bind (eqIntS_ev l1 l1 (by omega)) ?_
      simp only [decide_true, if_true]
      refine Ev.bind (markIntS_ev l0 (1) (by omega) (by omega)) ?_
      refine Ev.bind (markIntS_ev l1 (1 + (l0.length : Int)) (by omega) (by omega)) ?_
      simp only [show ¬ (1 + (l0.length : Int) + (l1.length : Int) < 0) by omega, if_false]
      refine Ev.bind (eqIntS_ev _ _ (by omega)) ?_
      simp only [decide_true, if_true]
      (try simp only [bne_self_eq_false, Bool.false_eq_true, if_false, if_true])
      refine Ev.step (fun k => by rw [laws_FnExactStretchList.j1, if_neg (by simp)]) ?_
      refine Ev.bind (markIntS_ev _ 1 (by omega) (by omega)) ?_
      refine Ev.bind (heldIntS_ev _ 1 (by omega) (by omega)) ?_
      simp only [nneg, if_false, if_true]
      refine Ev.bind (toIntS_ev l0 (by omega)) ?_
      refine Ev.bind (toIntS_ev l1 (by omega)) ?_
      refine Ev.bind (impl_StretchList_ev l0 l1 (by omega) (by omega)) ?_
      refine Ev.bind (eqIntS_ev _ _ (by omega)) ?_
      simp only [decide_true, if_true]
      (try simp only [bne_self_eq_false, Bool.false_eq_true, if_false, if_true])
      refine Ev.step (fun k => by rw [laws_FnExactStretchList.j2, if_neg (by simp)]) ?_
      refine Ev.bind (heldIntS_ev _ 1 (by omega) (by omega)) ?_
      simp only [nneg, if_false, if_true]
      exact Ev.now _

end Go.Proofs.Ytfclfjengfmjaaa.Pure
