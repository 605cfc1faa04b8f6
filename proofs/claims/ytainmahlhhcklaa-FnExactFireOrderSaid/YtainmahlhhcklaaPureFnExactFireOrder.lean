/- For every input FnExactFireOrder returns true: the program's FireOrder and the reference's FireOrder agree, the arguments read as they did, and results lie in memory of their own. No condition. -/
import Derived.Test.YtainmahlhhcklaaGx34
import Derived.Test.YtainmahlhhcklaaGx35
import Derived.Test.YtainmahlhhcklaaGx36
import Derived.Test.YtainmahlhhcklaaPS5
namespace Go.Proofs.Ytainmahlhhcklaa.G
open Go.RowKit Go.Proofs.YtainmahlhhcklaaW.PrintWords Go.Proofs.YtainmahlhhcklaaW.PrintLast Go.Proofs.YtainmahlhhcklaaW.PrintMore
set_option linter.unusedVariables false
set_option linter.unusedSimpArgs false

def fireV (l : List Int) : List Int × Bool := if (sandB l && recB l) = true then (asI (SandT.stab (SandT.more l)).2, true) else ([], false)
theorem spec_FireOrder_ev (l : List Int) (hn : l.length ≤ 4611686018427387904) : Ev (fun k => spec_FireOrder.f k l) (fireV l) := by
  unfold spec_FireOrder.f fireV
  refine Ev.bind (reSand_ev l hn) ?_
  by_cases h : sandB l = true
  · have hl := sandB_len h
    simp only [h, if_true, Bool.true_and]
    refine Ev.bind (reAgain_ev h) ?_
    cases hr : recB l with
    | true =>
      refine Ev.step (f := fun k => (spec_reOnes.f k (l.length : Int)).bind fun t960 => ((spec_rePlus.f k l t960).bind fun t963 => ((spec_reSettle.f k t963).bind fun bt966 => (some (bt966.2, true))))) (fun k => by rw [spec_FireOrder.j0, if_neg (by simp)]) ?_
      refine Ev.bind (reOnes_ev l.length (by omega)) ?_
      refine Ev.bind (rePlus_ev (by simp [SandT.ones]) (by omega) (sandB_mild h).get (ones_range _)) ?_
      show Ev (fun k => (spec_reSettle.f k (SandT.more l)).bind _) _
      refine Ev.bind (reSettle_ev (more_mild h)) ?_
      exact Ev.now _
    | false => exact Ev.end_ fun k => by rw [spec_FireOrder.j0, if_pos (by simp)]; simp
  · have h' : sandB l = false := by simpa using h
    simp only [h', Bool.false_and, Bool.false_eq_true, if_false]
    exact Ev.end_ fun k => by rw [spec_FireOrder.j0, if_pos rfl]
theorem impl_FireOrder_ev (l : List Int) : Ev (fun k => impl_FireOrder.f k l) (fireV l) := by
  unfold impl_FireOrder.f fireV
  refine Ev.bind (isRecurrent_ev l) ?_
  cases h : (sandB l && recB l) with
  | true =>
    simp only [if_true]
    have : sandB l = true := by rw [Bool.and_eq_true] at h; exact h.1
    refine Ev.bind (burn_ev this) ?_
    exact Ev.now _
  | false =>
    simp only [Bool.false_eq_true, if_false]
    exact Ev.now _
theorem fireV_len (l : List Int) : (fireV l).1.length ≤ 600 := by
  unfold fireV
  split
  · rename_i h
    rw [Bool.and_eq_true] at h
    have hl := sandB_len h.1
    show (asI (SandT.stab (SandT.more l)).2).length ≤ 600
    rw [asI_len]
    have h1 := plus_sum l (SandT.ones l.length) (by simp [SandT.ones])
    have h2 := sandB_sum h.1
    have h3 := sum_le (c := SandT.ones l.length) (B := 1) (fun j => (get_repl_range l.length 1 (by omega) j).2) (by omega)
    have h4 : (SandT.ones l.length).length = l.length := by simp [SandT.ones]
    exact Nat.le_trans (stab_len 488 (more_mild h.1).nn (by unfold SandT.more; rw [h1]; rw [h4] at h3; omega)) (by omega)
  · simp

end Go.Proofs.Ytainmahlhhcklaa.G
namespace Go.Proofs.Ytainmahlhhcklaa.Pure
open Go.RowKit Go.Proofs.Ytainmahlhhcklaa.G Go.Proofs.YtainmahlhhcklaaW.PrintWords Go.Proofs.YtainmahlhhcklaaW.PrintLast
set_option linter.unusedVariables false
set_option linter.unusedSimpArgs false

theorem FnExactFireOrder : laws_FnExactFireOrder.Pure := by
  intro l0 _ hb_l0 hw_l0
  refine Ev.rounds ?_
  unfold laws_FnExactFireOrder.f
  by_cases h_l0 : (l0.length : Int) > 1048576
  · simp only [h_l0, if_true]; exact Ev.now _
  · simp only [h_l0, if_false]
    have n_l0 : l0.length ≤ 1048576 := by omega
    have hv0 := fireV_len l0
    refine Ev.bind (toIntS_ev l0 (by omega)) ?_
    refine Ev.bind (spec_FireOrder_ev l0 (by omega)) ?_
    refine Ev.bind (toIntS_ev l0 (by omega)) ?_
    refine Ev.bind (impl_FireOrder_ev l0) ?_
    refine Ev.bind (eqIntS_ev _ _ (by omega)) ?_
    simp only [decide_true, if_true]
    (try simp only [bne_self_eq_false, Bool.false_eq_true, if_false, if_true])
    refine Ev.step (fun k => by rw [laws_FnExactFireOrder.j0, if_neg (by simp)]) ?_
    refine Ev.bind (toIntS_ev l0 (by omega)) ?_
    refine Ev.bind (eqIntS_ev l0 l0 (by omega)) ?_
    simp only [decide_true, if_true]
    refine Ev.bind (markIntS_ev l0 (1) (by omega) (by omega)) ?_
    simp only [show ¬ (1 + (l0.length : Int) < 0) by omega, if_false]
    refine Ev.bind (eqIntS_ev _ _ (by omega)) ?_
    simp only [decide_true, if_true]
    (try simp only [bne_self_eq_false, Bool.false_eq_true, if_false, if_true])
    refine Ev.step (fun k => by rw [laws_FnExactFireOrder.j1, if_neg (by simp)]) ?_
    refine Ev.bind (markIntS_ev _ 1 (by omega) (by omega)) ?_
    refine Ev.bind (heldIntS_ev _ 1 (by omega) (by omega)) ?_
    simp only [nneg, if_false, if_true]
    refine Ev.bind (toIntS_ev l0 (by omega)) ?_
    refine Ev.bind (impl_FireOrder_ev l0) ?_
    refine Ev.bind (eqIntS_ev _ _ (by omega)) ?_
    simp only [decide_true, if_true]
    (try simp only [bne_self_eq_false, Bool.false_eq_true, if_false, if_true])
    refine Ev.step (fun k => by rw [laws_FnExactFireOrder.j2, if_neg (by simp)]) ?_
    refine Ev.bind (heldIntS_ev _ 1 (by omega) (by omega)) ?_
    simp only [nneg, if_false, if_true]
    exact Ev.now _

end Go.Proofs.Ytainmahlhhcklaa.Pure
