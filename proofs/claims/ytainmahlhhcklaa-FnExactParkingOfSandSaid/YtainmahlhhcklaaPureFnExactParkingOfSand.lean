/- For every input FnExactParkingOfSand returns true: the program's ParkingOfSand and the reference's ParkingOfSand agree, the arguments read as they did, and results lie in memory of their own. No condition. -/
import Derived.Test.YtainmahlhhcklaaGx18
import Derived.Test.YtainmahlhhcklaaGx37
import Derived.Test.YtainmahlhhcklaaGx38
import Derived.Test.YtainmahlhhcklaaPS5
namespace Go.Proofs.Ytainmahlhhcklaa.G
open Go.RowKit Go.Proofs.YtainmahlhhcklaaW.PrintWords Go.Proofs.YtainmahlhhcklaaW.PrintLast Go.Proofs.YtainmahlhhcklaaW.PrintMore
set_option linter.unusedVariables false
set_option linter.unusedSimpArgs false

theorem mirrored_ev (l : List Int) (hl : l.length ≤ 1000) (hb : ∀ j, -1000000 ≤ l.getD j 0 ∧ l.getD j 0 ≤ 1000000) : Ev (fun k => impl_mirrored.f k l) (turned l) := by
  unfold impl_mirrored.f
  have := Ev.up0 l.length (fun q => (turned l).take q) (fun k s q => impl_mirrored.l0 k l s l (l.length : Int) q) (turned l) (fun q hq h' => Ev.one h' fun k => ?_) (Ev.end_ fun k => ?_)
  · exact this
  · have hlt : ((turned l).take q).length < 17592186044416 := by rw [List.length_take]; omega
    have hbq := hb q
    rw [impl_mirrored.l0, if_pos (by omega), if_pos (by omega), if_pos (by omega), if_pos hlt, rd_nat, wrap_id (x := (l.length : Int) - 1) (by omega) (by omega), wrap_id (x := (l.length : Int) - 1 - l.getD q 0) (by omega) (by omega), take_snoc (by simpa [turned_len] using hq) (turned_get l hq), wrap_next (n := l.length) hq (by omega)]
  · rw [impl_mirrored.l0, if_neg (by omega), List.take_of_length_le (by simp [turned_len])]
def parkV (l : List Int) : List Int × Bool := if (sandB l && recB l) = true then (turned l, true) else ([], false)
theorem spec_ParkingOfSand_ev (l : List Int) (hn : l.length ≤ 4611686018427387904) : Ev (fun k => spec_ParkingOfSand.f k l) (parkV l) := by
  unfold spec_ParkingOfSand.f parkV
  refine Ev.bind (reSand_ev l hn) ?_
  by_cases h : sandB l = true
  · have hl := sandB_len h
    simp only [h, if_true, Bool.true_and]
    refine Ev.bind (reAgain_ev h) ?_
    cases hr : recB l with
    | true =>
      simp only [if_true]
      refine Ev.bind (reTurned_ev l (by omega) (sandB_mild h).get) ?_
      exact Ev.now _
    | false => simp only [Bool.false_eq_true, if_false]; exact Ev.now _
  · have h' : sandB l = false := by simpa using h
    simp only [h', Bool.false_and, Bool.false_eq_true, if_false]
    exact Ev.now _
theorem impl_ParkingOfSand_ev (l : List Int) : Ev (fun k => impl_ParkingOfSand.f k l) (parkV l) := by
  unfold impl_ParkingOfSand.f parkV
  refine Ev.bind (isRecurrent_ev l) ?_
  cases h : (sandB l && recB l) with
  | true =>
    simp only [if_true]
    have : sandB l = true := by rw [Bool.and_eq_true] at h; exact h.1
    have hl := sandB_len this
    refine Ev.bind (mirrored_ev l (by omega) (sandB_mild this).get) ?_
    exact Ev.now _
  | false =>
    simp only [Bool.false_eq_true, if_false]
    exact Ev.now _
theorem parkV_len (l : List Int) : (parkV l).1.length ≤ 8 := by
  unfold parkV
  split
  · rename_i h
    rw [Bool.and_eq_true] at h
    have hl := sandB_len h.1
    simpa [turned_len] using hl
  · simp


end Go.Proofs.Ytainmahlhhcklaa.G
namespace Go.Proofs.Ytainmahlhhcklaa.Pure
open Go.RowKit Go.Proofs.Ytainmahlhhcklaa.G Go.Proofs.YtainmahlhhcklaaW.PrintWords Go.Proofs.YtainmahlhhcklaaW.PrintLast
set_option linter.unusedVariables false
set_option linter.unusedSimpArgs false

theorem FnExactParkingOfSand : laws_FnExactParkingOfSand.Pure := by
  intro l0 _ hb_l0 hw_l0
  refine Ev.rounds ?_
  unfold laws_FnExactParkingOfSand.f
  by_cases h_l0 : (l0.length : Int) > 1048576
  · simp only [h_l0, if_true]; exact Ev.now _
  · simp only [h_l0, if_false]
    have n_l0 : l0.length ≤ 1048576 := by omega
    have hv0 := parkV_len l0
    refine Ev.bind (toIntS_ev l0 (by omega)) ?_
    refine Ev.bind (spec_ParkingOfSand_ev l0 (by omega)) ?_
    refine Ev.bind (toIntS_ev l0 (by omega)) ?_
    refine Ev.bind (impl_ParkingOfSand_ev l0) ?_
    refine Ev.bind (eqIntS_ev _ _ (by omega)) ?_
    simp only [decide_true, if_true]
    (try simp only [bne_self_eq_false, Bool.false_eq_true, if_false, if_true])
    refine Ev.step (fun k => by rw [laws_FnExactParkingOfSand.j0, if_neg (by simp)]) ?_
    refine Ev.bind (toIntS_ev l0 (by omega)) ?_
    refine Ev.bind (eqIntS_ev l0 l0 (by omega)) ?_
    simp only [decide_true, if_true]
    refine Ev.bind (markIntS_ev l0 (1) (by omega) (by omega)) ?_
    simp only [show ¬ (1 + (l0.length : Int) < 0) by omega, if_false]
    refine Ev.bind (eqIntS_ev _ _ (by omega)) ?_
    simp only [decide_true, if_true]
    (try simp only [bne_self_eq_false, Bool.false_eq_true, if_false, if_true])
    refine Ev.step (fun k => by rw [laws_FnExactParkingOfSand.j1, if_neg (by simp)]) ?_
    refine Ev.bind (markIntS_ev _ 1 (by omega) (by omega)) ?_
    refine Ev.bind (heldIntS_ev _ 1 (by omega) (by omega)) ?_
    simp only [nneg, if_false, if_true]
    refine Ev.bind (toIntS_ev l0 (by omega)) ?_
    refine Ev.bind (impl_ParkingOfSand_ev l0) ?_
    refine Ev.bind (eqIntS_ev _ _ (by omega)) ?_
    simp only [decide_true, if_true]
    (try simp only [bne_self_eq_false, Bool.false_eq_true, if_false, if_true])
    refine Ev.step (fun k => by rw [laws_FnExactParkingOfSand.j2, if_neg (by simp)]) ?_
    refine Ev.bind (heldIntS_ev _ 1 (by omega) (by omega)) ?_
    simp only [nneg, if_false, if_true]
    exact Ev.now _

end Go.Proofs.Ytainmahlhhcklaa.Pure
