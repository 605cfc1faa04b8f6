/- Pure facts on printed functions: the sand of a parking list. -/
import Derived.Test.YtainmahlhhcklaaGx16
import Derived.Test.YtainmahlhhcklaaGx18
import Derived.Test.YtainmahlhhcklaaPP
import Derived.Test.YtainmahlhhcklaaPM
namespace Go.Proofs.Ytainmahlhhcklaa.G
open Go.RowKit Go.Proofs.YtainmahlhhcklaaW.PrintWords Go.Proofs.YtainmahlhhcklaaW.PrintLast Go.Proofs.YtainmahlhhcklaaW.PrintMore
set_option linter.unusedVariables false
set_option linter.unusedSimpArgs false

def sopV (l : List Int) : List Int × Bool := if parkB l = true then (turned l, true) else ([], false)
theorem spec_SandOfParking_ev (l : List Int) (hn : l.length ≤ 4611686018427387904) : Ev (fun k => spec_SandOfParking.f k l) (sopV l) := by
  unfold spec_SandOfParking.f sopV
  refine Ev.bind (paParking_ev l hn) ?_
  cases h : parkB l with
  | true =>
    have hg := parkB_get h
    simp only [if_true]
    refine Ev.bind (reTurned_ev l (by omega) hg.2) ?_
    exact Ev.now _
  | false => simp only [Bool.false_eq_true, if_false]; exact Ev.now _
theorem impl_SandOfParking_ev (l : List Int) : Ev (fun k => impl_SandOfParking.f k l) (sopV l) := by
  unfold impl_SandOfParking.f sopV
  refine Ev.bind (isParking_ev l) ?_
  cases h : parkB l with
  | true =>
    have hg := parkB_get h
    simp only [if_true]
    refine Ev.bind (mirrored_ev l (by omega) hg.2) ?_
    exact Ev.now _
  | false => simp only [Bool.false_eq_true, if_false]; exact Ev.now _
theorem sopV_len (l : List Int) : (sopV l).1.length ≤ 8 := by
  unfold sopV
  split
  · rename_i h; have := parkB_get h; rw [turned_len]; omega
  · simp

end Go.Proofs.Ytainmahlhhcklaa.G
