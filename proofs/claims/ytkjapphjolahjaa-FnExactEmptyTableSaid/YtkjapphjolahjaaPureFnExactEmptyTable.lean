/- For every input FnExactEmptyTable returns true: the program's EmptyTable and the reference's agree, results lie in memory of their own. No condition. -/
import Derived.Test.YtkjapphjolahjaaGx1
import Derived.Test.YtkjapphjolahjaaGx3
import Derived.Test.YtkjapphjolahjaaPT
import Derived.Test.YtkjapphjolahjaaGvR
namespace Go.Proofs.Ytkjapphjolahjaa.Pure
open Go.RowKit Go.Proofs.Ytkjapphjolahjaa.G Go.Proofs.YtkjapphjolahjaaW.PrintWords Go.Proofs.YtkjapphjolahjaaW.PrintLast
set_option linter.unusedVariables false
set_option linter.unusedSimpArgs false

theorem prEmpty_ev (n : Nat) (hn : n ≤ 1000) : Ev (fun k => spec_prEmpty.f k (n : Int)) (List.replicate n (-1)) := by
  unfold spec_prEmpty.f
  refine Ev.up0 n (fun q => List.replicate q (-1 : Int)) (fun k s q => spec_prEmpty.l0 k (n : Int) q s) (List.replicate n (-1)) (fun q hq h => Ev.one h fun k => ?_) (Ev.end_ fun k => ?_)
  · rw [spec_prEmpty.l0, if_pos (by omega), if_pos (by simp; omega), wrap_next (n := n) hq (by omega), List.replicate_succ']
  · rw [spec_prEmpty.l0, if_neg (by omega)]
def emV (a0 : Int) : List Int × Bool := if 2 ≤ a0 ∧ a0 ≤ 12 then (List.replicate a0.toNat (-1), true) else ([], false)
theorem emV_len (a0 : Int) : (emV a0).1.length ≤ 12 := by
  unfold emV
  split
  · simp; omega
  · simp
theorem spec_EmptyTable_ev (a0 : Int) : Ev (fun k => spec_EmptyTable.f k a0) (emV a0) := by
  unfold spec_EmptyTable.f emV
  simp only [prSize_eq, Option.bind_some, decide_eq_true_eq]
  by_cases h : 2 ≤ a0 ∧ a0 ≤ 12
  · simp only [h, and_self, if_true]
    obtain ⟨n, rfl⟩ : ∃ n : Nat, a0 = n := ⟨a0.toNat, by omega⟩
    exact Ev.bind (prEmpty_ev n (by omega)) (Ev.now _)
  · simp only [h, if_false]; exact Ev.now _
theorem impl_EmptyTable_eq (a0 : Int) : impl_EmptyTable.f a0 = some (emV a0) := by
  unfold impl_EmptyTable.f impl_empty.f emV slices_Repeat_int_int.f
  simp only [isSize_eq, Option.bind_some, decide_eq_true_eq]
  by_cases h : 2 ≤ a0 ∧ a0 ≤ 12
  · rw [if_pos h, if_pos h, if_pos ⟨rfl, by omega, by omega⟩]; rfl
  · rw [if_neg h, if_neg h]
theorem FnExactEmptyTable : laws_FnExactEmptyTable.Pure := by
  intro a0 _
  refine Ev.rounds ?_
  unfold laws_FnExactEmptyTable.f
  have hl := emV_len a0
  refine Ev.bind (spec_EmptyTable_ev a0) ?_
  simp only [impl_EmptyTable_eq, Option.bind_some]
  refine Ev.bind (eqTable_ev _ _ (by omega)) ?_
  simp only [decide_true, if_true, bne_self_eq_false]
  refine Ev.step (fun k => by rw [laws_FnExactEmptyTable.j0, if_neg (by decide)]) ?_
  refine Ev.bind (markTable_ev _ 1 (by omega) (by omega)) ?_
  refine Ev.bind (heldTable_ev _ 1 (by omega) (by omega)) ?_
  simp only [nneg, if_false, if_true, impl_EmptyTable_eq, Option.bind_some]
  refine Ev.bind (eqTable_ev _ _ (by omega)) ?_
  simp only [decide_true, if_true, bne_self_eq_false]
  refine Ev.step (fun k => by rw [laws_FnExactEmptyTable.j1, if_neg (by decide)]) ?_
  refine Ev.bind (heldTable_ev _ 1 (by omega) (by omega)) ?_
  simp only [nneg, if_false, if_true]
  exact Ev.now _

end Go.Proofs.Ytkjapphjolahjaa.Pure
