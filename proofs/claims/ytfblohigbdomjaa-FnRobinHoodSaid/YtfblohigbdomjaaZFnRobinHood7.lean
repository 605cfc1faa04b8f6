/- The law FnRobinHood: part 7 of the printed functions and the facts on them that its row leans on (merged by this session's slim.py). -/
import Derived.Test.YtfblohigbdomjaaZFnRobinHood6
namespace Go.Proofs.Ytfblohigbdomjaa.fnRobinHood
open Go.ChangeShapes Go.WideShapes Go.ChangeAt Go.RowKit
open Go.ChangeMaps (open_string shut_string)
set_option linter.unusedVariables false
theorem over : Rows.fnRobinHoodRow.holds Try.pinned (OpenSpec.ofChange Rows.fnRobinHoodSpec) :=
  OpenClaim.holds_of_wide 8 Try.f8 rfl rfl rfl rfl rfl rfl rfl ⟨rfl, rfl, rfl, rfl, rfl⟩ rfl rfl rfl rfl rfl (by kernel_rfl) Try.func8 (by kernel_rfl)
    (of_decide_eq_true (by kernel_rfl)) (by unfold Func.isWrapper; first | (rw [if_pos (by decide +kernel)]; kernel_rfl) | (rw [if_neg (by decide +kernel)]; exact ⟨rfl, rfl⟩))
    (fun os started H enc _ => lifted os started H enc)
theorem proved : Rows.FnRobinHoodSaid := over
#print axioms proved
end Go.Proofs.Ytfblohigbdomjaa.fnRobinHood
namespace Go.Proofs.Ytfblohigbdomjaa
/-- The row, under a short name, for the claim. -/
theorem fnRobinHood_holds : Rows.FnRobinHoodSaid := fnRobinHood.proved
end Go.Proofs.Ytfblohigbdomjaa
