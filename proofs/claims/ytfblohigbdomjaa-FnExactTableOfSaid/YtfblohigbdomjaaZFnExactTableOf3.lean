/- The law FnExactTableOf: part 3 of the printed functions and the facts on them that its row leans on (merged by this session's slim.py). -/
import Derived.Test.YtfblohigbdomjaaZFnExactTableOf2
namespace Go.Proofs.Ytfblohigbdomjaa.fnExactTableOf
open Go.ChangeShapes Go.WideShapes Go.ChangeAt Go.RowKit
open Go.ChangeMaps (open_string shut_string)
set_option linter.unusedVariables false
#print axioms proved
end Go.Proofs.Ytfblohigbdomjaa.fnExactTableOf
namespace Go.Proofs.Ytfblohigbdomjaa
/-- The row, under a short name, for the claim. -/
theorem fnExactTableOf_holds : Rows.FnExactTableOfSaid := fnExactTableOf.proved
end Go.Proofs.Ytfblohigbdomjaa
