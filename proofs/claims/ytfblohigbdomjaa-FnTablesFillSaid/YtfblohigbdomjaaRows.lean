/-
  No cell of these rows narrows 'for every input' (looked for: loops, veiled, ifaces, maps, wideKeys, modest, calm, conditions, laid).
  DERIVED. THE GIVEN ROWS OF THIS SEAT. 8 by the template 'for every input the law returns true; each argument reads behind the call as it read before'; 0 by the template 'total and deterministic' (their statements: YtfblohigbdomjaaTotals.lean).
  GIVEN WITH THE SEED: the statements are not yours to turn. If you find one false, say at which input.
  Laid BY PROGRAM, IN A SANDBOX (cutbox-rows.mjs): the forced cells as the released guide's own fill.sh prints them over the translation cde0ac9fe1d033df… (all of the seat's roots in one cut). By AI agents, Wed Nov 11 2026. No macro, syntax, notation, axiom, sorry.
-/
import Derived.Test.YtfblohigbdomjaaChecked
import GoSem.Claim
import GoSem.ClaimJoined
import GoSem.ClaimMapViews
import Derived.JoinedTies
import Derived.KernelRfl
namespace Go.Proofs.Ytfblohigbdomjaa
/- THE CELL 'sum', in the pinned program and in every row, IS THE sha256 OF THE DUMP (.gsa) THAT YtfblohigbdomjaaProg.lean LOADS. Nothing in Lean hashes anything: it is a label: what it is worth is what the hold of that sum in a sandbox is worth. -/
noncomputable def Try.pinned : Pinned := { name := "ytfblohigbdomjaa", sum := "cde0ac9fe1d033dfe415a4719b8713ca2b4f553db69edb64886522363aa16d63", checked := Try.checked }
namespace Rows
def none {H : Type} : Left H := { results := [], args := [] }

/-- 'laws.FnExactTableOf': WHATEVER THE INPUT: true; the input reads as it did. -/
def fnExactTableOfSpec : ChangeSpec := { name := "fnExactTableOf", fn := fun _ => fun
  | [d1, d2] => { results := [.lit (.bool true)], args := [d1, d2] }
  | _ => none }
def fnExactTableOfRow : OpenClaim := { program := "ytfblohigbdomjaa", sum := "cde0ac9fe1d033dfe415a4719b8713ca2b4f553db69edb64886522363aa16d63", func := "loop.example/g01115/laws.FnExactTableOf", spec := "fnExactTableOf", unfollowed := true, recurses := true, apart := false }
def FnExactTableOfSaid : Prop := fnExactTableOfRow.holds Try.pinned (OpenSpec.ofChange fnExactTableOfSpec)

/-- ITS FALSE NEIGHBOUR: 'it returns false'. Refute it at one input. -/
def fnExactTableOfWrong : ChangeSpec := { name := "fnExactTableOf", fn := fun _ => fun
  | [d1, d2] => { results := [.lit (.bool false)], args := [d1, d2] }
  | _ => none }
def FnExactTableOfWrongFalsely : Prop := fnExactTableOfRow.holds Try.pinned (OpenSpec.ofChange fnExactTableOfWrong)

/-- 'laws.FnExactRobinTable': WHATEVER THE INPUT: true; the input reads as it did. -/
def fnExactRobinTableSpec : ChangeSpec := { name := "fnExactRobinTable", fn := fun _ => fun
  | [d1, d2] => { results := [.lit (.bool true)], args := [d1, d2] }
  | _ => none }
def fnExactRobinTableRow : OpenClaim := { program := "ytfblohigbdomjaa", sum := "cde0ac9fe1d033dfe415a4719b8713ca2b4f553db69edb64886522363aa16d63", func := "loop.example/g01115/laws.FnExactRobinTable", spec := "fnExactRobinTable", unfollowed := true, recurses := true, apart := false }
def FnExactRobinTableSaid : Prop := fnExactRobinTableRow.holds Try.pinned (OpenSpec.ofChange fnExactRobinTableSpec)

/-- ITS FALSE NEIGHBOUR: 'it returns false'. Refute it at one input. -/
def fnExactRobinTableWrong : ChangeSpec := { name := "fnExactRobinTable", fn := fun _ => fun
  | [d1, d2] => { results := [.lit (.bool false)], args := [d1, d2] }
  | _ => none }
def FnExactRobinTableWrongFalsely : Prop := fnExactRobinTableRow.holds Try.pinned (OpenSpec.ofChange fnExactRobinTableWrong)

/-- 'laws.FnExactInsertKey': WHATEVER THE INPUT: true; the input reads as it did. -/
def fnExactInsertKeySpec : ChangeSpec := { name := "fnExactInsertKey", fn := fun _ => fun
  | [d1, d2] => { results := [.lit (.bool true)], args := [d1, d2] }
  | _ => none }
def fnExactInsertKeyRow : OpenClaim := { program := "ytfblohigbdomjaa", sum := "cde0ac9fe1d033dfe415a4719b8713ca2b4f553db69edb64886522363aa16d63", func := "loop.example/g01115/laws.FnExactInsertKey", spec := "fnExactInsertKey", unfollowed := true, recurses := true, apart := false }
def FnExactInsertKeySaid : Prop := fnExactInsertKeyRow.holds Try.pinned (OpenSpec.ofChange fnExactInsertKeySpec)

/-- ITS FALSE NEIGHBOUR: 'it returns false'. Refute it at one input. -/
def fnExactInsertKeyWrong : ChangeSpec := { name := "fnExactInsertKey", fn := fun _ => fun
  | [d1, d2] => { results := [.lit (.bool false)], args := [d1, d2] }
  | _ => none }
def FnExactInsertKeyWrongFalsely : Prop := fnExactInsertKeyRow.holds Try.pinned (OpenSpec.ofChange fnExactInsertKeyWrong)

/-- 'laws.FnExactIsRobin': WHATEVER THE INPUT: true; the input reads as it did. -/
def fnExactIsRobinSpec : ChangeSpec := { name := "fnExactIsRobin", fn := fun _ => fun
  | [d] => { results := [.lit (.bool true)], args := [d] }
  | _ => none }
def fnExactIsRobinRow : OpenClaim := { program := "ytfblohigbdomjaa", sum := "cde0ac9fe1d033dfe415a4719b8713ca2b4f553db69edb64886522363aa16d63", func := "loop.example/g01115/laws.FnExactIsRobin", spec := "fnExactIsRobin", unfollowed := true, recurses := true, apart := false }
def FnExactIsRobinSaid : Prop := fnExactIsRobinRow.holds Try.pinned (OpenSpec.ofChange fnExactIsRobinSpec)

/-- ITS FALSE NEIGHBOUR: 'it returns false'. Refute it at one input. -/
def fnExactIsRobinWrong : ChangeSpec := { name := "fnExactIsRobin", fn := fun _ => fun
  | [d] => { results := [.lit (.bool false)], args := [d] }
  | _ => none }
def FnExactIsRobinWrongFalsely : Prop := fnExactIsRobinRow.holds Try.pinned (OpenSpec.ofChange fnExactIsRobinWrong)

/-- 'laws.FnExactRemoveKey': WHATEVER THE INPUT: true; the input reads as it did. -/
def fnExactRemoveKeySpec : ChangeSpec := { name := "fnExactRemoveKey", fn := fun _ => fun
  | [d1, d2] => { results := [.lit (.bool true)], args := [d1, d2] }
  | _ => none }
def fnExactRemoveKeyRow : OpenClaim := { program := "ytfblohigbdomjaa", sum := "cde0ac9fe1d033dfe415a4719b8713ca2b4f553db69edb64886522363aa16d63", func := "loop.example/g01115/laws.FnExactRemoveKey", spec := "fnExactRemoveKey", unfollowed := true, recurses := true, apart := false }
def FnExactRemoveKeySaid : Prop := fnExactRemoveKeyRow.holds Try.pinned (OpenSpec.ofChange fnExactRemoveKeySpec)

/-- ITS FALSE NEIGHBOUR: 'it returns false'. Refute it at one input. -/
def fnExactRemoveKeyWrong : ChangeSpec := { name := "fnExactRemoveKey", fn := fun _ => fun
  | [d1, d2] => { results := [.lit (.bool false)], args := [d1, d2] }
  | _ => none }
def FnExactRemoveKeyWrongFalsely : Prop := fnExactRemoveKeyRow.holds Try.pinned (OpenSpec.ofChange fnExactRemoveKeyWrong)

/-- 'laws.FnRobinHood': WHATEVER THE INPUT: true; the input reads as it did. -/
def fnRobinHoodSpec : ChangeSpec := { name := "fnRobinHood", fn := fun _ => fun
  | [d1, d2] => { results := [.lit (.bool true)], args := [d1, d2] }
  | _ => none }
def fnRobinHoodRow : OpenClaim := { program := "ytfblohigbdomjaa", sum := "cde0ac9fe1d033dfe415a4719b8713ca2b4f553db69edb64886522363aa16d63", func := "loop.example/g01115/laws.FnRobinHood", spec := "fnRobinHood", unfollowed := true, recurses := true, apart := false }
def FnRobinHoodSaid : Prop := fnRobinHoodRow.holds Try.pinned (OpenSpec.ofChange fnRobinHoodSpec)

/-- ITS FALSE NEIGHBOUR: 'it returns false'. Refute it at one input. -/
def fnRobinHoodWrong : ChangeSpec := { name := "fnRobinHood", fn := fun _ => fun
  | [d1, d2] => { results := [.lit (.bool false)], args := [d1, d2] }
  | _ => none }
def FnRobinHoodWrongFalsely : Prop := fnRobinHoodRow.holds Try.pinned (OpenSpec.ofChange fnRobinHoodWrong)

/-- 'laws.FnTablesFill': WHATEVER THE INPUT: true; the input reads as it did. -/
def fnTablesFillSpec : ChangeSpec := { name := "fnTablesFill", fn := fun _ => fun
  | [d1, d2] => { results := [.lit (.bool true)], args := [d1, d2] }
  | _ => none }
def fnTablesFillRow : OpenClaim := { program := "ytfblohigbdomjaa", sum := "cde0ac9fe1d033dfe415a4719b8713ca2b4f553db69edb64886522363aa16d63", func := "loop.example/g01115/laws.FnTablesFill", spec := "fnTablesFill", unfollowed := true, recurses := true, apart := false }
def FnTablesFillSaid : Prop := fnTablesFillRow.holds Try.pinned (OpenSpec.ofChange fnTablesFillSpec)

/-- ITS FALSE NEIGHBOUR: 'it returns false'. Refute it at one input. -/
def fnTablesFillWrong : ChangeSpec := { name := "fnTablesFill", fn := fun _ => fun
  | [d1, d2] => { results := [.lit (.bool false)], args := [d1, d2] }
  | _ => none }
def FnTablesFillWrongFalsely : Prop := fnTablesFillRow.holds Try.pinned (OpenSpec.ofChange fnTablesFillWrong)

/-- 'laws.FnInsertAndRemove': WHATEVER THE INPUT: true; the input reads as it did. -/
def fnInsertAndRemoveSpec : ChangeSpec := { name := "fnInsertAndRemove", fn := fun _ => fun
  | [d1, d2] => { results := [.lit (.bool true)], args := [d1, d2] }
  | _ => none }
def fnInsertAndRemoveRow : OpenClaim := { program := "ytfblohigbdomjaa", sum := "cde0ac9fe1d033dfe415a4719b8713ca2b4f553db69edb64886522363aa16d63", func := "loop.example/g01115/laws.FnInsertAndRemove", spec := "fnInsertAndRemove", unfollowed := true, recurses := true, apart := false }
def FnInsertAndRemoveSaid : Prop := fnInsertAndRemoveRow.holds Try.pinned (OpenSpec.ofChange fnInsertAndRemoveSpec)

/-- ITS FALSE NEIGHBOUR: 'it returns false'. Refute it at one input. -/
def fnInsertAndRemoveWrong : ChangeSpec := { name := "fnInsertAndRemove", fn := fun _ => fun
  | [d1, d2] => { results := [.lit (.bool false)], args := [d1, d2] }
  | _ => none }
def FnInsertAndRemoveWrongFalsely : Prop := fnInsertAndRemoveRow.holds Try.pinned (OpenSpec.ofChange fnInsertAndRemoveWrong)

/- THE SECOND FORM. 'bulk': how many values and letters a reading holds, each counted each time it is reached (what is shared counts as often as it is met; a slice's spare places count too). A statement '..UptoSaid' is the law's where the arguments, and the package variables that the reading takes, are together of bulk at most 1048576: NARROWER than '..Said'. Prove '..Said' where nothing that the law and all that it calls make is longer than what came in: it says more and counts as full. Else prove '..UptoSaid'. A law counts once. -/
mutual
def uptoBulk {H : Type} : DataW H → Nat
  | .lit (.string bytes) => bytes.length + 1
  | .lit _ => 1
  | .nil => 1
  | .ptr d => uptoBulk d + 1
  | .slice elems spare => uptoBulkAll elems + uptoBulkAll spare + 1
  | .agg parts => uptoBulkAll parts + 1
  | .iface _ d => uptoBulk d + 1
  | .map entries => uptoBulkEntries entries + 1
  | .held _ => 1
def uptoBulkAll {H : Type} : List (DataW H) → Nat
  | [] => 0
  | d :: r => uptoBulk d + uptoBulkAll r
def uptoBulkEntries {H : Type} : List (Lit × DataW H) → Nat
  | [] => 0
  | x :: r => uptoBulkEntry x + uptoBulkEntries r
def uptoBulkEntry {H : Type} : Lit × DataW H → Nat
  | (.string bytes, d) => bytes.length + uptoBulk d + 1
  | (_, d) => uptoBulk d + 1
 end
def uptoSmall : (H : Type) → List (DataW H) → Bool := fun _ ds => decide (uptoBulkAll ds ≤ 1048576)
def OpenSpec.upto (s : _root_.Go.ChangeSpec) : _root_.Go.OpenSpec := { _root_.Go.OpenSpec.ofChange s with cond := some uptoSmall }

/-- 'laws.FnExactTableOf', WHERE WHAT IT READS IS OF BULK AT MOST 1048576: true; the input reads as it did. -/
def fnExactTableOfUptoRow : OpenClaim := { program := "ytfblohigbdomjaa", sum := "cde0ac9fe1d033dfe415a4719b8713ca2b4f553db69edb64886522363aa16d63", func := "loop.example/g01115/laws.FnExactTableOf", spec := "fnExactTableOf", unfollowed := true, recurses := true, apart := false, narrowed := true }
def FnExactTableOfUptoSaid : Prop := fnExactTableOfUptoRow.holds Try.pinned (OpenSpec.upto fnExactTableOfSpec)

/-- 'laws.FnExactRobinTable', WHERE WHAT IT READS IS OF BULK AT MOST 1048576: true; the input reads as it did. -/
def fnExactRobinTableUptoRow : OpenClaim := { program := "ytfblohigbdomjaa", sum := "cde0ac9fe1d033dfe415a4719b8713ca2b4f553db69edb64886522363aa16d63", func := "loop.example/g01115/laws.FnExactRobinTable", spec := "fnExactRobinTable", unfollowed := true, recurses := true, apart := false, narrowed := true }
def FnExactRobinTableUptoSaid : Prop := fnExactRobinTableUptoRow.holds Try.pinned (OpenSpec.upto fnExactRobinTableSpec)

/-- 'laws.FnExactInsertKey', WHERE WHAT IT READS IS OF BULK AT MOST 1048576: true; the input reads as it did. -/
def fnExactInsertKeyUptoRow : OpenClaim := { program := "ytfblohigbdomjaa", sum := "cde0ac9fe1d033dfe415a4719b8713ca2b4f553db69edb64886522363aa16d63", func := "loop.example/g01115/laws.FnExactInsertKey", spec := "fnExactInsertKey", unfollowed := true, recurses := true, apart := false, narrowed := true }
def FnExactInsertKeyUptoSaid : Prop := fnExactInsertKeyUptoRow.holds Try.pinned (OpenSpec.upto fnExactInsertKeySpec)

/-- 'laws.FnExactIsRobin', WHERE WHAT IT READS IS OF BULK AT MOST 1048576: true; the input reads as it did. -/
def fnExactIsRobinUptoRow : OpenClaim := { program := "ytfblohigbdomjaa", sum := "cde0ac9fe1d033dfe415a4719b8713ca2b4f553db69edb64886522363aa16d63", func := "loop.example/g01115/laws.FnExactIsRobin", spec := "fnExactIsRobin", unfollowed := true, recurses := true, apart := false, narrowed := true }
def FnExactIsRobinUptoSaid : Prop := fnExactIsRobinUptoRow.holds Try.pinned (OpenSpec.upto fnExactIsRobinSpec)

/-- 'laws.FnExactRemoveKey', WHERE WHAT IT READS IS OF BULK AT MOST 1048576: true; the input reads as it did. -/
def fnExactRemoveKeyUptoRow : OpenClaim := { program := "ytfblohigbdomjaa", sum := "cde0ac9fe1d033dfe415a4719b8713ca2b4f553db69edb64886522363aa16d63", func := "loop.example/g01115/laws.FnExactRemoveKey", spec := "fnExactRemoveKey", unfollowed := true, recurses := true, apart := false, narrowed := true }
def FnExactRemoveKeyUptoSaid : Prop := fnExactRemoveKeyUptoRow.holds Try.pinned (OpenSpec.upto fnExactRemoveKeySpec)

/-- 'laws.FnRobinHood', WHERE WHAT IT READS IS OF BULK AT MOST 1048576: true; the input reads as it did. -/
def fnRobinHoodUptoRow : OpenClaim := { program := "ytfblohigbdomjaa", sum := "cde0ac9fe1d033dfe415a4719b8713ca2b4f553db69edb64886522363aa16d63", func := "loop.example/g01115/laws.FnRobinHood", spec := "fnRobinHood", unfollowed := true, recurses := true, apart := false, narrowed := true }
def FnRobinHoodUptoSaid : Prop := fnRobinHoodUptoRow.holds Try.pinned (OpenSpec.upto fnRobinHoodSpec)

/-- 'laws.FnTablesFill', WHERE WHAT IT READS IS OF BULK AT MOST 1048576: true; the input reads as it did. -/
def fnTablesFillUptoRow : OpenClaim := { program := "ytfblohigbdomjaa", sum := "cde0ac9fe1d033dfe415a4719b8713ca2b4f553db69edb64886522363aa16d63", func := "loop.example/g01115/laws.FnTablesFill", spec := "fnTablesFill", unfollowed := true, recurses := true, apart := false, narrowed := true }
def FnTablesFillUptoSaid : Prop := fnTablesFillUptoRow.holds Try.pinned (OpenSpec.upto fnTablesFillSpec)

/-- 'laws.FnInsertAndRemove', WHERE WHAT IT READS IS OF BULK AT MOST 1048576: true; the input reads as it did. -/
def fnInsertAndRemoveUptoRow : OpenClaim := { program := "ytfblohigbdomjaa", sum := "cde0ac9fe1d033dfe415a4719b8713ca2b4f553db69edb64886522363aa16d63", func := "loop.example/g01115/laws.FnInsertAndRemove", spec := "fnInsertAndRemove", unfollowed := true, recurses := true, apart := false, narrowed := true }
def FnInsertAndRemoveUptoSaid : Prop := fnInsertAndRemoveUptoRow.holds Try.pinned (OpenSpec.upto fnInsertAndRemoveSpec)

end Rows
end Go.Proofs.Ytfblohigbdomjaa
