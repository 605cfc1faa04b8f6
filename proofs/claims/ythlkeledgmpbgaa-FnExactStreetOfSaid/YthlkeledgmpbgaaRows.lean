/-
  No cell of these rows narrows 'for every input' (looked for: loops, veiled, ifaces, maps, wideKeys, modest, calm, conditions, laid).
  DERIVED. THE GIVEN ROWS OF THIS SEAT. 2 by the template 'for every input the law returns true; each argument reads behind the call as it read before'; 0 by the template 'total and deterministic' (their statements: YthlkeledgmpbgaaTotals.lean).
  GIVEN WITH THE SEED: the statements are not yours to turn. If you find one false, say at which input.
  Laid BY PROGRAM, IN A SANDBOX (cutbox-rows.mjs): the forced cells as the released guide's own fill.sh prints them over the translation da488d790639e5a6… (all of the seat's roots in one cut). By AI agents, Wed Nov 11 2026. No macro, syntax, notation, axiom, sorry.
-/
import Derived.Test.YthlkeledgmpbgaaChecked
import GoSem.Claim
import GoSem.ClaimJoined
import GoSem.ClaimMapViews
import Derived.JoinedTies
import Derived.KernelRfl
namespace Go.Proofs.Ythlkeledgmpbgaa
/- THE CELL 'sum', in the pinned program and in every row, IS THE sha256 OF THE DUMP (.gsa) THAT YthlkeledgmpbgaaProg.lean LOADS. Nothing in Lean hashes anything: it is a label: what it is worth is what the hold of that sum in a sandbox is worth. -/
noncomputable def Try.pinned : Pinned := { name := "ythlkeledgmpbgaa", sum := "da488d790639e5a6657f47543460e216730c73b80ebbaca37812029a666f99ff", checked := Try.checked }
namespace Rows
def none {H : Type} : Left H := { results := [], args := [] }

/-- 'laws.FnExactFirstInsertion': WHATEVER THE INPUT: true; the input reads as it did. -/
def fnExactFirstInsertionSpec : ChangeSpec := { name := "fnExactFirstInsertion", fn := fun _ => fun
  | [d] => { results := [.lit (.bool true)], args := [d] }
  | _ => none }
def fnExactFirstInsertionRow : OpenClaim := { program := "ythlkeledgmpbgaa", sum := "da488d790639e5a6657f47543460e216730c73b80ebbaca37812029a666f99ff", func := "loop.example/g01115/laws.FnExactFirstInsertion", spec := "fnExactFirstInsertion", unfollowed := true, recurses := true, apart := false }
def FnExactFirstInsertionSaid : Prop := fnExactFirstInsertionRow.holds Try.pinned (OpenSpec.ofChange fnExactFirstInsertionSpec)

/-- ITS FALSE NEIGHBOUR: 'it returns false'. Refute it at one input. -/
def fnExactFirstInsertionWrong : ChangeSpec := { name := "fnExactFirstInsertion", fn := fun _ => fun
  | [d] => { results := [.lit (.bool false)], args := [d] }
  | _ => none }
def FnExactFirstInsertionWrongFalsely : Prop := fnExactFirstInsertionRow.holds Try.pinned (OpenSpec.ofChange fnExactFirstInsertionWrong)

/-- 'laws.FnExactStreetOf': WHATEVER THE INPUT: true; the input reads as it did. -/
def fnExactStreetOfSpec : ChangeSpec := { name := "fnExactStreetOf", fn := fun _ => fun
  | [d] => { results := [.lit (.bool true)], args := [d] }
  | _ => none }
def fnExactStreetOfRow : OpenClaim := { program := "ythlkeledgmpbgaa", sum := "da488d790639e5a6657f47543460e216730c73b80ebbaca37812029a666f99ff", func := "loop.example/g01115/laws.FnExactStreetOf", spec := "fnExactStreetOf", unfollowed := true, recurses := true, apart := false }
def FnExactStreetOfSaid : Prop := fnExactStreetOfRow.holds Try.pinned (OpenSpec.ofChange fnExactStreetOfSpec)

/-- ITS FALSE NEIGHBOUR: 'it returns false'. Refute it at one input. -/
def fnExactStreetOfWrong : ChangeSpec := { name := "fnExactStreetOf", fn := fun _ => fun
  | [d] => { results := [.lit (.bool false)], args := [d] }
  | _ => none }
def FnExactStreetOfWrongFalsely : Prop := fnExactStreetOfRow.holds Try.pinned (OpenSpec.ofChange fnExactStreetOfWrong)

/- THE SECOND FORM. 'bulk': how many values and letters a reading holds, each counted each time it is reached (what is shared counts as often as it is met; a slice's spare places count too). A statement '..UptoSaid' is the law's where the arguments, and the package variables that the reading takes, are together of bulk at most 1048576: NARROWER than '..Said'. Prove '..Said' where nothing that the law and all that it calls make is longer than what came in: it says more and counts as full. Else prove '..UptoSaid'. A law counts once. -/
mutual
def uptoBulk {H : Type} : DataW H → Nat
  | .lit (.string bytes) => bytes.length + 1
  | .lit _ => 1
  | .nil => 1
  | .ptr d => uptoBulk d + 1
  | .slice elems spare => uptoBulkAll elems + uptoBulkAll spare + 1
  | .agg parts => uptoBulkAll parts + 1
  | .iface _ d => uptoBulk d + 1
  | .map entries => uptoBulkEntries entries + 1
  | .held _ => 1
def uptoBulkAll {H : Type} : List (DataW H) → Nat
  | [] => 0
  | d :: r => uptoBulk d + uptoBulkAll r
def uptoBulkEntries {H : Type} : List (Lit × DataW H) → Nat
  | [] => 0
  | x :: r => uptoBulkEntry x + uptoBulkEntries r
def uptoBulkEntry {H : Type} : Lit × DataW H → Nat
  | (.string bytes, d) => bytes.length + uptoBulk d + 1
  | (_, d) => uptoBulk d + 1
 end
def uptoSmall : (H : Type) → List (DataW H) → Bool := fun _ ds => decide (uptoBulkAll ds ≤ 1048576)
def OpenSpec.upto (s : _root_.Go.ChangeSpec) : _root_.Go.OpenSpec := { _root_.Go.OpenSpec.ofChange s with cond := some uptoSmall }

/-- 'laws.FnExactFirstInsertion', WHERE WHAT IT READS IS OF BULK AT MOST 1048576: true; the input reads as it did. -/
def fnExactFirstInsertionUptoRow : OpenClaim := { program := "ythlkeledgmpbgaa", sum := "da488d790639e5a6657f47543460e216730c73b80ebbaca37812029a666f99ff", func := "loop.example/g01115/laws.FnExactFirstInsertion", spec := "fnExactFirstInsertion", unfollowed := true, recurses := true, apart := false, narrowed := true }
def FnExactFirstInsertionUptoSaid : Prop := fnExactFirstInsertionUptoRow.holds Try.pinned (OpenSpec.upto fnExactFirstInsertionSpec)

/-- 'laws.FnExactStreetOf', WHERE WHAT IT READS IS OF BULK AT MOST 1048576: true; the input reads as it did. -/
def fnExactStreetOfUptoRow : OpenClaim := { program := "ythlkeledgmpbgaa", sum := "da488d790639e5a6657f47543460e216730c73b80ebbaca37812029a666f99ff", func := "loop.example/g01115/laws.FnExactStreetOf", spec := "fnExactStreetOf", unfollowed := true, recurses := true, apart := false, narrowed := true }
def FnExactStreetOfUptoSaid : Prop := fnExactStreetOfUptoRow.holds Try.pinned (OpenSpec.upto fnExactStreetOfSpec)

end Rows
end Go.Proofs.Ythlkeledgmpbgaa
