/-
  No cell of these rows narrows 'for every input' (looked for: loops, veiled, ifaces, maps, wideKeys, modest, calm, conditions, laid).
  DERIVED. THE GIVEN ROWS OF THIS SEAT. 7 by the template 'for every input the law returns true; each argument reads behind the call as it read before'; 0 by the template 'total and deterministic' (their statements: YtkjapphjolahjaaTotals.lean).
  GIVEN WITH THE SEED: the statements are not yours to turn. If you find one false, say at which input.
  Laid BY PROGRAM, IN A SANDBOX (cutbox-rows.mjs): the forced cells as the released guide's own fill.sh prints them over the translation 3afb65ebbaf4e7d6… (all of the seat's roots in one cut). By AI agents, Wed Nov 11 2026. No macro, syntax, notation, axiom, sorry.
-/
import Derived.Test.YtkjapphjolahjaaChecked
import GoSem.Claim
import GoSem.ClaimJoined
import GoSem.ClaimMapViews
import Derived.JoinedTies
import Derived.KernelRfl
namespace Go.Proofs.Ytkjapphjolahjaa
/- THE CELL 'sum', in the pinned program and in every row, IS THE sha256 OF THE DUMP (.gsa) THAT YtkjapphjolahjaaProg.lean LOADS. Nothing in Lean hashes anything: it is a label: what it is worth is what the hold of that sum in a sandbox is worth. -/
noncomputable def Try.pinned : Pinned := { name := "ytkjapphjolahjaa", sum := "3afb65ebbaf4e7d6ff10201135246f20fe050ecc566641a1c451fc3aaf4bbedc", checked := Try.checked }
namespace Rows
def none {H : Type} : Left H := { results := [], args := [] }

/-- 'laws.FnExactEmptyTable': WHATEVER THE INPUT: true; the input reads as it did. -/
def fnExactEmptyTableSpec : ChangeSpec := { name := "fnExactEmptyTable", fn := fun _ => fun
  | [d] => { results := [.lit (.bool true)], args := [d] }
  | _ => none }
def fnExactEmptyTableRow : OpenClaim := { program := "ytkjapphjolahjaa", sum := "3afb65ebbaf4e7d6ff10201135246f20fe050ecc566641a1c451fc3aaf4bbedc", func := "loop.example/g01115/laws.FnExactEmptyTable", spec := "fnExactEmptyTable", apart := false }
def FnExactEmptyTableSaid : Prop := fnExactEmptyTableRow.holds Try.pinned (OpenSpec.ofChange fnExactEmptyTableSpec)

/-- ITS FALSE NEIGHBOUR: 'it returns false'. Refute it at one input. -/
def fnExactEmptyTableWrong : ChangeSpec := { name := "fnExactEmptyTable", fn := fun _ => fun
  | [d] => { results := [.lit (.bool false)], args := [d] }
  | _ => none }
def FnExactEmptyTableWrongFalsely : Prop := fnExactEmptyTableRow.holds Try.pinned (OpenSpec.ofChange fnExactEmptyTableWrong)

/-- 'laws.FnExactIsTable': WHATEVER THE INPUT: true; the input reads as it did. -/
def fnExactIsTableSpec : ChangeSpec := { name := "fnExactIsTable", fn := fun _ => fun
  | [d] => { results := [.lit (.bool true)], args := [d] }
  | _ => none }
def fnExactIsTableRow : OpenClaim := { program := "ytkjapphjolahjaa", sum := "3afb65ebbaf4e7d6ff10201135246f20fe050ecc566641a1c451fc3aaf4bbedc", func := "loop.example/g01115/laws.FnExactIsTable", spec := "fnExactIsTable", unfollowed := true, recurses := true, apart := false }
def FnExactIsTableSaid : Prop := fnExactIsTableRow.holds Try.pinned (OpenSpec.ofChange fnExactIsTableSpec)

/-- ITS FALSE NEIGHBOUR: 'it returns false'. Refute it at one input. -/
def fnExactIsTableWrong : ChangeSpec := { name := "fnExactIsTable", fn := fun _ => fun
  | [d] => { results := [.lit (.bool false)], args := [d] }
  | _ => none }
def FnExactIsTableWrongFalsely : Prop := fnExactIsTableRow.holds Try.pinned (OpenSpec.ofChange fnExactIsTableWrong)

/-- 'laws.FnExactFindKey': WHATEVER THE INPUT: true; the input reads as it did. -/
def fnExactFindKeySpec : ChangeSpec := { name := "fnExactFindKey", fn := fun _ => fun
  | [d1, d2] => { results := [.lit (.bool true)], args := [d1, d2] }
  | _ => none }
def fnExactFindKeyRow : OpenClaim := { program := "ytkjapphjolahjaa", sum := "3afb65ebbaf4e7d6ff10201135246f20fe050ecc566641a1c451fc3aaf4bbedc", func := "loop.example/g01115/laws.FnExactFindKey", spec := "fnExactFindKey", unfollowed := true, recurses := true, apart := false }
def FnExactFindKeySaid : Prop := fnExactFindKeyRow.holds Try.pinned (OpenSpec.ofChange fnExactFindKeySpec)

/-- ITS FALSE NEIGHBOUR: 'it returns false'. Refute it at one input. -/
def fnExactFindKeyWrong : ChangeSpec := { name := "fnExactFindKey", fn := fun _ => fun
  | [d1, d2] => { results := [.lit (.bool false)], args := [d1, d2] }
  | _ => none }
def FnExactFindKeyWrongFalsely : Prop := fnExactFindKeyRow.holds Try.pinned (OpenSpec.ofChange fnExactFindKeyWrong)

/-- 'laws.FnExactUsedCells': WHATEVER THE INPUT: true; the input reads as it did. -/
def fnExactUsedCellsSpec : ChangeSpec := { name := "fnExactUsedCells", fn := fun _ => fun
  | [d] => { results := [.lit (.bool true)], args := [d] }
  | _ => none }
def fnExactUsedCellsRow : OpenClaim := { program := "ytkjapphjolahjaa", sum := "3afb65ebbaf4e7d6ff10201135246f20fe050ecc566641a1c451fc3aaf4bbedc", func := "loop.example/g01115/laws.FnExactUsedCells", spec := "fnExactUsedCells", unfollowed := true, recurses := true, apart := false }
def FnExactUsedCellsSaid : Prop := fnExactUsedCellsRow.holds Try.pinned (OpenSpec.ofChange fnExactUsedCellsSpec)

/-- ITS FALSE NEIGHBOUR: 'it returns false'. Refute it at one input. -/
def fnExactUsedCellsWrong : ChangeSpec := { name := "fnExactUsedCells", fn := fun _ => fun
  | [d] => { results := [.lit (.bool false)], args := [d] }
  | _ => none }
def FnExactUsedCellsWrongFalsely : Prop := fnExactUsedCellsRow.holds Try.pinned (OpenSpec.ofChange fnExactUsedCellsWrong)

/-- 'laws.FnExactCostOf': WHATEVER THE INPUT: true; the input reads as it did. -/
def fnExactCostOfSpec : ChangeSpec := { name := "fnExactCostOf", fn := fun _ => fun
  | [d] => { results := [.lit (.bool true)], args := [d] }
  | _ => none }
def fnExactCostOfRow : OpenClaim := { program := "ytkjapphjolahjaa", sum := "3afb65ebbaf4e7d6ff10201135246f20fe050ecc566641a1c451fc3aaf4bbedc", func := "loop.example/g01115/laws.FnExactCostOf", spec := "fnExactCostOf", unfollowed := true, recurses := true, apart := false }
def FnExactCostOfSaid : Prop := fnExactCostOfRow.holds Try.pinned (OpenSpec.ofChange fnExactCostOfSpec)

/-- ITS FALSE NEIGHBOUR: 'it returns false'. Refute it at one input. -/
def fnExactCostOfWrong : ChangeSpec := { name := "fnExactCostOf", fn := fun _ => fun
  | [d] => { results := [.lit (.bool false)], args := [d] }
  | _ => none }
def FnExactCostOfWrongFalsely : Prop := fnExactCostOfRow.holds Try.pinned (OpenSpec.ofChange fnExactCostOfWrong)

/-- 'laws.FnExactClustersOf': WHATEVER THE INPUT: true; the input reads as it did. -/
def fnExactClustersOfSpec : ChangeSpec := { name := "fnExactClustersOf", fn := fun _ => fun
  | [d] => { results := [.lit (.bool true)], args := [d] }
  | _ => none }
def fnExactClustersOfRow : OpenClaim := { program := "ytkjapphjolahjaa", sum := "3afb65ebbaf4e7d6ff10201135246f20fe050ecc566641a1c451fc3aaf4bbedc", func := "loop.example/g01115/laws.FnExactClustersOf", spec := "fnExactClustersOf", unfollowed := true, recurses := true, apart := false }
def FnExactClustersOfSaid : Prop := fnExactClustersOfRow.holds Try.pinned (OpenSpec.ofChange fnExactClustersOfSpec)

/-- ITS FALSE NEIGHBOUR: 'it returns false'. Refute it at one input. -/
def fnExactClustersOfWrong : ChangeSpec := { name := "fnExactClustersOf", fn := fun _ => fun
  | [d] => { results := [.lit (.bool false)], args := [d] }
  | _ => none }
def FnExactClustersOfWrongFalsely : Prop := fnExactClustersOfRow.holds Try.pinned (OpenSpec.ofChange fnExactClustersOfWrong)

/-- 'laws.FnExactLabelOfPoint': WHATEVER THE INPUT: true; the input reads as it did. -/
def fnExactLabelOfPointSpec : ChangeSpec := { name := "fnExactLabelOfPoint", fn := fun _ => fun
  | [d] => { results := [.lit (.bool true)], args := [d] }
  | _ => none }
def fnExactLabelOfPointRow : OpenClaim := { program := "ytkjapphjolahjaa", sum := "3afb65ebbaf4e7d6ff10201135246f20fe050ecc566641a1c451fc3aaf4bbedc", func := "loop.example/g01115/laws.FnExactLabelOfPoint", spec := "fnExactLabelOfPoint", unfollowed := true, recurses := true, apart := false }
def FnExactLabelOfPointSaid : Prop := fnExactLabelOfPointRow.holds Try.pinned (OpenSpec.ofChange fnExactLabelOfPointSpec)

/-- ITS FALSE NEIGHBOUR: 'it returns false'. Refute it at one input. -/
def fnExactLabelOfPointWrong : ChangeSpec := { name := "fnExactLabelOfPoint", fn := fun _ => fun
  | [d] => { results := [.lit (.bool false)], args := [d] }
  | _ => none }
def FnExactLabelOfPointWrongFalsely : Prop := fnExactLabelOfPointRow.holds Try.pinned (OpenSpec.ofChange fnExactLabelOfPointWrong)

/- THE SECOND FORM. 'bulk': how many values and letters a reading holds, each counted each time it is reached (what is shared counts as often as it is met; a slice's spare places count too). A statement '..UptoSaid' is the law's where the arguments, and the package variables that the reading takes, are together of bulk at most 1048576: NARROWER than '..Said'. Prove '..Said' where nothing that the law and all that it calls make is longer than what came in: it says more and counts as full. Else prove '..UptoSaid'. A law counts once. -/
mutual
def uptoBulk {H : Type} : DataW H → Nat
  | .lit (.string bytes) => bytes.length + 1
  | .lit _ => 1
  | .nil => 1
  | .ptr d => uptoBulk d + 1
  | .slice elems spare => uptoBulkAll elems + uptoBulkAll spare + 1
  | .agg parts => uptoBulkAll parts + 1
  | .iface _ d => uptoBulk d + 1
  | .map entries => uptoBulkEntries entries + 1
  | .held _ => 1
def uptoBulkAll {H : Type} : List (DataW H) → Nat
  | [] => 0
  | d :: r => uptoBulk d + uptoBulkAll r
def uptoBulkEntries {H : Type} : List (Lit × DataW H) → Nat
  | [] => 0
  | x :: r => uptoBulkEntry x + uptoBulkEntries r
def uptoBulkEntry {H : Type} : Lit × DataW H → Nat
  | (.string bytes, d) => bytes.length + uptoBulk d + 1
  | (_, d) => uptoBulk d + 1
 end
def uptoSmall : (H : Type) → List (DataW H) → Bool := fun _ ds => decide (uptoBulkAll ds ≤ 1048576)
def OpenSpec.upto (s : _root_.Go.ChangeSpec) : _root_.Go.OpenSpec := { _root_.Go.OpenSpec.ofChange s with cond := some uptoSmall }

/-- 'laws.FnExactEmptyTable', WHERE WHAT IT READS IS OF BULK AT MOST 1048576: true; the input reads as it did. -/
def fnExactEmptyTableUptoRow : OpenClaim := { program := "ytkjapphjolahjaa", sum := "3afb65ebbaf4e7d6ff10201135246f20fe050ecc566641a1c451fc3aaf4bbedc", func := "loop.example/g01115/laws.FnExactEmptyTable", spec := "fnExactEmptyTable", apart := false, narrowed := true }
def FnExactEmptyTableUptoSaid : Prop := fnExactEmptyTableUptoRow.holds Try.pinned (OpenSpec.upto fnExactEmptyTableSpec)

/-- 'laws.FnExactIsTable', WHERE WHAT IT READS IS OF BULK AT MOST 1048576: true; the input reads as it did. -/
def fnExactIsTableUptoRow : OpenClaim := { program := "ytkjapphjolahjaa", sum := "3afb65ebbaf4e7d6ff10201135246f20fe050ecc566641a1c451fc3aaf4bbedc", func := "loop.example/g01115/laws.FnExactIsTable", spec := "fnExactIsTable", unfollowed := true, recurses := true, apart := false, narrowed := true }
def FnExactIsTableUptoSaid : Prop := fnExactIsTableUptoRow.holds Try.pinned (OpenSpec.upto fnExactIsTableSpec)

/-- 'laws.FnExactFindKey', WHERE WHAT IT READS IS OF BULK AT MOST 1048576: true; the input reads as it did. -/
def fnExactFindKeyUptoRow : OpenClaim := { program := "ytkjapphjolahjaa", sum := "3afb65ebbaf4e7d6ff10201135246f20fe050ecc566641a1c451fc3aaf4bbedc", func := "loop.example/g01115/laws.FnExactFindKey", spec := "fnExactFindKey", unfollowed := true, recurses := true, apart := false, narrowed := true }
def FnExactFindKeyUptoSaid : Prop := fnExactFindKeyUptoRow.holds Try.pinned (OpenSpec.upto fnExactFindKeySpec)

/-- 'laws.FnExactUsedCells', WHERE WHAT IT READS IS OF BULK AT MOST 1048576: true; the input reads as it did. -/
def fnExactUsedCellsUptoRow : OpenClaim := { program := "ytkjapphjolahjaa", sum := "3afb65ebbaf4e7d6ff10201135246f20fe050ecc566641a1c451fc3aaf4bbedc", func := "loop.example/g01115/laws.FnExactUsedCells", spec := "fnExactUsedCells", unfollowed := true, recurses := true, apart := false, narrowed := true }
def FnExactUsedCellsUptoSaid : Prop := fnExactUsedCellsUptoRow.holds Try.pinned (OpenSpec.upto fnExactUsedCellsSpec)

/-- 'laws.FnExactCostOf', WHERE WHAT IT READS IS OF BULK AT MOST 1048576: true; the input reads as it did. -/
def fnExactCostOfUptoRow : OpenClaim := { program := "ytkjapphjolahjaa", sum := "3afb65ebbaf4e7d6ff10201135246f20fe050ecc566641a1c451fc3aaf4bbedc", func := "loop.example/g01115/laws.FnExactCostOf", spec := "fnExactCostOf", unfollowed := true, recurses := true, apart := false, narrowed := true }
def FnExactCostOfUptoSaid : Prop := fnExactCostOfUptoRow.holds Try.pinned (OpenSpec.upto fnExactCostOfSpec)

/-- 'laws.FnExactClustersOf', WHERE WHAT IT READS IS OF BULK AT MOST 1048576: true; the input reads as it did. -/
def fnExactClustersOfUptoRow : OpenClaim := { program := "ytkjapphjolahjaa", sum := "3afb65ebbaf4e7d6ff10201135246f20fe050ecc566641a1c451fc3aaf4bbedc", func := "loop.example/g01115/laws.FnExactClustersOf", spec := "fnExactClustersOf", unfollowed := true, recurses := true, apart := false, narrowed := true }
def FnExactClustersOfUptoSaid : Prop := fnExactClustersOfUptoRow.holds Try.pinned (OpenSpec.upto fnExactClustersOfSpec)

/-- 'laws.FnExactLabelOfPoint', WHERE WHAT IT READS IS OF BULK AT MOST 1048576: true; the input reads as it did. -/
def fnExactLabelOfPointUptoRow : OpenClaim := { program := "ytkjapphjolahjaa", sum := "3afb65ebbaf4e7d6ff10201135246f20fe050ecc566641a1c451fc3aaf4bbedc", func := "loop.example/g01115/laws.FnExactLabelOfPoint", spec := "fnExactLabelOfPoint", unfollowed := true, recurses := true, apart := false, narrowed := true }
def FnExactLabelOfPointUptoSaid : Prop := fnExactLabelOfPointUptoRow.holds Try.pinned (OpenSpec.upto fnExactLabelOfPointSpec)

end Rows
end Go.Proofs.Ytkjapphjolahjaa
