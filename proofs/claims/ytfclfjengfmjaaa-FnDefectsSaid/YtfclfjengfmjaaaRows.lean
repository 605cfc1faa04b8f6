/-
  No cell of these rows narrows 'for every input' (looked for: loops, veiled, ifaces, maps, wideKeys, modest, calm, conditions, laid).
  DERIVED. THE GIVEN ROWS OF THIS SEAT. 8 by the template 'for every input the law returns true; each argument reads behind the call as it read before'; 0 by the template 'total and deterministic' (their statements: YtfclfjengfmjaaaTotals.lean).
  GIVEN WITH THE SEED: the statements are not yours to turn. If you find one false, say at which input.
  Laid BY PROGRAM, IN A SANDBOX (cutbox-rows.mjs): the forced cells as the released guide's own fill.sh prints them over the translation 13c3d1637707142f… (all of the seat's roots in one cut). By AI agents, Wed Nov 11 2026. No macro, syntax, notation, axiom, sorry.
-/
import Derived.Test.YtfclfjengfmjaaaChecked
import GoSem.Claim
import GoSem.ClaimJoined
import GoSem.ClaimMapViews
import Derived.JoinedTies
import Derived.KernelRfl
namespace Go.Proofs.Ytfclfjengfmjaaa
/- THE CELL 'sum', in the pinned program and in every row, IS THE sha256 OF THE DUMP (.gsa) THAT YtfclfjengfmjaaaProg.lean LOADS. Nothing in Lean hashes anything: it is a label: what it is worth is what the hold of that sum in a sandbox is worth. -/
noncomputable def Try.pinned : Pinned := { name := "ytfclfjengfmjaaa", sum := "13c3d1637707142f6ca0a04a8c2fbe1afda2c95507188e1c073e91917391fd48", checked := Try.checked }
namespace Rows
def none {H : Type} : Left H := { results := [], args := [] }

/-- 'laws.FnExactDriveLong': WHATEVER THE INPUT: true; the input reads as it did. -/
def fnExactDriveLongSpec : ChangeSpec := { name := "fnExactDriveLong", fn := fun _ => fun
  | [d1, d2] => { results := [.lit (.bool true)], args := [d1, d2] }
  | _ => none }
def fnExactDriveLongRow : OpenClaim := { program := "ytfclfjengfmjaaa", sum := "13c3d1637707142f6ca0a04a8c2fbe1afda2c95507188e1c073e91917391fd48", func := "loop.example/g01115/laws.FnExactDriveLong", spec := "fnExactDriveLong", unfollowed := true, recurses := true, apart := false }
def FnExactDriveLongSaid : Prop := fnExactDriveLongRow.holds Try.pinned (OpenSpec.ofChange fnExactDriveLongSpec)

/-- ITS FALSE NEIGHBOUR: 'it returns false'. Refute it at one input. -/
def fnExactDriveLongWrong : ChangeSpec := { name := "fnExactDriveLong", fn := fun _ => fun
  | [d1, d2] => { results := [.lit (.bool false)], args := [d1, d2] }
  | _ => none }
def FnExactDriveLongWrongFalsely : Prop := fnExactDriveLongRow.holds Try.pinned (OpenSpec.ofChange fnExactDriveLongWrong)

/-- 'laws.FnLongCounts': WHATEVER THE INPUT: true; the input reads as it did. -/
def fnLongCountsSpec : ChangeSpec := { name := "fnLongCounts", fn := fun _ => fun
  | [d1, d2] => { results := [.lit (.bool true)], args := [d1, d2] }
  | _ => none }
def fnLongCountsRow : OpenClaim := { program := "ytfclfjengfmjaaa", sum := "13c3d1637707142f6ca0a04a8c2fbe1afda2c95507188e1c073e91917391fd48", func := "loop.example/g01115/laws.FnLongCounts", spec := "fnLongCounts", unfollowed := true, recurses := true, apart := false }
def FnLongCountsSaid : Prop := fnLongCountsRow.holds Try.pinned (OpenSpec.ofChange fnLongCountsSpec)

/-- ITS FALSE NEIGHBOUR: 'it returns false'. Refute it at one input. -/
def fnLongCountsWrong : ChangeSpec := { name := "fnLongCounts", fn := fun _ => fun
  | [d1, d2] => { results := [.lit (.bool false)], args := [d1, d2] }
  | _ => none }
def FnLongCountsWrongFalsely : Prop := fnLongCountsRow.holds Try.pinned (OpenSpec.ofChange fnLongCountsWrong)

/-- 'laws.FnExactStretchList': WHATEVER THE INPUT: true; the input reads as it did. -/
def fnExactStretchListSpec : ChangeSpec := { name := "fnExactStretchList", fn := fun _ => fun
  | [d1, d2] => { results := [.lit (.bool true)], args := [d1, d2] }
  | _ => none }
def fnExactStretchListRow : OpenClaim := { program := "ytfclfjengfmjaaa", sum := "13c3d1637707142f6ca0a04a8c2fbe1afda2c95507188e1c073e91917391fd48", func := "loop.example/g01115/laws.FnExactStretchList", spec := "fnExactStretchList", unfollowed := true, recurses := true, apart := false }
def FnExactStretchListSaid : Prop := fnExactStretchListRow.holds Try.pinned (OpenSpec.ofChange fnExactStretchListSpec)

/-- ITS FALSE NEIGHBOUR: 'it returns false'. Refute it at one input. -/
def fnExactStretchListWrong : ChangeSpec := { name := "fnExactStretchList", fn := fun _ => fun
  | [d1, d2] => { results := [.lit (.bool false)], args := [d1, d2] }
  | _ => none }
def FnExactStretchListWrongFalsely : Prop := fnExactStretchListRow.holds Try.pinned (OpenSpec.ofChange fnExactStretchListWrong)

/-- 'laws.FnExactCountBack': WHATEVER THE INPUT: true; the input reads as it did. -/
def fnExactCountBackSpec : ChangeSpec := { name := "fnExactCountBack", fn := fun _ => fun
  | [d1, d2] => { results := [.lit (.bool true)], args := [d1, d2] }
  | _ => none }
def fnExactCountBackRow : OpenClaim := { program := "ytfclfjengfmjaaa", sum := "13c3d1637707142f6ca0a04a8c2fbe1afda2c95507188e1c073e91917391fd48", func := "loop.example/g01115/laws.FnExactCountBack", spec := "fnExactCountBack", unfollowed := true, recurses := true, apart := false }
def FnExactCountBackSaid : Prop := fnExactCountBackRow.holds Try.pinned (OpenSpec.ofChange fnExactCountBackSpec)

/-- ITS FALSE NEIGHBOUR: 'it returns false'. Refute it at one input. -/
def fnExactCountBackWrong : ChangeSpec := { name := "fnExactCountBack", fn := fun _ => fun
  | [d1, d2] => { results := [.lit (.bool false)], args := [d1, d2] }
  | _ => none }
def FnExactCountBackWrongFalsely : Prop := fnExactCountBackRow.holds Try.pinned (OpenSpec.ofChange fnExactCountBackWrong)

/-- 'laws.FnExactCountByDefect': WHATEVER THE INPUT: true; the input reads as it did. -/
def fnExactCountByDefectSpec : ChangeSpec := { name := "fnExactCountByDefect", fn := fun _ => fun
  | [d] => { results := [.lit (.bool true)], args := [d] }
  | _ => none }
def fnExactCountByDefectRow : OpenClaim := { program := "ytfclfjengfmjaaa", sum := "13c3d1637707142f6ca0a04a8c2fbe1afda2c95507188e1c073e91917391fd48", func := "loop.example/g01115/laws.FnExactCountByDefect", spec := "fnExactCountByDefect", unfollowed := true, recurses := true, apart := false }
def FnExactCountByDefectSaid : Prop := fnExactCountByDefectRow.holds Try.pinned (OpenSpec.ofChange fnExactCountByDefectSpec)

/-- ITS FALSE NEIGHBOUR: 'it returns false'. Refute it at one input. -/
def fnExactCountByDefectWrong : ChangeSpec := { name := "fnExactCountByDefect", fn := fun _ => fun
  | [d] => { results := [.lit (.bool false)], args := [d] }
  | _ => none }
def FnExactCountByDefectWrongFalsely : Prop := fnExactCountByDefectRow.holds Try.pinned (OpenSpec.ofChange fnExactCountByDefectWrong)

/-- 'laws.FnCarsThatLookBack': WHATEVER THE INPUT: true; the input reads as it did. -/
def fnCarsThatLookBackSpec : ChangeSpec := { name := "fnCarsThatLookBack", fn := fun _ => fun
  | [d1, d2] => { results := [.lit (.bool true)], args := [d1, d2] }
  | _ => none }
def fnCarsThatLookBackRow : OpenClaim := { program := "ytfclfjengfmjaaa", sum := "13c3d1637707142f6ca0a04a8c2fbe1afda2c95507188e1c073e91917391fd48", func := "loop.example/g01115/laws.FnCarsThatLookBack", spec := "fnCarsThatLookBack", unfollowed := true, recurses := true, apart := false }
def FnCarsThatLookBackSaid : Prop := fnCarsThatLookBackRow.holds Try.pinned (OpenSpec.ofChange fnCarsThatLookBackSpec)

/-- ITS FALSE NEIGHBOUR: 'it returns false'. Refute it at one input. -/
def fnCarsThatLookBackWrong : ChangeSpec := { name := "fnCarsThatLookBack", fn := fun _ => fun
  | [d1, d2] => { results := [.lit (.bool false)], args := [d1, d2] }
  | _ => none }
def FnCarsThatLookBackWrongFalsely : Prop := fnCarsThatLookBackRow.holds Try.pinned (OpenSpec.ofChange fnCarsThatLookBackWrong)

/-- 'laws.FnLongCars': WHATEVER THE INPUT: true; the input reads as it did. -/
def fnLongCarsSpec : ChangeSpec := { name := "fnLongCars", fn := fun _ => fun
  | [d1, d2] => { results := [.lit (.bool true)], args := [d1, d2] }
  | _ => none }
def fnLongCarsRow : OpenClaim := { program := "ytfclfjengfmjaaa", sum := "13c3d1637707142f6ca0a04a8c2fbe1afda2c95507188e1c073e91917391fd48", func := "loop.example/g01115/laws.FnLongCars", spec := "fnLongCars", unfollowed := true, recurses := true, apart := false }
def FnLongCarsSaid : Prop := fnLongCarsRow.holds Try.pinned (OpenSpec.ofChange fnLongCarsSpec)

/-- ITS FALSE NEIGHBOUR: 'it returns false'. Refute it at one input. -/
def fnLongCarsWrong : ChangeSpec := { name := "fnLongCars", fn := fun _ => fun
  | [d1, d2] => { results := [.lit (.bool false)], args := [d1, d2] }
  | _ => none }
def FnLongCarsWrongFalsely : Prop := fnLongCarsRow.holds Try.pinned (OpenSpec.ofChange fnLongCarsWrong)

/-- 'laws.FnDefects': WHATEVER THE INPUT: true; the input reads as it did. -/
def fnDefectsSpec : ChangeSpec := { name := "fnDefects", fn := fun _ => fun
  | [d1, d2] => { results := [.lit (.bool true)], args := [d1, d2] }
  | _ => none }
def fnDefectsRow : OpenClaim := { program := "ytfclfjengfmjaaa", sum := "13c3d1637707142f6ca0a04a8c2fbe1afda2c95507188e1c073e91917391fd48", func := "loop.example/g01115/laws.FnDefects", spec := "fnDefects", unfollowed := true, recurses := true, apart := false }
def FnDefectsSaid : Prop := fnDefectsRow.holds Try.pinned (OpenSpec.ofChange fnDefectsSpec)

/-- ITS FALSE NEIGHBOUR: 'it returns false'. Refute it at one input. -/
def fnDefectsWrong : ChangeSpec := { name := "fnDefects", fn := fun _ => fun
  | [d1, d2] => { results := [.lit (.bool false)], args := [d1, d2] }
  | _ => none }
def FnDefectsWrongFalsely : Prop := fnDefectsRow.holds Try.pinned (OpenSpec.ofChange fnDefectsWrong)

/- THE SECOND FORM. 'bulk': how many values and letters a reading holds, each counted each time it is reached (what is shared counts as often as it is met; a slice's spare places count too). A statement '..UptoSaid' is the law's where the arguments, and the package variables that the reading takes, are together of bulk at most 1048576: NARROWER than '..Said'. Prove '..Said' where nothing that the law and all that it calls make is longer than what came in: it says more and counts as full. Else prove '..UptoSaid'. A law counts once. -/
mutual
def uptoBulk {H : Type} : DataW H → Nat
  | .lit (.string bytes) => bytes.length + 1
  | .lit _ => 1
  | .nil => 1
  | .ptr d => uptoBulk d + 1
  | .slice elems spare => uptoBulkAll elems + uptoBulkAll spare + 1
  | .agg parts => uptoBulkAll parts + 1
  | .iface _ d => uptoBulk d + 1
  | .map entries => uptoBulkEntries entries + 1
  | .held _ => 1
def uptoBulkAll {H : Type} : List (DataW H) → Nat
  | [] => 0
  | d :: r => uptoBulk d + uptoBulkAll r
def uptoBulkEntries {H : Type} : List (Lit × DataW H) → Nat
  | [] => 0
  | x :: r => uptoBulkEntry x + uptoBulkEntries r
def uptoBulkEntry {H : Type} : Lit × DataW H → Nat
  | (.string bytes, d) => bytes.length + uptoBulk d + 1
  | (_, d) => uptoBulk d + 1
 end
def uptoSmall : (H : Type) → List (DataW H) → Bool := fun _ ds => decide (uptoBulkAll ds ≤ 1048576)
def OpenSpec.upto (s : _root_.Go.ChangeSpec) : _root_.Go.OpenSpec := { _root_.Go.OpenSpec.ofChange s with cond := some uptoSmall }

/-- 'laws.FnExactDriveLong', WHERE WHAT IT READS IS OF BULK AT MOST 1048576: true; the input reads as it did. -/
def fnExactDriveLongUptoRow : OpenClaim := { program := "ytfclfjengfmjaaa", sum := "13c3d1637707142f6ca0a04a8c2fbe1afda2c95507188e1c073e91917391fd48", func := "loop.example/g01115/laws.FnExactDriveLong", spec := "fnExactDriveLong", unfollowed := true, recurses := true, apart := false, narrowed := true }
def FnExactDriveLongUptoSaid : Prop := fnExactDriveLongUptoRow.holds Try.pinned (OpenSpec.upto fnExactDriveLongSpec)

/-- 'laws.FnLongCounts', WHERE WHAT IT READS IS OF BULK AT MOST 1048576: true; the input reads as it did. -/
def fnLongCountsUptoRow : OpenClaim := { program := "ytfclfjengfmjaaa", sum := "13c3d1637707142f6ca0a04a8c2fbe1afda2c95507188e1c073e91917391fd48", func := "loop.example/g01115/laws.FnLongCounts", spec := "fnLongCounts", unfollowed := true, recurses := true, apart := false, narrowed := true }
def FnLongCountsUptoSaid : Prop := fnLongCountsUptoRow.holds Try.pinned (OpenSpec.upto fnLongCountsSpec)

/-- 'laws.FnExactStretchList', WHERE WHAT IT READS IS OF BULK AT MOST 1048576: true; the input reads as it did. -/
def fnExactStretchListUptoRow : OpenClaim := { program := "ytfclfjengfmjaaa", sum := "13c3d1637707142f6ca0a04a8c2fbe1afda2c95507188e1c073e91917391fd48", func := "loop.example/g01115/laws.FnExactStretchList", spec := "fnExactStretchList", unfollowed := true, recurses := true, apart := false, narrowed := true }
def FnExactStretchListUptoSaid : Prop := fnExactStretchListUptoRow.holds Try.pinned (OpenSpec.upto fnExactStretchListSpec)

/-- 'laws.FnExactCountBack', WHERE WHAT IT READS IS OF BULK AT MOST 1048576: true; the input reads as it did. -/
def fnExactCountBackUptoRow : OpenClaim := { program := "ytfclfjengfmjaaa", sum := "13c3d1637707142f6ca0a04a8c2fbe1afda2c95507188e1c073e91917391fd48", func := "loop.example/g01115/laws.FnExactCountBack", spec := "fnExactCountBack", unfollowed := true, recurses := true, apart := false, narrowed := true }
def FnExactCountBackUptoSaid : Prop := fnExactCountBackUptoRow.holds Try.pinned (OpenSpec.upto fnExactCountBackSpec)

/-- 'laws.FnExactCountByDefect', WHERE WHAT IT READS IS OF BULK AT MOST 1048576: true; the input reads as it did. -/
def fnExactCountByDefectUptoRow : OpenClaim := { program := "ytfclfjengfmjaaa", sum := "13c3d1637707142f6ca0a04a8c2fbe1afda2c95507188e1c073e91917391fd48", func := "loop.example/g01115/laws.FnExactCountByDefect", spec := "fnExactCountByDefect", unfollowed := true, recurses := true, apart := false, narrowed := true }
def FnExactCountByDefectUptoSaid : Prop := fnExactCountByDefectUptoRow.holds Try.pinned (OpenSpec.upto fnExactCountByDefectSpec)

/-- 'laws.FnCarsThatLookBack', WHERE WHAT IT READS IS OF BULK AT MOST 1048576: true; the input reads as it did. -/
def fnCarsThatLookBackUptoRow : OpenClaim := { program := "ytfclfjengfmjaaa", sum := "13c3d1637707142f6ca0a04a8c2fbe1afda2c95507188e1c073e91917391fd48", func := "loop.example/g01115/laws.FnCarsThatLookBack", spec := "fnCarsThatLookBack", unfollowed := true, recurses := true, apart := false, narrowed := true }
def FnCarsThatLookBackUptoSaid : Prop := fnCarsThatLookBackUptoRow.holds Try.pinned (OpenSpec.upto fnCarsThatLookBackSpec)

/-- 'laws.FnLongCars', WHERE WHAT IT READS IS OF BULK AT MOST 1048576: true; the input reads as it did. -/
def fnLongCarsUptoRow : OpenClaim := { program := "ytfclfjengfmjaaa", sum := "13c3d1637707142f6ca0a04a8c2fbe1afda2c95507188e1c073e91917391fd48", func := "loop.example/g01115/laws.FnLongCars", spec := "fnLongCars", unfollowed := true, recurses := true, apart := false, narrowed := true }
def FnLongCarsUptoSaid : Prop := fnLongCarsUptoRow.holds Try.pinned (OpenSpec.upto fnLongCarsSpec)

/-- 'laws.FnDefects', WHERE WHAT IT READS IS OF BULK AT MOST 1048576: true; the input reads as it did. -/
def fnDefectsUptoRow : OpenClaim := { program := "ytfclfjengfmjaaa", sum := "13c3d1637707142f6ca0a04a8c2fbe1afda2c95507188e1c073e91917391fd48", func := "loop.example/g01115/laws.FnDefects", spec := "fnDefects", unfollowed := true, recurses := true, apart := false, narrowed := true }
def FnDefectsUptoSaid : Prop := fnDefectsUptoRow.holds Try.pinned (OpenSpec.upto fnDefectsSpec)

end Rows
end Go.Proofs.Ytfclfjengfmjaaa
