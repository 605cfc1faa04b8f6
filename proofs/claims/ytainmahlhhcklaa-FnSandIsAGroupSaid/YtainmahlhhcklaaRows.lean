/-
  No cell of these rows narrows 'for every input' (looked for: loops, veiled, ifaces, maps, wideKeys, modest, calm, conditions, laid).
  DERIVED. THE GIVEN ROWS OF THIS SEAT. 20 by the template 'for every input the law returns true; each argument reads behind the call as it read before'; 0 by the template 'total and deterministic' (their statements: YtainmahlhhcklaaTotals.lean).
  GIVEN WITH THE SEED: the statements are not yours to turn. If you find one false, say at which input.
  Laid BY PROGRAM, IN A SANDBOX (cutbox-rows.mjs): the forced cells as the released guide's own fill.sh prints them over the translation f929867ee8539edc… (all of the seat's roots in one cut). By AI agents, Wed Nov 11 2026. No macro, syntax, notation, axiom, sorry.
-/
import Derived.Test.YtainmahlhhcklaaChecked
import GoSem.Claim
import GoSem.ClaimJoined
import GoSem.ClaimMapViews
import Derived.JoinedTies
import Derived.KernelRfl
namespace Go.Proofs.Ytainmahlhhcklaa
/- THE CELL 'sum', in the pinned program and in every row, IS THE sha256 OF THE DUMP (.gsa) THAT YtainmahlhhcklaaProg.lean LOADS. Nothing in Lean hashes anything: it is a label: what it is worth is what the hold of that sum in a sandbox is worth. -/
noncomputable def Try.pinned : Pinned := { name := "ytainmahlhhcklaa", sum := "f929867ee8539edcbd60d809a04ded60f6728d55bf87b6bde6a0dc1203d73498", checked := Try.checked }
namespace Rows
def none {H : Type} : Left H := { results := [], args := [] }

/-- 'laws.FnExactIsStable': WHATEVER THE INPUT: true; the input reads as it did. -/
def fnExactIsStableSpec : ChangeSpec := { name := "fnExactIsStable", fn := fun _ => fun
  | [d] => { results := [.lit (.bool true)], args := [d] }
  | _ => none }
def fnExactIsStableRow : OpenClaim := { program := "ytainmahlhhcklaa", sum := "f929867ee8539edcbd60d809a04ded60f6728d55bf87b6bde6a0dc1203d73498", func := "loop.example/g01115/laws.FnExactIsStable", spec := "fnExactIsStable", unfollowed := true, recurses := true, apart := false }
def FnExactIsStableSaid : Prop := fnExactIsStableRow.holds Try.pinned (OpenSpec.ofChange fnExactIsStableSpec)

/-- ITS FALSE NEIGHBOUR: 'it returns false'. Refute it at one input. -/
def fnExactIsStableWrong : ChangeSpec := { name := "fnExactIsStable", fn := fun _ => fun
  | [d] => { results := [.lit (.bool false)], args := [d] }
  | _ => none }
def FnExactIsStableWrongFalsely : Prop := fnExactIsStableRow.holds Try.pinned (OpenSpec.ofChange fnExactIsStableWrong)

/-- 'laws.FnExactPlanesBetween': WHATEVER THE INPUT: true; the input reads as it did. -/
def fnExactPlanesBetweenSpec : ChangeSpec := { name := "fnExactPlanesBetween", fn := fun _ => fun
  | [d1, d2] => { results := [.lit (.bool true)], args := [d1, d2] }
  | _ => none }
def fnExactPlanesBetweenRow : OpenClaim := { program := "ytainmahlhhcklaa", sum := "f929867ee8539edcbd60d809a04ded60f6728d55bf87b6bde6a0dc1203d73498", func := "loop.example/g01115/laws.FnExactPlanesBetween", spec := "fnExactPlanesBetween", unfollowed := true, recurses := true, apart := false }
def FnExactPlanesBetweenSaid : Prop := fnExactPlanesBetweenRow.holds Try.pinned (OpenSpec.ofChange fnExactPlanesBetweenSpec)

/-- ITS FALSE NEIGHBOUR: 'it returns false'. Refute it at one input. -/
def fnExactPlanesBetweenWrong : ChangeSpec := { name := "fnExactPlanesBetween", fn := fun _ => fun
  | [d1, d2] => { results := [.lit (.bool false)], args := [d1, d2] }
  | _ => none }
def FnExactPlanesBetweenWrongFalsely : Prop := fnExactPlanesBetweenRow.holds Try.pinned (OpenSpec.ofChange fnExactPlanesBetweenWrong)

/-- 'laws.FnExactToppleSand': WHATEVER THE INPUT: true; the input reads as it did. -/
def fnExactToppleSandSpec : ChangeSpec := { name := "fnExactToppleSand", fn := fun _ => fun
  | [d1, d2] => { results := [.lit (.bool true)], args := [d1, d2] }
  | _ => none }
def fnExactToppleSandRow : OpenClaim := { program := "ytainmahlhhcklaa", sum := "f929867ee8539edcbd60d809a04ded60f6728d55bf87b6bde6a0dc1203d73498", func := "loop.example/g01115/laws.FnExactToppleSand", spec := "fnExactToppleSand", unfollowed := true, recurses := true, apart := false }
def FnExactToppleSandSaid : Prop := fnExactToppleSandRow.holds Try.pinned (OpenSpec.ofChange fnExactToppleSandSpec)

/-- ITS FALSE NEIGHBOUR: 'it returns false'. Refute it at one input. -/
def fnExactToppleSandWrong : ChangeSpec := { name := "fnExactToppleSand", fn := fun _ => fun
  | [d1, d2] => { results := [.lit (.bool false)], args := [d1, d2] }
  | _ => none }
def FnExactToppleSandWrongFalsely : Prop := fnExactToppleSandRow.holds Try.pinned (OpenSpec.ofChange fnExactToppleSandWrong)

/-- 'laws.FnExactLabelOfPoint': WHATEVER THE INPUT: true; the input reads as it did. -/
def fnExactLabelOfPointSpec : ChangeSpec := { name := "fnExactLabelOfPoint", fn := fun _ => fun
  | [d] => { results := [.lit (.bool true)], args := [d] }
  | _ => none }
def fnExactLabelOfPointRow : OpenClaim := { program := "ytainmahlhhcklaa", sum := "f929867ee8539edcbd60d809a04ded60f6728d55bf87b6bde6a0dc1203d73498", func := "loop.example/g01115/laws.FnExactLabelOfPoint", spec := "fnExactLabelOfPoint", unfollowed := true, recurses := true, apart := false }
def FnExactLabelOfPointSaid : Prop := fnExactLabelOfPointRow.holds Try.pinned (OpenSpec.ofChange fnExactLabelOfPointSpec)

/-- ITS FALSE NEIGHBOUR: 'it returns false'. Refute it at one input. -/
def fnExactLabelOfPointWrong : ChangeSpec := { name := "fnExactLabelOfPoint", fn := fun _ => fun
  | [d] => { results := [.lit (.bool false)], args := [d] }
  | _ => none }
def FnExactLabelOfPointWrongFalsely : Prop := fnExactLabelOfPointRow.holds Try.pinned (OpenSpec.ofChange fnExactLabelOfPointWrong)

/-- 'laws.FnExactBaseRegion': WHATEVER THE INPUT: true; the input reads as it did. -/
def fnExactBaseRegionSpec : ChangeSpec := { name := "fnExactBaseRegion", fn := fun _ => fun
  | [d] => { results := [.lit (.bool true)], args := [d] }
  | _ => none }
def fnExactBaseRegionRow : OpenClaim := { program := "ytainmahlhhcklaa", sum := "f929867ee8539edcbd60d809a04ded60f6728d55bf87b6bde6a0dc1203d73498", func := "loop.example/g01115/laws.FnExactBaseRegion", spec := "fnExactBaseRegion", unfollowed := true, recurses := true, apart := false }
def FnExactBaseRegionSaid : Prop := fnExactBaseRegionRow.holds Try.pinned (OpenSpec.ofChange fnExactBaseRegionSpec)

/-- ITS FALSE NEIGHBOUR: 'it returns false'. Refute it at one input. -/
def fnExactBaseRegionWrong : ChangeSpec := { name := "fnExactBaseRegion", fn := fun _ => fun
  | [d] => { results := [.lit (.bool false)], args := [d] }
  | _ => none }
def FnExactBaseRegionWrongFalsely : Prop := fnExactBaseRegionRow.holds Try.pinned (OpenSpec.ofChange fnExactBaseRegionWrong)

/-- 'laws.FnExactSandOfParking': WHATEVER THE INPUT: true; the input reads as it did. -/
def fnExactSandOfParkingSpec : ChangeSpec := { name := "fnExactSandOfParking", fn := fun _ => fun
  | [d] => { results := [.lit (.bool true)], args := [d] }
  | _ => none }
def fnExactSandOfParkingRow : OpenClaim := { program := "ytainmahlhhcklaa", sum := "f929867ee8539edcbd60d809a04ded60f6728d55bf87b6bde6a0dc1203d73498", func := "loop.example/g01115/laws.FnExactSandOfParking", spec := "fnExactSandOfParking", unfollowed := true, recurses := true, apart := false }
def FnExactSandOfParkingSaid : Prop := fnExactSandOfParkingRow.holds Try.pinned (OpenSpec.ofChange fnExactSandOfParkingSpec)

/-- ITS FALSE NEIGHBOUR: 'it returns false'. Refute it at one input. -/
def fnExactSandOfParkingWrong : ChangeSpec := { name := "fnExactSandOfParking", fn := fun _ => fun
  | [d] => { results := [.lit (.bool false)], args := [d] }
  | _ => none }
def FnExactSandOfParkingWrongFalsely : Prop := fnExactSandOfParkingRow.holds Try.pinned (OpenSpec.ofChange fnExactSandOfParkingWrong)

/-- 'laws.FnExactStabilizeSand': WHATEVER THE INPUT: true; the input reads as it did. -/
def fnExactStabilizeSandSpec : ChangeSpec := { name := "fnExactStabilizeSand", fn := fun _ => fun
  | [d] => { results := [.lit (.bool true)], args := [d] }
  | _ => none }
def fnExactStabilizeSandRow : OpenClaim := { program := "ytainmahlhhcklaa", sum := "f929867ee8539edcbd60d809a04ded60f6728d55bf87b6bde6a0dc1203d73498", func := "loop.example/g01115/laws.FnExactStabilizeSand", spec := "fnExactStabilizeSand", unfollowed := true, recurses := true, apart := false }
def FnExactStabilizeSandSaid : Prop := fnExactStabilizeSandRow.holds Try.pinned (OpenSpec.ofChange fnExactStabilizeSandSpec)

/-- ITS FALSE NEIGHBOUR: 'it returns false'. Refute it at one input. -/
def fnExactStabilizeSandWrong : ChangeSpec := { name := "fnExactStabilizeSand", fn := fun _ => fun
  | [d] => { results := [.lit (.bool false)], args := [d] }
  | _ => none }
def FnExactStabilizeSandWrongFalsely : Prop := fnExactStabilizeSandRow.holds Try.pinned (OpenSpec.ofChange fnExactStabilizeSandWrong)

/-- 'laws.FnExactAddSand': WHATEVER THE INPUT: true; the input reads as it did. -/
def fnExactAddSandSpec : ChangeSpec := { name := "fnExactAddSand", fn := fun _ => fun
  | [d1, d2] => { results := [.lit (.bool true)], args := [d1, d2] }
  | _ => none }
def fnExactAddSandRow : OpenClaim := { program := "ytainmahlhhcklaa", sum := "f929867ee8539edcbd60d809a04ded60f6728d55bf87b6bde6a0dc1203d73498", func := "loop.example/g01115/laws.FnExactAddSand", spec := "fnExactAddSand", unfollowed := true, recurses := true, apart := false }
def FnExactAddSandSaid : Prop := fnExactAddSandRow.holds Try.pinned (OpenSpec.ofChange fnExactAddSandSpec)

/-- ITS FALSE NEIGHBOUR: 'it returns false'. Refute it at one input. -/
def fnExactAddSandWrong : ChangeSpec := { name := "fnExactAddSand", fn := fun _ => fun
  | [d1, d2] => { results := [.lit (.bool false)], args := [d1, d2] }
  | _ => none }
def FnExactAddSandWrongFalsely : Prop := fnExactAddSandRow.holds Try.pinned (OpenSpec.ofChange fnExactAddSandWrong)

/-- 'laws.FnExactRestSand': WHATEVER THE INPUT: true; the input reads as it did. -/
def fnExactRestSandSpec : ChangeSpec := { name := "fnExactRestSand", fn := fun _ => fun
  | [d] => { results := [.lit (.bool true)], args := [d] }
  | _ => none }
def fnExactRestSandRow : OpenClaim := { program := "ytainmahlhhcklaa", sum := "f929867ee8539edcbd60d809a04ded60f6728d55bf87b6bde6a0dc1203d73498", func := "loop.example/g01115/laws.FnExactRestSand", spec := "fnExactRestSand", unfollowed := true, recurses := true, apart := false }
def FnExactRestSandSaid : Prop := fnExactRestSandRow.holds Try.pinned (OpenSpec.ofChange fnExactRestSandSpec)

/-- ITS FALSE NEIGHBOUR: 'it returns false'. Refute it at one input. -/
def fnExactRestSandWrong : ChangeSpec := { name := "fnExactRestSand", fn := fun _ => fun
  | [d] => { results := [.lit (.bool false)], args := [d] }
  | _ => none }
def FnExactRestSandWrongFalsely : Prop := fnExactRestSandRow.holds Try.pinned (OpenSpec.ofChange fnExactRestSandWrong)

/-- 'laws.FnSandSettles': WHATEVER THE INPUT: true; the input reads as it did. -/
def fnSandSettlesSpec : ChangeSpec := { name := "fnSandSettles", fn := fun _ => fun
  | [d1, d2] => { results := [.lit (.bool true)], args := [d1, d2] }
  | _ => none }
def fnSandSettlesRow : OpenClaim := { program := "ytainmahlhhcklaa", sum := "f929867ee8539edcbd60d809a04ded60f6728d55bf87b6bde6a0dc1203d73498", func := "loop.example/g01115/laws.FnSandSettles", spec := "fnSandSettles", unfollowed := true, recurses := true, apart := false }
def FnSandSettlesSaid : Prop := fnSandSettlesRow.holds Try.pinned (OpenSpec.ofChange fnSandSettlesSpec)

/-- ITS FALSE NEIGHBOUR: 'it returns false'. Refute it at one input. -/
def fnSandSettlesWrong : ChangeSpec := { name := "fnSandSettles", fn := fun _ => fun
  | [d1, d2] => { results := [.lit (.bool false)], args := [d1, d2] }
  | _ => none }
def FnSandSettlesWrongFalsely : Prop := fnSandSettlesRow.holds Try.pinned (OpenSpec.ofChange fnSandSettlesWrong)

/-- 'laws.FnExactIsRecurrent': WHATEVER THE INPUT: true; the input reads as it did. -/
def fnExactIsRecurrentSpec : ChangeSpec := { name := "fnExactIsRecurrent", fn := fun _ => fun
  | [d] => { results := [.lit (.bool true)], args := [d] }
  | _ => none }
def fnExactIsRecurrentRow : OpenClaim := { program := "ytainmahlhhcklaa", sum := "f929867ee8539edcbd60d809a04ded60f6728d55bf87b6bde6a0dc1203d73498", func := "loop.example/g01115/laws.FnExactIsRecurrent", spec := "fnExactIsRecurrent", unfollowed := true, recurses := true, apart := false }
def FnExactIsRecurrentSaid : Prop := fnExactIsRecurrentRow.holds Try.pinned (OpenSpec.ofChange fnExactIsRecurrentSpec)

/-- ITS FALSE NEIGHBOUR: 'it returns false'. Refute it at one input. -/
def fnExactIsRecurrentWrong : ChangeSpec := { name := "fnExactIsRecurrent", fn := fun _ => fun
  | [d] => { results := [.lit (.bool false)], args := [d] }
  | _ => none }
def FnExactIsRecurrentWrongFalsely : Prop := fnExactIsRecurrentRow.holds Try.pinned (OpenSpec.ofChange fnExactIsRecurrentWrong)

/-- 'laws.FnExactRegionOfLabel': WHATEVER THE INPUT: true; the input reads as it did. -/
def fnExactRegionOfLabelSpec : ChangeSpec := { name := "fnExactRegionOfLabel", fn := fun _ => fun
  | [d] => { results := [.lit (.bool true)], args := [d] }
  | _ => none }
def fnExactRegionOfLabelRow : OpenClaim := { program := "ytainmahlhhcklaa", sum := "f929867ee8539edcbd60d809a04ded60f6728d55bf87b6bde6a0dc1203d73498", func := "loop.example/g01115/laws.FnExactRegionOfLabel", spec := "fnExactRegionOfLabel", unfollowed := true, recurses := true, apart := false }
def FnExactRegionOfLabelSaid : Prop := fnExactRegionOfLabelRow.holds Try.pinned (OpenSpec.ofChange fnExactRegionOfLabelSpec)

/-- ITS FALSE NEIGHBOUR: 'it returns false'. Refute it at one input. -/
def fnExactRegionOfLabelWrong : ChangeSpec := { name := "fnExactRegionOfLabel", fn := fun _ => fun
  | [d] => { results := [.lit (.bool false)], args := [d] }
  | _ => none }
def FnExactRegionOfLabelWrongFalsely : Prop := fnExactRegionOfLabelRow.holds Try.pinned (OpenSpec.ofChange fnExactRegionOfLabelWrong)

/-- 'laws.FnExactFireOrder': WHATEVER THE INPUT: true; the input reads as it did. -/
def fnExactFireOrderSpec : ChangeSpec := { name := "fnExactFireOrder", fn := fun _ => fun
  | [d] => { results := [.lit (.bool true)], args := [d] }
  | _ => none }
def fnExactFireOrderRow : OpenClaim := { program := "ytainmahlhhcklaa", sum := "f929867ee8539edcbd60d809a04ded60f6728d55bf87b6bde6a0dc1203d73498", func := "loop.example/g01115/laws.FnExactFireOrder", spec := "fnExactFireOrder", unfollowed := true, recurses := true, apart := false }
def FnExactFireOrderSaid : Prop := fnExactFireOrderRow.holds Try.pinned (OpenSpec.ofChange fnExactFireOrderSpec)

/-- ITS FALSE NEIGHBOUR: 'it returns false'. Refute it at one input. -/
def fnExactFireOrderWrong : ChangeSpec := { name := "fnExactFireOrder", fn := fun _ => fun
  | [d] => { results := [.lit (.bool false)], args := [d] }
  | _ => none }
def FnExactFireOrderWrongFalsely : Prop := fnExactFireOrderRow.holds Try.pinned (OpenSpec.ofChange fnExactFireOrderWrong)

/-- 'laws.FnExactParkingOfSand': WHATEVER THE INPUT: true; the input reads as it did. -/
def fnExactParkingOfSandSpec : ChangeSpec := { name := "fnExactParkingOfSand", fn := fun _ => fun
  | [d] => { results := [.lit (.bool true)], args := [d] }
  | _ => none }
def fnExactParkingOfSandRow : OpenClaim := { program := "ytainmahlhhcklaa", sum := "f929867ee8539edcbd60d809a04ded60f6728d55bf87b6bde6a0dc1203d73498", func := "loop.example/g01115/laws.FnExactParkingOfSand", spec := "fnExactParkingOfSand", unfollowed := true, recurses := true, apart := false }
def FnExactParkingOfSandSaid : Prop := fnExactParkingOfSandRow.holds Try.pinned (OpenSpec.ofChange fnExactParkingOfSandSpec)

/-- ITS FALSE NEIGHBOUR: 'it returns false'. Refute it at one input. -/
def fnExactParkingOfSandWrong : ChangeSpec := { name := "fnExactParkingOfSand", fn := fun _ => fun
  | [d] => { results := [.lit (.bool false)], args := [d] }
  | _ => none }
def FnExactParkingOfSandWrongFalsely : Prop := fnExactParkingOfSandRow.holds Try.pinned (OpenSpec.ofChange fnExactParkingOfSandWrong)

/-- 'laws.FnExactRepeatSand': WHATEVER THE INPUT: true; the input reads as it did. -/
def fnExactRepeatSandSpec : ChangeSpec := { name := "fnExactRepeatSand", fn := fun _ => fun
  | [d1, d2] => { results := [.lit (.bool true)], args := [d1, d2] }
  | _ => none }
def fnExactRepeatSandRow : OpenClaim := { program := "ytainmahlhhcklaa", sum := "f929867ee8539edcbd60d809a04ded60f6728d55bf87b6bde6a0dc1203d73498", func := "loop.example/g01115/laws.FnExactRepeatSand", spec := "fnExactRepeatSand", unfollowed := true, recurses := true, apart := false }
def FnExactRepeatSandSaid : Prop := fnExactRepeatSandRow.holds Try.pinned (OpenSpec.ofChange fnExactRepeatSandSpec)

/-- ITS FALSE NEIGHBOUR: 'it returns false'. Refute it at one input. -/
def fnExactRepeatSandWrong : ChangeSpec := { name := "fnExactRepeatSand", fn := fun _ => fun
  | [d1, d2] => { results := [.lit (.bool false)], args := [d1, d2] }
  | _ => none }
def FnExactRepeatSandWrongFalsely : Prop := fnExactRepeatSandRow.holds Try.pinned (OpenSpec.ofChange fnExactRepeatSandWrong)

/-- 'laws.FnExactAllRegions': WHATEVER THE INPUT: true; the input reads as it did. -/
def fnExactAllRegionsSpec : ChangeSpec := { name := "fnExactAllRegions", fn := fun _ => fun
  | [d] => { results := [.lit (.bool true)], args := [d] }
  | _ => none }
def fnExactAllRegionsRow : OpenClaim := { program := "ytainmahlhhcklaa", sum := "f929867ee8539edcbd60d809a04ded60f6728d55bf87b6bde6a0dc1203d73498", func := "loop.example/g01115/laws.FnExactAllRegions", spec := "fnExactAllRegions", unfollowed := true, recurses := true, apart := false }
def FnExactAllRegionsSaid : Prop := fnExactAllRegionsRow.holds Try.pinned (OpenSpec.ofChange fnExactAllRegionsSpec)

/-- ITS FALSE NEIGHBOUR: 'it returns false'. Refute it at one input. -/
def fnExactAllRegionsWrong : ChangeSpec := { name := "fnExactAllRegions", fn := fun _ => fun
  | [d] => { results := [.lit (.bool false)], args := [d] }
  | _ => none }
def FnExactAllRegionsWrongFalsely : Prop := fnExactAllRegionsRow.holds Try.pinned (OpenSpec.ofChange fnExactAllRegionsWrong)

/-- 'laws.FnSandIsAGroup': WHATEVER THE INPUT: true; the input reads as it did. -/
def fnSandIsAGroupSpec : ChangeSpec := { name := "fnSandIsAGroup", fn := fun _ => fun
  | [d1, d2] => { results := [.lit (.bool true)], args := [d1, d2] }
  | _ => none }
def fnSandIsAGroupRow : OpenClaim := { program := "ytainmahlhhcklaa", sum := "f929867ee8539edcbd60d809a04ded60f6728d55bf87b6bde6a0dc1203d73498", func := "loop.example/g01115/laws.FnSandIsAGroup", spec := "fnSandIsAGroup", unfollowed := true, recurses := true, apart := false }
def FnSandIsAGroupSaid : Prop := fnSandIsAGroupRow.holds Try.pinned (OpenSpec.ofChange fnSandIsAGroupSpec)

/-- ITS FALSE NEIGHBOUR: 'it returns false'. Refute it at one input. -/
def fnSandIsAGroupWrong : ChangeSpec := { name := "fnSandIsAGroup", fn := fun _ => fun
  | [d1, d2] => { results := [.lit (.bool false)], args := [d1, d2] }
  | _ => none }
def FnSandIsAGroupWrongFalsely : Prop := fnSandIsAGroupRow.holds Try.pinned (OpenSpec.ofChange fnSandIsAGroupWrong)

/-- 'laws.FnRecurrentSand': WHATEVER THE INPUT: true; the input reads as it did. -/
def fnRecurrentSandSpec : ChangeSpec := { name := "fnRecurrentSand", fn := fun _ => fun
  | [d1, d2] => { results := [.lit (.bool true)], args := [d1, d2] }
  | _ => none }
def fnRecurrentSandRow : OpenClaim := { program := "ytainmahlhhcklaa", sum := "f929867ee8539edcbd60d809a04ded60f6728d55bf87b6bde6a0dc1203d73498", func := "loop.example/g01115/laws.FnRecurrentSand", spec := "fnRecurrentSand", unfollowed := true, recurses := true, apart := false }
def FnRecurrentSandSaid : Prop := fnRecurrentSandRow.holds Try.pinned (OpenSpec.ofChange fnRecurrentSandSpec)

/-- ITS FALSE NEIGHBOUR: 'it returns false'. Refute it at one input. -/
def fnRecurrentSandWrong : ChangeSpec := { name := "fnRecurrentSand", fn := fun _ => fun
  | [d1, d2] => { results := [.lit (.bool false)], args := [d1, d2] }
  | _ => none }
def FnRecurrentSandWrongFalsely : Prop := fnRecurrentSandRow.holds Try.pinned (OpenSpec.ofChange fnRecurrentSandWrong)

/-- 'laws.FnExactIsRegion': WHATEVER THE INPUT: true; the input reads as it did. -/
def fnExactIsRegionSpec : ChangeSpec := { name := "fnExactIsRegion", fn := fun _ => fun
  | [d] => { results := [.lit (.bool true)], args := [d] }
  | _ => none }
def fnExactIsRegionRow : OpenClaim := { program := "ytainmahlhhcklaa", sum := "f929867ee8539edcbd60d809a04ded60f6728d55bf87b6bde6a0dc1203d73498", func := "loop.example/g01115/laws.FnExactIsRegion", spec := "fnExactIsRegion", unfollowed := true, recurses := true, apart := false }
def FnExactIsRegionSaid : Prop := fnExactIsRegionRow.holds Try.pinned (OpenSpec.ofChange fnExactIsRegionSpec)

/-- ITS FALSE NEIGHBOUR: 'it returns false'. Refute it at one input. -/
def fnExactIsRegionWrong : ChangeSpec := { name := "fnExactIsRegion", fn := fun _ => fun
  | [d] => { results := [.lit (.bool false)], args := [d] }
  | _ => none }
def FnExactIsRegionWrongFalsely : Prop := fnExactIsRegionRow.holds Try.pinned (OpenSpec.ofChange fnExactIsRegionWrong)

/-- 'laws.FnExactRegionOfPoint': WHATEVER THE INPUT: true; the input reads as it did. -/
def fnExactRegionOfPointSpec : ChangeSpec := { name := "fnExactRegionOfPoint", fn := fun _ => fun
  | [d] => { results := [.lit (.bool true)], args := [d] }
  | _ => none }
def fnExactRegionOfPointRow : OpenClaim := { program := "ytainmahlhhcklaa", sum := "f929867ee8539edcbd60d809a04ded60f6728d55bf87b6bde6a0dc1203d73498", func := "loop.example/g01115/laws.FnExactRegionOfPoint", spec := "fnExactRegionOfPoint", unfollowed := true, recurses := true, apart := false }
def FnExactRegionOfPointSaid : Prop := fnExactRegionOfPointRow.holds Try.pinned (OpenSpec.ofChange fnExactRegionOfPointSpec)

/-- ITS FALSE NEIGHBOUR: 'it returns false'. Refute it at one input. -/
def fnExactRegionOfPointWrong : ChangeSpec := { name := "fnExactRegionOfPoint", fn := fun _ => fun
  | [d] => { results := [.lit (.bool false)], args := [d] }
  | _ => none }
def FnExactRegionOfPointWrongFalsely : Prop := fnExactRegionOfPointRow.holds Try.pinned (OpenSpec.ofChange fnExactRegionOfPointWrong)

/- THE SECOND FORM. 'bulk': how many values and letters a reading holds, each counted each time it is reached (what is shared counts as often as it is met; a slice's spare places count too). A statement '..UptoSaid' is the law's where the arguments, and the package variables that the reading takes, are together of bulk at most 1048576: NARROWER than '..Said'. Prove '..Said' where nothing that the law and all that it calls make is longer than what came in: it says more and counts as full. Else prove '..UptoSaid'. A law counts once. -/
mutual
def uptoBulk {H : Type} : DataW H → Nat
  | .lit (.string bytes) => bytes.length + 1
  | .lit _ => 1
  | .nil => 1
  | .ptr d => uptoBulk d + 1
  | .slice elems spare => uptoBulkAll elems + uptoBulkAll spare + 1
  | .agg parts => uptoBulkAll parts + 1
  | .iface _ d => uptoBulk d + 1
  | .map entries => uptoBulkEntries entries + 1
  | .held _ => 1
def uptoBulkAll {H : Type} : List (DataW H) → Nat
  | [] => 0
  | d :: r => uptoBulk d + uptoBulkAll r
def uptoBulkEntries {H : Type} : List (Lit × DataW H) → Nat
  | [] => 0
  | x :: r => uptoBulkEntry x + uptoBulkEntries r
def uptoBulkEntry {H : Type} : Lit × DataW H → Nat
  | (.string bytes, d) => bytes.length + uptoBulk d + 1
  | (_, d) => uptoBulk d + 1
 end
def uptoSmall : (H : Type) → List (DataW H) → Bool := fun _ ds => decide (uptoBulkAll ds ≤ 1048576)
def OpenSpec.upto (s : _root_.Go.ChangeSpec) : _root_.Go.OpenSpec := { _root_.Go.OpenSpec.ofChange s with cond := some uptoSmall }

/-- 'laws.FnExactIsStable', WHERE WHAT IT READS IS OF BULK AT MOST 1048576: true; the input reads as it did. -/
def fnExactIsStableUptoRow : OpenClaim := { program := "ytainmahlhhcklaa", sum := "f929867ee8539edcbd60d809a04ded60f6728d55bf87b6bde6a0dc1203d73498", func := "loop.example/g01115/laws.FnExactIsStable", spec := "fnExactIsStable", unfollowed := true, recurses := true, apart := false, narrowed := true }
def FnExactIsStableUptoSaid : Prop := fnExactIsStableUptoRow.holds Try.pinned (OpenSpec.upto fnExactIsStableSpec)

/-- 'laws.FnExactPlanesBetween', WHERE WHAT IT READS IS OF BULK AT MOST 1048576: true; the input reads as it did. -/
def fnExactPlanesBetweenUptoRow : OpenClaim := { program := "ytainmahlhhcklaa", sum := "f929867ee8539edcbd60d809a04ded60f6728d55bf87b6bde6a0dc1203d73498", func := "loop.example/g01115/laws.FnExactPlanesBetween", spec := "fnExactPlanesBetween", unfollowed := true, recurses := true, apart := false, narrowed := true }
def FnExactPlanesBetweenUptoSaid : Prop := fnExactPlanesBetweenUptoRow.holds Try.pinned (OpenSpec.upto fnExactPlanesBetweenSpec)

/-- 'laws.FnExactToppleSand', WHERE WHAT IT READS IS OF BULK AT MOST 1048576: true; the input reads as it did. -/
def fnExactToppleSandUptoRow : OpenClaim := { program := "ytainmahlhhcklaa", sum := "f929867ee8539edcbd60d809a04ded60f6728d55bf87b6bde6a0dc1203d73498", func := "loop.example/g01115/laws.FnExactToppleSand", spec := "fnExactToppleSand", unfollowed := true, recurses := true, apart := false, narrowed := true }
def FnExactToppleSandUptoSaid : Prop := fnExactToppleSandUptoRow.holds Try.pinned (OpenSpec.upto fnExactToppleSandSpec)

/-- 'laws.FnExactLabelOfPoint', WHERE WHAT IT READS IS OF BULK AT MOST 1048576: true; the input reads as it did. -/
def fnExactLabelOfPointUptoRow : OpenClaim := { program := "ytainmahlhhcklaa", sum := "f929867ee8539edcbd60d809a04ded60f6728d55bf87b6bde6a0dc1203d73498", func := "loop.example/g01115/laws.FnExactLabelOfPoint", spec := "fnExactLabelOfPoint", unfollowed := true, recurses := true, apart := false, narrowed := true }
def FnExactLabelOfPointUptoSaid : Prop := fnExactLabelOfPointUptoRow.holds Try.pinned (OpenSpec.upto fnExactLabelOfPointSpec)

/-- 'laws.FnExactBaseRegion', WHERE WHAT IT READS IS OF BULK AT MOST 1048576: true; the input reads as it did. -/
def fnExactBaseRegionUptoRow : OpenClaim := { program := "ytainmahlhhcklaa", sum := "f929867ee8539edcbd60d809a04ded60f6728d55bf87b6bde6a0dc1203d73498", func := "loop.example/g01115/laws.FnExactBaseRegion", spec := "fnExactBaseRegion", unfollowed := true, recurses := true, apart := false, narrowed := true }
def FnExactBaseRegionUptoSaid : Prop := fnExactBaseRegionUptoRow.holds Try.pinned (OpenSpec.upto fnExactBaseRegionSpec)

/-- 'laws.FnExactSandOfParking', WHERE WHAT IT READS IS OF BULK AT MOST 1048576: true; the input reads as it did. -/
def fnExactSandOfParkingUptoRow : OpenClaim := { program := "ytainmahlhhcklaa", sum := "f929867ee8539edcbd60d809a04ded60f6728d55bf87b6bde6a0dc1203d73498", func := "loop.example/g01115/laws.FnExactSandOfParking", spec := "fnExactSandOfParking", unfollowed := true, recurses := true, apart := false, narrowed := true }
def FnExactSandOfParkingUptoSaid : Prop := fnExactSandOfParkingUptoRow.holds Try.pinned (OpenSpec.upto fnExactSandOfParkingSpec)

/-- 'laws.FnExactStabilizeSand', WHERE WHAT IT READS IS OF BULK AT MOST 1048576: true; the input reads as it did. -/
def fnExactStabilizeSandUptoRow : OpenClaim := { program := "ytainmahlhhcklaa", sum := "f929867ee8539edcbd60d809a04ded60f6728d55bf87b6bde6a0dc1203d73498", func := "loop.example/g01115/laws.FnExactStabilizeSand", spec := "fnExactStabilizeSand", unfollowed := true, recurses := true, apart := false, narrowed := true }
def FnExactStabilizeSandUptoSaid : Prop := fnExactStabilizeSandUptoRow.holds Try.pinned (OpenSpec.upto fnExactStabilizeSandSpec)

/-- 'laws.FnExactAddSand', WHERE WHAT IT READS IS OF BULK AT MOST 1048576: true; the input reads as it did. -/
def fnExactAddSandUptoRow : OpenClaim := { program := "ytainmahlhhcklaa", sum := "f929867ee8539edcbd60d809a04ded60f6728d55bf87b6bde6a0dc1203d73498", func := "loop.example/g01115/laws.FnExactAddSand", spec := "fnExactAddSand", unfollowed := true, recurses := true, apart := false, narrowed := true }
def FnExactAddSandUptoSaid : Prop := fnExactAddSandUptoRow.holds Try.pinned (OpenSpec.upto fnExactAddSandSpec)

/-- 'laws.FnExactRestSand', WHERE WHAT IT READS IS OF BULK AT MOST 1048576: true; the input reads as it did. -/
def fnExactRestSandUptoRow : OpenClaim := { program := "ytainmahlhhcklaa", sum := "f929867ee8539edcbd60d809a04ded60f6728d55bf87b6bde6a0dc1203d73498", func := "loop.example/g01115/laws.FnExactRestSand", spec := "fnExactRestSand", unfollowed := true, recurses := true, apart := false, narrowed := true }
def FnExactRestSandUptoSaid : Prop := fnExactRestSandUptoRow.holds Try.pinned (OpenSpec.upto fnExactRestSandSpec)

/-- 'laws.FnSandSettles', WHERE WHAT IT READS IS OF BULK AT MOST 1048576: true; the input reads as it did. -/
def fnSandSettlesUptoRow : OpenClaim := { program := "ytainmahlhhcklaa", sum := "f929867ee8539edcbd60d809a04ded60f6728d55bf87b6bde6a0dc1203d73498", func := "loop.example/g01115/laws.FnSandSettles", spec := "fnSandSettles", unfollowed := true, recurses := true, apart := false, narrowed := true }
def FnSandSettlesUptoSaid : Prop := fnSandSettlesUptoRow.holds Try.pinned (OpenSpec.upto fnSandSettlesSpec)

/-- 'laws.FnExactIsRecurrent', WHERE WHAT IT READS IS OF BULK AT MOST 1048576: true; the input reads as it did. -/
def fnExactIsRecurrentUptoRow : OpenClaim := { program := "ytainmahlhhcklaa", sum := "f929867ee8539edcbd60d809a04ded60f6728d55bf87b6bde6a0dc1203d73498", func := "loop.example/g01115/laws.FnExactIsRecurrent", spec := "fnExactIsRecurrent", unfollowed := true, recurses := true, apart := false, narrowed := true }
def FnExactIsRecurrentUptoSaid : Prop := fnExactIsRecurrentUptoRow.holds Try.pinned (OpenSpec.upto fnExactIsRecurrentSpec)

/-- 'laws.FnExactRegionOfLabel', WHERE WHAT IT READS IS OF BULK AT MOST 1048576: true; the input reads as it did. -/
def fnExactRegionOfLabelUptoRow : OpenClaim := { program := "ytainmahlhhcklaa", sum := "f929867ee8539edcbd60d809a04ded60f6728d55bf87b6bde6a0dc1203d73498", func := "loop.example/g01115/laws.FnExactRegionOfLabel", spec := "fnExactRegionOfLabel", unfollowed := true, recurses := true, apart := false, narrowed := true }
def FnExactRegionOfLabelUptoSaid : Prop := fnExactRegionOfLabelUptoRow.holds Try.pinned (OpenSpec.upto fnExactRegionOfLabelSpec)

/-- 'laws.FnExactFireOrder', WHERE WHAT IT READS IS OF BULK AT MOST 1048576: true; the input reads as it did. -/
def fnExactFireOrderUptoRow : OpenClaim := { program := "ytainmahlhhcklaa", sum := "f929867ee8539edcbd60d809a04ded60f6728d55bf87b6bde6a0dc1203d73498", func := "loop.example/g01115/laws.FnExactFireOrder", spec := "fnExactFireOrder", unfollowed := true, recurses := true, apart := false, narrowed := true }
def FnExactFireOrderUptoSaid : Prop := fnExactFireOrderUptoRow.holds Try.pinned (OpenSpec.upto fnExactFireOrderSpec)

/-- 'laws.FnExactParkingOfSand', WHERE WHAT IT READS IS OF BULK AT MOST 1048576: true; the input reads as it did. -/
def fnExactParkingOfSandUptoRow : OpenClaim := { program := "ytainmahlhhcklaa", sum := "f929867ee8539edcbd60d809a04ded60f6728d55bf87b6bde6a0dc1203d73498", func := "loop.example/g01115/laws.FnExactParkingOfSand", spec := "fnExactParkingOfSand", unfollowed := true, recurses := true, apart := false, narrowed := true }
def FnExactParkingOfSandUptoSaid : Prop := fnExactParkingOfSandUptoRow.holds Try.pinned (OpenSpec.upto fnExactParkingOfSandSpec)

/-- 'laws.FnExactRepeatSand', WHERE WHAT IT READS IS OF BULK AT MOST 1048576: true; the input reads as it did. -/
def fnExactRepeatSandUptoRow : OpenClaim := { program := "ytainmahlhhcklaa", sum := "f929867ee8539edcbd60d809a04ded60f6728d55bf87b6bde6a0dc1203d73498", func := "loop.example/g01115/laws.FnExactRepeatSand", spec := "fnExactRepeatSand", unfollowed := true, recurses := true, apart := false, narrowed := true }
def FnExactRepeatSandUptoSaid : Prop := fnExactRepeatSandUptoRow.holds Try.pinned (OpenSpec.upto fnExactRepeatSandSpec)

/-- 'laws.FnExactAllRegions', WHERE WHAT IT READS IS OF BULK AT MOST 1048576: true; the input reads as it did. -/
def fnExactAllRegionsUptoRow : OpenClaim := { program := "ytainmahlhhcklaa", sum := "f929867ee8539edcbd60d809a04ded60f6728d55bf87b6bde6a0dc1203d73498", func := "loop.example/g01115/laws.FnExactAllRegions", spec := "fnExactAllRegions", unfollowed := true, recurses := true, apart := false, narrowed := true }
def FnExactAllRegionsUptoSaid : Prop := fnExactAllRegionsUptoRow.holds Try.pinned (OpenSpec.upto fnExactAllRegionsSpec)

/-- 'laws.FnSandIsAGroup', WHERE WHAT IT READS IS OF BULK AT MOST 1048576: true; the input reads as it did. -/
def fnSandIsAGroupUptoRow : OpenClaim := { program := "ytainmahlhhcklaa", sum := "f929867ee8539edcbd60d809a04ded60f6728d55bf87b6bde6a0dc1203d73498", func := "loop.example/g01115/laws.FnSandIsAGroup", spec := "fnSandIsAGroup", unfollowed := true, recurses := true, apart := false, narrowed := true }
def FnSandIsAGroupUptoSaid : Prop := fnSandIsAGroupUptoRow.holds Try.pinned (OpenSpec.upto fnSandIsAGroupSpec)

/-- 'laws.FnRecurrentSand', WHERE WHAT IT READS IS OF BULK AT MOST 1048576: true; the input reads as it did. -/
def fnRecurrentSandUptoRow : OpenClaim := { program := "ytainmahlhhcklaa", sum := "f929867ee8539edcbd60d809a04ded60f6728d55bf87b6bde6a0dc1203d73498", func := "loop.example/g01115/laws.FnRecurrentSand", spec := "fnRecurrentSand", unfollowed := true, recurses := true, apart := false, narrowed := true }
def FnRecurrentSandUptoSaid : Prop := fnRecurrentSandUptoRow.holds Try.pinned (OpenSpec.upto fnRecurrentSandSpec)

/-- 'laws.FnExactIsRegion', WHERE WHAT IT READS IS OF BULK AT MOST 1048576: true; the input reads as it did. -/
def fnExactIsRegionUptoRow : OpenClaim := { program := "ytainmahlhhcklaa", sum := "f929867ee8539edcbd60d809a04ded60f6728d55bf87b6bde6a0dc1203d73498", func := "loop.example/g01115/laws.FnExactIsRegion", spec := "fnExactIsRegion", unfollowed := true, recurses := true, apart := false, narrowed := true }
def FnExactIsRegionUptoSaid : Prop := fnExactIsRegionUptoRow.holds Try.pinned (OpenSpec.upto fnExactIsRegionSpec)

/-- 'laws.FnExactRegionOfPoint', WHERE WHAT IT READS IS OF BULK AT MOST 1048576: true; the input reads as it did. -/
def fnExactRegionOfPointUptoRow : OpenClaim := { program := "ytainmahlhhcklaa", sum := "f929867ee8539edcbd60d809a04ded60f6728d55bf87b6bde6a0dc1203d73498", func := "loop.example/g01115/laws.FnExactRegionOfPoint", spec := "fnExactRegionOfPoint", unfollowed := true, recurses := true, apart := false, narrowed := true }
def FnExactRegionOfPointUptoSaid : Prop := fnExactRegionOfPointUptoRow.holds Try.pinned (OpenSpec.upto fnExactRegionOfPointSpec)

end Rows
end Go.Proofs.Ytainmahlhhcklaa
