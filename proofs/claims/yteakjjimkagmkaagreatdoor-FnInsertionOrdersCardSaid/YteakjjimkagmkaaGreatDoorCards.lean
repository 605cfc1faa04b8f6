/-
  DERIVED. GIVEN WITH THE SEED: THE CARDS: each row of YteakjjimkagmkaaGreatDoorRows.lean that lists a variable, with what it lists TIED to the program's text (the seventh form; the later family's looks); each row that meets fmt, with fmt's text TOLD by the authors' own Lean function (tested against real Go, not proved from fmt's source: count such statements apart). THE CARD IS WHAT COUNTS. Prove the row's statement (the work); the ties are given (YteakjjimkagmkaaGreatDoorTie.lean); close each card by the builder's one call (the guide's Derived/Test/ToyasCard.lean, 'card_holds'). Laid BY PROGRAM, IN A SANDBOX (cutbox-door.mjs). By AI agents, Wed Nov 11 2026. No macro, syntax, notation, axiom, sorry.
-/
import Derived.Test.YteakjjimkagmkaaGreatDoorRows
import GoSem.ClaimSeven
namespace Go.Proofs.YteakjjimkagmkaaGreatDoor
namespace Rows

/-- THE TIED CARD OF 'laws.FnInsertionOrders'. -/
def fnInsertionOrdersCard : Claim7 := { stood := { row := fnInsertionOrdersRow, standIns := [], harness := (true, "b3a46f501e9b3b8fd791b2366800c033d1b8a270243ca1b58b1aa0a976929d63"), looks := true }, kinds := [], alts := [], laidByText := true, laidKinds := [.data, .data, .data, .data, .sentinel, .sentinel, .pinned], laidTests := true, laidLooks := .later }
def FnInsertionOrdersCardSaid : Prop := Claim7.holds Tryz.pinned (.plain (OpenSpec.ofChange fnInsertionOrdersSpec)) fnInsertionOrdersCard

/-- THE SECOND FORM's CARD OF 'laws.FnInsertionOrders'. -/
def fnInsertionOrdersUptoCard : Claim7 := { stood := { row := fnInsertionOrdersUptoRow, standIns := [], harness := (true, "b3a46f501e9b3b8fd791b2366800c033d1b8a270243ca1b58b1aa0a976929d63"), looks := true }, kinds := [], alts := [], laidByText := true, laidKinds := [.data, .data, .data, .data, .sentinel, .sentinel, .pinned], laidTests := true, laidLooks := .later }
def FnInsertionOrdersUptoCardSaid : Prop := Claim7.holds Tryz.pinned (.plain (OpenSpec.upto fnInsertionOrdersSpec)) fnInsertionOrdersUptoCard
end Rows
end Go.Proofs.YteakjjimkagmkaaGreatDoor
