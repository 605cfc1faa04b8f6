/- For a seat of many laws: what the program's head says (its words), without the kernel's decoding of the long string. -/
import Derived.Test.YtainmahlhhcklaaRows
import Derived.JoinedOf
namespace Go.Proofs.Ytainmahlhhcklaa.Big
open Go
theorem wordsSigns_split : ∀ (a r : List Char), wordsSigns (a ++ Char.ofNat 32 :: r) = wordsSigns a ++ wordsSigns r
  | [], r => rfl
  | c :: a, r => by
    have ih := wordsSigns_split a r
    by_cases h : c = Char.ofNat 32
    · subst h
      show [] :: wordsSigns (a ++ Char.ofNat 32 :: r) = ([] :: wordsSigns a) ++ wordsSigns r
      rw [ih]; rfl
    · have e : ∀ l, wordsSigns (c :: l) = match wordsSigns l with
        | w :: ws => (c :: w) :: ws
        | [] => [[c]] := by
        intro l
        rw [wordsSigns]
        all_goals first | rfl | exact h | (intro h'; exact h h')
      rw [List.cons_append, e, e, ih]
      cases hw : wordsSigns a with
      | nil =>
        exfalso
        cases a with
        | nil => simp [wordsSigns] at hw
        | cons x a =>
          unfold wordsSigns at hw
          split at hw
          · simp at *
          · simp at *
          · split at hw <;> simp at hw
      | cons w ws => rfl
theorem stripLifts_cut (R : List (List Char)) : stripLifts liftWords ("cut".toList :: R) = ([], "cut".toList :: R) := by rfl
theorem behind_harness (s : List Char) (R : List (List Char)) (hs : isSumSigns s = true) : behindMainWord ("harness".toList :: s :: R) = R := by
  show (if (("harness".toList == "harness".toList || "harness".toList == "ownmain".toList) && isSumSigns s) = true then R else "harness".toList :: s :: R) = R
  rw [hs]; rfl
theorem mayEnter_of (P : Program) (s : List Char) (R : List (List Char)) (h : wordsSigns P.initOrder.toList = "harness".toList :: s :: "cut".toList :: R) (hs : isSumSigns s = true) (h1 : P.laysLater = false) (h2 : P.bearsReflect = false) (h3 : P.doorFits [] = true) : P.mayEnter = true := by
  unfold Program.mayEnter
  rw [h, behind_harness _ _ hs]
  simp only [stripLifts_cut, h1, h2, h3]
  rfl
theorem liftsFinal_of (P : Program) (s : List Char) (R : List (List Char)) (h : wordsSigns P.initOrder.toList = "harness".toList :: s :: "cut".toList :: R) (hs : isSumSigns s = true) : P.liftsFinal = false := by
  unfold Program.liftsFinal Program.headLifts
  rw [h, behind_harness _ _ hs]
  simp only [stripLifts_cut]
  rfl
theorem make_of (P : Program) (s : List Char) (R : List (List Char)) (h : wordsSigns P.initOrder.toList = "harness".toList :: s :: "cut".toList :: R) (hs : isSumSigns s = true) : P.make = some .cut := by
  unfold Program.make
  rw [h, behind_harness _ _ hs]
  rfl
set_option maxRecDepth 1000000 in
def L : { l : List Char // Try.prog.initOrder = String.ofList l } := ⟨_, rfl⟩
theorem ioList : Try.prog.initOrder.toList = L.1 := (congrArg String.toList L.2).trans String.toList_ofList
set_option maxRecDepth 1000000 in
theorem ioHead : ∃ s R, wordsSigns Try.prog.initOrder.toList = "harness".toList :: s :: "cut".toList :: R ∧ isSumSigns s = true := by
  have e : L.1 = L.1.take 76 ++ Char.ofNat 32 :: L.1.drop 77 := by kernel_rfl
  refine ⟨(L.1.take 72).drop 8, wordsSigns (L.1.drop 77), ?_, by kernel_rfl⟩
  rw [ioList]
  refine (congrArg wordsSigns e).trans ((wordsSigns_split _ _).trans ?_)
  have e2 : wordsSigns (L.1.take 76) = "harness".toList :: (L.1.take 72).drop 8 :: "cut".toList :: [] := by kernel_rfl
  rw [e2]; rfl
theorem may : Try.prog.mayEnter = true := by
  obtain ⟨s, R, h, hs⟩ := ioHead
  exact mayEnter_of _ s R h hs (by kernel_rfl) (by kernel_rfl) (by kernel_rfl)
theorem lifts : Try.prog.liftsFinal = false := by
  obtain ⟨s, R, h, hs⟩ := ioHead
  exact liftsFinal_of _ s R h hs
theorem make : Try.prog.make = some .cut := by
  obtain ⟨s, R, h, hs⟩ := ioHead
  exact make_of _ s R h hs
end Go.Proofs.Ytainmahlhhcklaa.Big
