/- The law FnSandSettles: part 2 of the printed functions and the facts on them that its row leans on (merged by this session's slim.py). -/
import Derived.Test.YtainmahlhhcklaaZFnSandSettles1
namespace Go.Proofs.Ytainmahlhhcklaa.G
open Go.RowKit Go.Proofs.YtainmahlhhcklaaW.PrintWords Go.Proofs.YtainmahlhhcklaaW.PrintLast Go.Proofs.YtainmahlhhcklaaW.PrintMore
attribute [local go_sem] max2_int min2_int max_two min_two max_three min_three max_four min_four   -- for this text's walks alone
set_option linter.unusedVariables false
set_option linter.unusedSimpArgs false
/-! ### laws_FnSandSettles: function 12 -/
mutual
def laws_FnSandSettles.j0 : Nat → List Int → List Int → List Int → List Int → Bool → Bool → Option (Bool)
  | 0, _, _, _, _, _, _ => none
  | k + 1, x1, x5, x6, x7, x11, x64 => if x64 = true then (some false) else ((spec_DrawToppleSand.f k x1).bind fun bt808 => ((impl_ToppleSand.f k bt808.1 bt808.2).bind fun bt812 => ((spec_ToppleSand.f k bt808.1 bt808.2).bind fun bt816 => (if (bt812.2 != bt816.2) = true then (laws_FnSandSettles.j1 k x5 x6 x7 x11 bt808.1 bt808.2 bt812.1 bt812.2 true) else ((laws_wSame.f k bt812.1 bt816.1).bind fun t820 => (laws_FnSandSettles.j1 k x5 x6 x7 x11 bt808.1 bt808.2 bt812.1 bt812.2 (!t820)))))))
def laws_FnSandSettles.j1 : Nat → List Int → List Int → List Int → Bool → List Int → Int → List Int → Bool → Bool → Option (Bool)
  | 0, _, _, _, _, _, _, _, _, _ => none
  | k + 1, x5, x6, x7, x11, x12, x13, x14, x15, x90 => if x90 = true then (some false) else (if x15 = true then ((impl_StabilizeSand.f k x12).bind fun bt821 => ((impl_StabilizeSand.f k x14).bind fun bt828 => (if bt821.2.2 = true then (if bt828.2.2 = true then ((laws_wSame.f k bt821.1 bt828.1).bind fun t835 => (laws_FnSandSettles.j2 k x5 x6 x7 x11 x13 bt821.2.1 bt828.2.1 (!t835))) else (laws_FnSandSettles.j2 k x5 x6 x7 x11 x13 bt821.2.1 bt828.2.1 true)) else (laws_FnSandSettles.j2 k x5 x6 x7 x11 x13 bt821.2.1 bt828.2.1 true)))) else (laws_FnSandSettles.j4 k x5 x6 x7 x11))
def laws_FnSandSettles.j4 : Nat → List Int → List Int → List Int → Bool → Option (Bool)
  | 0, _, _, _, _ => none
  | k + 1, x5, x6, x7, x11 => if x11 = true then ((impl_IsStable.f x6).bind fun bt839 => ((impl_IsStable.f x5).bind fun bt841 => (if bt839.2 = true then (if bt841.2 = true then (if bt839.1 = true then ((laws_wSum.f k x7).bind fun t843 => (if (bt841.1 != (t843 == 0)) = true then (laws_FnSandSettles.j5 k x5 x6 x7 true) else ((laws_wSum.f k x5).bind fun t844 => ((laws_wSum.f k x6).bind fun t845 => ((laws_wSum.f k x7).bind fun t846 => (laws_FnSandSettles.j5 k x5 x6 x7 ((wrap64 (t844 - t845)) != t846))))))) else (laws_FnSandSettles.j5 k x5 x6 x7 true)) else (laws_FnSandSettles.j5 k x5 x6 x7 true)) else (laws_FnSandSettles.j5 k x5 x6 x7 true)))) else (some true)
def laws_FnSandSettles.j5 : Nat → List Int → List Int → List Int → Bool → Option (Bool)
  | 0, _, _, _, _ => none
  | k + 1, x5, x6, x7, x175 => if x175 = true then (some false) else ((laws_wSum.f k x7).bind fun t847 => (laws_FnSandSettles.l1 k x5 x6 x7 t847 x5 (x5.length : Int) 0))
def laws_FnSandSettles.l1 : Nat → List Int → List Int → List Int → Int → List Int → Int → Int → Option (Bool)
  | 0, _, _, _, _, _, _, _ => none
  | k + 1, x5, x6, x7, x30, x178, x179, x180 => if x180 < x179 then (if 0 ≤ x180 then (if x180 < (x178.length : Int) then (if x180 < (x6.length : Int) then (if x180 < (x7.length : Int) then (if (rd x6 x180) = (wrap64 ((wrap64 ((rd x178 x180) - (wrap64 ((wrap64 ((x5.length : Int) + 1)) * (rd x7 x180))))) + x30)) then (laws_FnSandSettles.l1 k x5 x6 x7 x30 x178 x179 (wrap64 (x180 + 1))) else (some false)) else (none)) else (none)) else (none)) else (none)) else (some true)
def laws_FnSandSettles.j2 : Nat → List Int → List Int → List Int → Bool → Int → List Int → List Int → Bool → Option (Bool)
  | 0, _, _, _, _, _, _, _, _ => none
  | k + 1, x5, x6, x7, x11, x13, x19, x22, x115 => if x115 = true then (some false) else (laws_FnSandSettles.l0 k x5 x6 x7 x11 x13 x19 x22 (x19.length : Int) 0)
def laws_FnSandSettles.l0 : Nat → List Int → List Int → List Int → Bool → Int → List Int → List Int → Int → Int → Option (Bool)
  | 0, _, _, _, _, _, _, _, _, _ => none
  | k + 1, x5, x6, x7, x11, x13, x19, x22, x117, x118 => if x118 < x117 then (if 0 ≤ x118 then (if x118 < (x22.length : Int) then (if x118 = x13 then (if x118 < (x19.length : Int) then (if (wrap64 ((rd x22 x118) + 1)) = (rd x19 x118) then (laws_FnSandSettles.l0 k x5 x6 x7 x11 x13 x19 x22 x117 (wrap64 (x118 + 1))) else (some false)) else (none)) else (if x118 < (x19.length : Int) then (if (rd x22 x118) = (rd x19 x118) then (laws_FnSandSettles.l0 k x5 x6 x7 x11 x13 x19 x22 x117 (wrap64 (x118 + 1))) else (some false)) else (none))) else (none)) else (none)) else (laws_FnSandSettles.j4 k x5 x6 x7 x11)
end
def laws_FnSandSettles.f (k : Nat) (l0 : List Int) (l1 : List Int) : Option (Bool) := (laws_big.f l0 l1).bind fun t788 => (if t788 = true then (some true) else ((spec_DrawStabilizeSand.f k l0).bind fun t789 => ((impl_StabilizeSand.f k t789).bind fun bt792 => ((spec_StabilizeSand.f k t789).bind fun bt799 => (if (bt792.2.2 != bt799.2.2) = true then (laws_FnSandSettles.j0 k l1 t789 bt792.1 bt792.2.1 bt799.2.2 true) else ((laws_wSame.f k bt792.1 bt799.1).bind fun t806 => (if t806 = true then ((laws_wSame.f k bt792.2.1 bt799.2.1).bind fun t807 => (laws_FnSandSettles.j0 k l1 t789 bt792.1 bt792.2.1 bt799.2.2 (!t807))) else (laws_FnSandSettles.j0 k l1 t789 bt792.1 bt792.2.1 bt799.2.2 true))))))))
theorem laws_FnSandSettles.mono_l : ∀ k, (∀ y0 y1 y2 y3 y4 y5, LeO (laws_FnSandSettles.j0 k y0 y1 y2 y3 y4 y5) (laws_FnSandSettles.j0 (k + 1) y0 y1 y2 y3 y4 y5)) ∧ (∀ y0 y1 y2 y3 y4 y5 y6 y7 y8, LeO (laws_FnSandSettles.j1 k y0 y1 y2 y3 y4 y5 y6 y7 y8) (laws_FnSandSettles.j1 (k + 1) y0 y1 y2 y3 y4 y5 y6 y7 y8)) ∧ (∀ y0 y1 y2 y3, LeO (laws_FnSandSettles.j4 k y0 y1 y2 y3) (laws_FnSandSettles.j4 (k + 1) y0 y1 y2 y3)) ∧ (∀ y0 y1 y2 y3, LeO (laws_FnSandSettles.j5 k y0 y1 y2 y3) (laws_FnSandSettles.j5 (k + 1) y0 y1 y2 y3)) ∧ (∀ y0 y1 y2 y3 y4 y5 y6, LeO (laws_FnSandSettles.l1 k y0 y1 y2 y3 y4 y5 y6) (laws_FnSandSettles.l1 (k + 1) y0 y1 y2 y3 y4 y5 y6)) ∧ (∀ y0 y1 y2 y3 y4 y5 y6 y7, LeO (laws_FnSandSettles.j2 k y0 y1 y2 y3 y4 y5 y6 y7) (laws_FnSandSettles.j2 (k + 1) y0 y1 y2 y3 y4 y5 y6 y7)) ∧ (∀ y0 y1 y2 y3 y4 y5 y6 y7 y8, LeO (laws_FnSandSettles.l0 k y0 y1 y2 y3 y4 y5 y6 y7 y8) (laws_FnSandSettles.l0 (k + 1) y0 y1 y2 y3 y4 y5 y6 y7 y8))
  | 0 => ⟨fun _ _ _ _ _ _ r h => by simp [laws_FnSandSettles.j0] at h, fun _ _ _ _ _ _ _ _ _ r h => by simp [laws_FnSandSettles.j1] at h, fun _ _ _ _ r h => by simp [laws_FnSandSettles.j4] at h, fun _ _ _ _ r h => by simp [laws_FnSandSettles.j5] at h, fun _ _ _ _ _ _ _ r h => by simp [laws_FnSandSettles.l1] at h, fun _ _ _ _ _ _ _ _ r h => by simp [laws_FnSandSettles.j2] at h, fun _ _ _ _ _ _ _ _ _ r h => by simp [laws_FnSandSettles.l0] at h⟩
  | k + 1 => by
    obtain ⟨ih0, ih1, ih2, ih3, ih4, ih5, ih6⟩ := laws_FnSandSettles.mono_l k
    refine ⟨?_, ?_, ?_, ?_, ?_, ?_, ?_⟩
    · intro y0 y1 y2 y3 y4 y5
      unfold laws_FnSandSettles.j0
      repeat' first
      | (with_reducible exact ih0 _ _ _ _ _ _)
      | (with_reducible exact ih1 _ _ _ _ _ _ _ _ _)
      | (with_reducible exact ih2 _ _ _ _)
      | (with_reducible exact ih3 _ _ _ _)
      | (with_reducible exact ih4 _ _ _ _ _ _ _)
      | (with_reducible exact ih5 _ _ _ _ _ _ _ _)
      | (with_reducible exact ih6 _ _ _ _ _ _ _ _ _)
      | (with_reducible exact impl_StabilizeSand.mono _ _)
      | (with_reducible exact impl_ToppleSand.mono _ _ _)
      | (with_reducible exact laws_wSame.mono _ _ _)
      | (with_reducible exact laws_wSum.mono _ _)
      | (with_reducible exact spec_DrawStabilizeSand.mono _ _)
      | (with_reducible exact spec_DrawToppleSand.mono _ _)
      | (with_reducible exact spec_StabilizeSand.mono _ _)
      | (with_reducible exact spec_ToppleSand.mono _ _ _)
      | (with_reducible exact LeO.refl _)
      | (with_reducible exact LeO.none _)
      | (with_reducible refine LeO.ite ?_ ?_)
      | (with_reducible refine LeO.bind ?_ (fun _ => ?_))
      | exact ih0 _ _ _ _ _ _
      | exact ih1 _ _ _ _ _ _ _ _ _
      | exact ih2 _ _ _ _
      | exact ih3 _ _ _ _
      | exact ih4 _ _ _ _ _ _ _
      | exact ih5 _ _ _ _ _ _ _ _
      | exact ih6 _ _ _ _ _ _ _ _ _
      | exact impl_StabilizeSand.mono _ _
      | exact impl_ToppleSand.mono _ _ _
      | exact laws_wSame.mono _ _ _
      | exact laws_wSum.mono _ _
      | exact spec_DrawStabilizeSand.mono _ _
      | exact spec_DrawToppleSand.mono _ _
      | exact spec_StabilizeSand.mono _ _
      | exact spec_ToppleSand.mono _ _ _
      | exact LeO.none _
      | refine LeO.ite ?_ ?_
      | refine LeO.bind ?_ (fun _ => ?_)
    · intro y0 y1 y2 y3 y4 y5 y6 y7 y8
      unfold laws_FnSandSettles.j1
      repeat' first
      | (with_reducible exact ih0 _ _ _ _ _ _)
      | (with_reducible exact ih1 _ _ _ _ _ _ _ _ _)
      | (with_reducible exact ih2 _ _ _ _)
      | (with_reducible exact ih3 _ _ _ _)
      | (with_reducible exact ih4 _ _ _ _ _ _ _)
      | (with_reducible exact ih5 _ _ _ _ _ _ _ _)
      | (with_reducible exact ih6 _ _ _ _ _ _ _ _ _)
      | (with_reducible exact impl_StabilizeSand.mono _ _)
      | (with_reducible exact impl_ToppleSand.mono _ _ _)
      | (with_reducible exact laws_wSame.mono _ _ _)
      | (with_reducible exact laws_wSum.mono _ _)
      | (with_reducible exact spec_DrawStabilizeSand.mono _ _)
      | (with_reducible exact spec_DrawToppleSand.mono _ _)
      | (with_reducible exact spec_StabilizeSand.mono _ _)
      | (with_reducible exact spec_ToppleSand.mono _ _ _)
      | (with_reducible exact LeO.refl _)
      | (with_reducible exact LeO.none _)
      | (with_reducible refine LeO.ite ?_ ?_)
      | (with_reducible refine LeO.bind ?_ (fun _ => ?_))
      | exact ih0 _ _ _ _ _ _
      | exact ih1 _ _ _ _ _ _ _ _ _
      | exact ih2 _ _ _ _
      | exact ih3 _ _ _ _
      | exact ih4 _ _ _ _ _ _ _
      | exact ih5 _ _ _ _ _ _ _ _
      | exact ih6 _ _ _ _ _ _ _ _ _
      | exact impl_StabilizeSand.mono _ _
      | exact impl_ToppleSand.mono _ _ _
      | exact laws_wSame.mono _ _ _
      | exact laws_wSum.mono _ _
      | exact spec_DrawStabilizeSand.mono _ _
      | exact spec_DrawToppleSand.mono _ _
      | exact spec_StabilizeSand.mono _ _
      | exact spec_ToppleSand.mono _ _ _
      | exact LeO.none _
      | refine LeO.ite ?_ ?_
      | refine LeO.bind ?_ (fun _ => ?_)
    · intro y0 y1 y2 y3
      unfold laws_FnSandSettles.j4
      repeat' first
      | (with_reducible exact ih0 _ _ _ _ _ _)
      | (with_reducible exact ih1 _ _ _ _ _ _ _ _ _)
      | (with_reducible exact ih2 _ _ _ _)
      | (with_reducible exact ih3 _ _ _ _)
      | (with_reducible exact ih4 _ _ _ _ _ _ _)
      | (with_reducible exact ih5 _ _ _ _ _ _ _ _)
      | (with_reducible exact ih6 _ _ _ _ _ _ _ _ _)
      | (with_reducible exact impl_StabilizeSand.mono _ _)
      | (with_reducible exact impl_ToppleSand.mono _ _ _)
      | (with_reducible exact laws_wSame.mono _ _ _)
      | (with_reducible exact laws_wSum.mono _ _)
      | (with_reducible exact spec_DrawStabilizeSand.mono _ _)
      | (with_reducible exact spec_DrawToppleSand.mono _ _)
      | (with_reducible exact spec_StabilizeSand.mono _ _)
      | (with_reducible exact spec_ToppleSand.mono _ _ _)
      | (with_reducible exact LeO.refl _)
      | (with_reducible exact LeO.none _)
      | (with_reducible refine LeO.ite ?_ ?_)
      | (with_reducible refine LeO.bind ?_ (fun _ => ?_))
      | exact ih0 _ _ _ _ _ _
      | exact ih1 _ _ _ _ _ _ _ _ _
      | exact ih2 _ _ _ _
      | exact ih3 _ _ _ _
      | exact ih4 _ _ _ _ _ _ _
      | exact ih5 _ _ _ _ _ _ _ _
      | exact ih6 _ _ _ _ _ _ _ _ _
      | exact impl_StabilizeSand.mono _ _
      | exact impl_ToppleSand.mono _ _ _
      | exact laws_wSame.mono _ _ _
      | exact laws_wSum.mono _ _
      | exact spec_DrawStabilizeSand.mono _ _
      | exact spec_DrawToppleSand.mono _ _
      | exact spec_StabilizeSand.mono _ _
      | exact spec_ToppleSand.mono _ _ _
      | exact LeO.none _
      | refine LeO.ite ?_ ?_
      | refine LeO.bind ?_ (fun _ => ?_)
    · intro y0 y1 y2 y3
      unfold laws_FnSandSettles.j5
      repeat' first
      | (with_reducible exact ih0 _ _ _ _ _ _)
      | (with_reducible exact ih1 _ _ _ _ _ _ _ _ _)
      | (with_reducible exact ih2 _ _ _ _)
      | (with_reducible exact ih3 _ _ _ _)
      | (with_reducible exact ih4 _ _ _ _ _ _ _)
      | (with_reducible exact ih5 _ _ _ _ _ _ _ _)
      | (with_reducible exact ih6 _ _ _ _ _ _ _ _ _)
      | (with_reducible exact impl_StabilizeSand.mono _ _)
      | (with_reducible exact impl_ToppleSand.mono _ _ _)
      | (with_reducible exact laws_wSame.mono _ _ _)
      | (with_reducible exact laws_wSum.mono _ _)
      | (with_reducible exact spec_DrawStabilizeSand.mono _ _)
      | (with_reducible exact spec_DrawToppleSand.mono _ _)
      | (with_reducible exact spec_StabilizeSand.mono _ _)
      | (with_reducible exact spec_ToppleSand.mono _ _ _)
      | (with_reducible exact LeO.refl _)
      | (with_reducible exact LeO.none _)
      | (with_reducible refine LeO.ite ?_ ?_)
      | (with_reducible refine LeO.bind ?_ (fun _ => ?_))
      | exact ih0 _ _ _ _ _ _
      | exact ih1 _ _ _ _ _ _ _ _ _
      | exact ih2 _ _ _ _
      | exact ih3 _ _ _ _
      | exact ih4 _ _ _ _ _ _ _
      | exact ih5 _ _ _ _ _ _ _ _
      | exact ih6 _ _ _ _ _ _ _ _ _
      | exact impl_StabilizeSand.mono _ _
      | exact impl_ToppleSand.mono _ _ _
      | exact laws_wSame.mono _ _ _
      | exact laws_wSum.mono _ _
      | exact spec_DrawStabilizeSand.mono _ _
      | exact spec_DrawToppleSand.mono _ _
      | exact spec_StabilizeSand.mono _ _
      | exact spec_ToppleSand.mono _ _ _
      | exact LeO.none _
      | refine LeO.ite ?_ ?_
      | refine LeO.bind ?_ (fun _ => ?_)
    · intro y0 y1 y2 y3 y4 y5 y6
      unfold laws_FnSandSettles.l1
      repeat' first
      | (with_reducible exact ih0 _ _ _ _ _ _)
      | (with_reducible exact ih1 _ _ _ _ _ _ _ _ _)
      | (with_reducible exact ih2 _ _ _ _)
      | (with_reducible exact ih3 _ _ _ _)
      | (with_reducible exact ih4 _ _ _ _ _ _ _)
      | (with_reducible exact ih5 _ _ _ _ _ _ _ _)
      | (with_reducible exact ih6 _ _ _ _ _ _ _ _ _)
      | (with_reducible exact impl_StabilizeSand.mono _ _)
      | (with_reducible exact impl_ToppleSand.mono _ _ _)
      | (with_reducible exact laws_wSame.mono _ _ _)
      | (with_reducible exact laws_wSum.mono _ _)
      | (with_reducible exact spec_DrawStabilizeSand.mono _ _)
      | (with_reducible exact spec_DrawToppleSand.mono _ _)
      | (with_reducible exact spec_StabilizeSand.mono _ _)
      | (with_reducible exact spec_ToppleSand.mono _ _ _)
      | (with_reducible exact LeO.refl _)
      | (with_reducible exact LeO.none _)
      | (with_reducible refine LeO.ite ?_ ?_)
      | (with_reducible refine LeO.bind ?_ (fun _ => ?_))
      | exact ih0 _ _ _ _ _ _
      | exact ih1 _ _ _ _ _ _ _ _ _
      | exact ih2 _ _ _ _
      | exact ih3 _ _ _ _
      | exact ih4 _ _ _ _ _ _ _
      | exact ih5 _ _ _ _ _ _ _ _
      | exact ih6 _ _ _ _ _ _ _ _ _
      | exact impl_StabilizeSand.mono _ _
      | exact impl_ToppleSand.mono _ _ _
      | exact laws_wSame.mono _ _ _
      | exact laws_wSum.mono _ _
      | exact spec_DrawStabilizeSand.mono _ _
      | exact spec_DrawToppleSand.mono _ _
      | exact spec_StabilizeSand.mono _ _
      | exact spec_ToppleSand.mono _ _ _
      | exact LeO.none _
      | refine LeO.ite ?_ ?_
      | refine LeO.bind ?_ (fun _ => ?_)
    · intro y0 y1 y2 y3 y4 y5 y6 y7
      unfold laws_FnSandSettles.j2
      repeat' first
      | (with_reducible exact ih0 _ _ _ _ _ _)
      | (with_reducible exact ih1 _ _ _ _ _ _ _ _ _)
      | (with_reducible exact ih2 _ _ _ _)
      | (with_reducible exact ih3 _ _ _ _)
      | (with_reducible exact ih4 _ _ _ _ _ _ _)
      | (with_reducible exact ih5 _ _ _ _ _ _ _ _)
      | (with_reducible exact ih6 _ _ _ _ _ _ _ _ _)
      | (with_reducible exact impl_StabilizeSand.mono _ _)
      | (with_reducible exact impl_ToppleSand.mono _ _ _)
      | (with_reducible exact laws_wSame.mono _ _ _)
      | (with_reducible exact laws_wSum.mono _ _)
      | (with_reducible exact spec_DrawStabilizeSand.mono _ _)
      | (with_reducible exact spec_DrawToppleSand.mono _ _)
      | (with_reducible exact spec_StabilizeSand.mono _ _)
      | (with_reducible exact spec_ToppleSand.mono _ _ _)
      | (with_reducible exact LeO.refl _)
      | (with_reducible exact LeO.none _)
      | (with_reducible refine LeO.ite ?_ ?_)
      | (with_reducible refine LeO.bind ?_ (fun _ => ?_))
      | exact ih0 _ _ _ _ _ _
      | exact ih1 _ _ _ _ _ _ _ _ _
      | exact ih2 _ _ _ _
      | exact ih3 _ _ _ _
      | exact ih4 _ _ _ _ _ _ _
      | exact ih5 _ _ _ _ _ _ _ _
      | exact ih6 _ _ _ _ _ _ _ _ _
      | exact impl_StabilizeSand.mono _ _
      | exact impl_ToppleSand.mono _ _ _
      | exact laws_wSame.mono _ _ _
      | exact laws_wSum.mono _ _
      | exact spec_DrawStabilizeSand.mono _ _
      | exact spec_DrawToppleSand.mono _ _
      | exact spec_StabilizeSand.mono _ _
      | exact spec_ToppleSand.mono _ _ _
      | exact LeO.none _
      | refine LeO.ite ?_ ?_
      | refine LeO.bind ?_ (fun _ => ?_)
    · intro y0 y1 y2 y3 y4 y5 y6 y7 y8
      unfold laws_FnSandSettles.l0
      repeat' first
      | (with_reducible exact ih0 _ _ _ _ _ _)
      | (with_reducible exact ih1 _ _ _ _ _ _ _ _ _)
      | (with_reducible exact ih2 _ _ _ _)
      | (with_reducible exact ih3 _ _ _ _)
      | (with_reducible exact ih4 _ _ _ _ _ _ _)
      | (with_reducible exact ih5 _ _ _ _ _ _ _ _)
      | (with_reducible exact ih6 _ _ _ _ _ _ _ _ _)
      | (with_reducible exact impl_StabilizeSand.mono _ _)
      | (with_reducible exact impl_ToppleSand.mono _ _ _)
      | (with_reducible exact laws_wSame.mono _ _ _)
      | (with_reducible exact laws_wSum.mono _ _)
      | (with_reducible exact spec_DrawStabilizeSand.mono _ _)
      | (with_reducible exact spec_DrawToppleSand.mono _ _)
      | (with_reducible exact spec_StabilizeSand.mono _ _)
      | (with_reducible exact spec_ToppleSand.mono _ _ _)
      | (with_reducible exact LeO.refl _)
      | (with_reducible exact LeO.none _)
      | (with_reducible refine LeO.ite ?_ ?_)
      | (with_reducible refine LeO.bind ?_ (fun _ => ?_))
      | exact ih0 _ _ _ _ _ _
      | exact ih1 _ _ _ _ _ _ _ _ _
      | exact ih2 _ _ _ _
      | exact ih3 _ _ _ _
      | exact ih4 _ _ _ _ _ _ _
      | exact ih5 _ _ _ _ _ _ _ _
      | exact ih6 _ _ _ _ _ _ _ _ _
      | exact impl_StabilizeSand.mono _ _
      | exact impl_ToppleSand.mono _ _ _
      | exact laws_wSame.mono _ _ _
      | exact laws_wSum.mono _ _
      | exact spec_DrawStabilizeSand.mono _ _
      | exact spec_DrawToppleSand.mono _ _
      | exact spec_StabilizeSand.mono _ _
      | exact spec_ToppleSand.mono _ _ _
      | exact LeO.none _
      | refine LeO.ite ?_ ?_
      | refine LeO.bind ?_ (fun _ => ?_)
theorem laws_FnSandSettles.mono : ∀ a0 a1 k, LeO (laws_FnSandSettles.f k a0 a1) (laws_FnSandSettles.f (k + 1) a0 a1) := by
  intro a0 a1 k
  obtain ⟨ih0, ih1, ih2, ih3, ih4, ih5, ih6⟩ := laws_FnSandSettles.mono_l k
  unfold laws_FnSandSettles.f
  repeat' first
      | (with_reducible exact ih0 _ _ _ _ _ _)
      | (with_reducible exact ih1 _ _ _ _ _ _ _ _ _)
      | (with_reducible exact ih2 _ _ _ _)
      | (with_reducible exact ih3 _ _ _ _)
      | (with_reducible exact ih4 _ _ _ _ _ _ _)
      | (with_reducible exact ih5 _ _ _ _ _ _ _ _)
      | (with_reducible exact ih6 _ _ _ _ _ _ _ _ _)
      | (with_reducible exact impl_StabilizeSand.mono _ _)
      | (with_reducible exact impl_ToppleSand.mono _ _ _)
      | (with_reducible exact laws_wSame.mono _ _ _)
      | (with_reducible exact laws_wSum.mono _ _)
      | (with_reducible exact spec_DrawStabilizeSand.mono _ _)
      | (with_reducible exact spec_DrawToppleSand.mono _ _)
      | (with_reducible exact spec_StabilizeSand.mono _ _)
      | (with_reducible exact spec_ToppleSand.mono _ _ _)
      | (with_reducible exact LeO.refl _)
      | (with_reducible exact LeO.none _)
      | (with_reducible refine LeO.ite ?_ ?_)
      | (with_reducible refine LeO.bind ?_ (fun _ => ?_))
      | exact ih0 _ _ _ _ _ _
      | exact ih1 _ _ _ _ _ _ _ _ _
      | exact ih2 _ _ _ _
      | exact ih3 _ _ _ _
      | exact ih4 _ _ _ _ _ _ _
      | exact ih5 _ _ _ _ _ _ _ _
      | exact ih6 _ _ _ _ _ _ _ _ _
      | exact impl_StabilizeSand.mono _ _
      | exact impl_ToppleSand.mono _ _ _
      | exact laws_wSame.mono _ _ _
      | exact laws_wSum.mono _ _
      | exact spec_DrawStabilizeSand.mono _ _
      | exact spec_DrawToppleSand.mono _ _
      | exact spec_StabilizeSand.mono _ _
      | exact spec_ToppleSand.mono _ _ _
      | exact LeO.none _
      | refine LeO.ite ?_ ?_
      | refine LeO.bind ?_ (fun _ => ?_)
set_option maxHeartbeats 8000000 in
set_option maxRecDepth 100000 in
theorem laws_FnSandSettles.calls (k : Nat) (A0 : Option Addr) (c0 : Nat) (l0 : List Int) (A1 : Option Addr) (c1 : Nat) (l1 : List Int) (r : Bool) (w : World) (hr0 : Kd.C (Kd.int .u8) w A0 l0.length l0) (hc0 : l0.length ≤ c0) (hr1 : Kd.C (Kd.int .u8) w A1 l1.length l1) (hc1 : l1.length ≤ c1) (h : laws_FnSandSettles.f k l0 l1 = some r) :
    Calls Try.prog 12 #[.slice A0 l0.length c0, .slice A1 l1.length c1] w fun e w' => e = .returned (.bool r) ∧ Below w.heap.size w w' := by
  have HR0 := Aside0.mk hr0
  have HC0 := Aside0.mk hc0
  clear hr0 hc0
  have HR1 := Aside0.mk hr1
  have HC1 := Aside0.mk hc1
  clear hr1 hc1
  have HB := Aside0.mk (Below.refl w.heap.size w)
  have H : ((laws_big.f l0 l1).bind fun t788 => (if t788 = true then (some true) else ((spec_DrawStabilizeSand.f k l0).bind fun t789 => ((impl_StabilizeSand.f k t789).bind fun bt792 => ((spec_StabilizeSand.f k t789).bind fun bt799 => (if (bt792.2.2 != bt799.2.2) = true then (laws_FnSandSettles.j0 k l1 t789 bt792.1 bt792.2.1 bt799.2.2 true) else ((laws_wSame.f k bt792.1 bt799.1).bind fun t806 => (if t806 = true then ((laws_wSame.f k bt792.2.1 bt799.2.1).bind fun t807 => (laws_FnSandSettles.j0 k l1 t789 bt792.1 bt792.2.1 bt799.2.2 (!t807))) else (laws_FnSandSettles.j0 k l1 t789 bt792.1 bt792.2.1 bt799.2.2 true))))))))) = some r := h
  clear h
  replace H := Option.bind_eq_some_iff.mp H
  obtain ⟨t788, A30, H⟩ := H
  replace H : (if t788 = true then (some true) else ((spec_DrawStabilizeSand.f k l0).bind fun t789 => ((impl_StabilizeSand.f k t789).bind fun bt792 => ((spec_StabilizeSand.f k t789).bind fun bt799 => (if (bt792.2.2 != bt799.2.2) = true then (laws_FnSandSettles.j0 k l1 t789 bt792.1 bt792.2.1 bt799.2.2 true) else ((laws_wSame.f k bt792.1 bt799.1).bind fun t806 => (if t806 = true then ((laws_wSame.f k bt792.2.1 bt799.2.1).bind fun t807 => (laws_FnSandSettles.j0 k l1 t789 bt792.1 bt792.2.1 bt799.2.2 (!t807))) else (laws_FnSandSettles.j0 k l1 t789 bt792.1 bt792.2.1 bt799.2.2 true)))))))) = some r := H
  have A3 := Aside0.mk A30
  clear A30
  by_cases c4 : t788 = true
  · subst c4
    have H1 : (some true) = some r := by rw [if_pos rfl] at H; exact H
    clear H
    have H := H1
    clear H1
    obtain rfl := Option.some.inj H
    go_enter Try.func12, Try.ntmps12
    go_wp2_with (first | (go_at_call 48; (with_reducible refine (laws_big.calls _ _ l0 _ _ l1 true _ ?side1 ?side2 ?side3 ?side4 A3.out).mono ?_); (case side1 => repeat (first | exact HR0.out | (with_reducible refine Kd.C_alloc ?_ _) | (with_reducible refine Kd.C_drewN ?_ _) | (with_reducible refine Kd.C_drew ?_))); (case side2 => exact HC0.out); (case side3 => repeat (first | exact HR1.out | (with_reducible refine Kd.C_alloc ?_ _) | (with_reducible refine Kd.C_drewN ?_ _) | (with_reducible refine Kd.C_drew ?_))); (case side4 => exact HC1.out); rintro e w' ⟨rfl, ⟨nd, rfl⟩⟩; (try first | exact ⟨rfl, _, World.drewN_drewN _ _ _⟩ | exact ⟨rfl, _, Eq.trans (World.drewN_drewN _ _ _) (congrArg (World.drewN _) (Nat.add_assoc _ _ _))⟩)))
    repeat (go_quiet (first | (go_at_call 48; (with_reducible refine (laws_big.calls _ _ l0 _ _ l1 true _ ?side1 ?side2 ?side3 ?side4 A3.out).mono ?_); (case side1 => repeat (first | exact HR0.out | (with_reducible refine Kd.C_alloc ?_ _) | (with_reducible refine Kd.C_drewN ?_ _) | (with_reducible refine Kd.C_drew ?_))); (case side2 => exact HC0.out); (case side3 => repeat (first | exact HR1.out | (with_reducible refine Kd.C_alloc ?_ _) | (with_reducible refine Kd.C_drewN ?_ _) | (with_reducible refine Kd.C_drew ?_))); (case side4 => exact HC1.out); rintro e w' ⟨rfl, ⟨nd, rfl⟩⟩; (try first | exact ⟨rfl, _, World.drewN_drewN _ _ _⟩ | exact ⟨rfl, _, Eq.trans (World.drewN_drewN _ _ _) (congrArg (World.drewN _) (Nat.add_assoc _ _ _))⟩))); try go_wp2_with (first | (go_at_call 48; (with_reducible refine (laws_big.calls _ _ l0 _ _ l1 true _ ?side1 ?side2 ?side3 ?side4 A3.out).mono ?_); (case side1 => repeat (first | exact HR0.out | (with_reducible refine Kd.C_alloc ?_ _) | (with_reducible refine Kd.C_drewN ?_ _) | (with_reducible refine Kd.C_drew ?_))); (case side2 => exact HC0.out); (case side3 => repeat (first | exact HR1.out | (with_reducible refine Kd.C_alloc ?_ _) | (with_reducible refine Kd.C_drewN ?_ _) | (with_reducible refine Kd.C_drew ?_))); (case side4 => exact HC1.out); rintro e w' ⟨rfl, ⟨nd, rfl⟩⟩; (try first | exact ⟨rfl, _, World.drewN_drewN _ _ _⟩ | exact ⟨rfl, _, Eq.trans (World.drewN_drewN _ _ _) (congrArg (World.drewN _) (Nat.add_assoc _ _ _))⟩))))
    go_ret
    exact ⟨by first | rfl | (simp [errW_none, errW_some] <;> rfl) | (simp [*, errW_none, errW_some] <;> rfl), by repeat (first | (with_reducible first | exact HB.out | apply below_alloc | apply pw_below_drewN | apply below_drew1) | exact HB.out)⟩
  · as_aux_lemma =>
    replace c4 := Bool.eq_false_iff.mpr c4
    subst c4
    have H1 : ((spec_DrawStabilizeSand.f k l0).bind fun t789 => ((impl_StabilizeSand.f k t789).bind fun bt792 => ((spec_StabilizeSand.f k t789).bind fun bt799 => (if (bt792.2.2 != bt799.2.2) = true then (laws_FnSandSettles.j0 k l1 t789 bt792.1 bt792.2.1 bt799.2.2 true) else ((laws_wSame.f k bt792.1 bt799.1).bind fun t806 => (if t806 = true then ((laws_wSame.f k bt792.2.1 bt799.2.1).bind fun t807 => (laws_FnSandSettles.j0 k l1 t789 bt792.1 bt792.2.1 bt799.2.2 (!t807))) else (laws_FnSandSettles.j0 k l1 t789 bt792.1 bt792.2.1 bt799.2.2 true))))))) = some r := by rw [if_neg (show ¬ (false = true) by decide)] at H; exact H
    clear H
    have H := H1
    clear H1
    replace H := Option.bind_eq_some_iff.mp H
    obtain ⟨t789, A50, H⟩ := H
    replace H : ((impl_StabilizeSand.f k t789).bind fun bt792 => ((spec_StabilizeSand.f k t789).bind fun bt799 => (if (bt792.2.2 != bt799.2.2) = true then (laws_FnSandSettles.j0 k l1 t789 bt792.1 bt792.2.1 bt799.2.2 true) else ((laws_wSame.f k bt792.1 bt799.1).bind fun t806 => (if t806 = true then ((laws_wSame.f k bt792.2.1 bt799.2.1).bind fun t807 => (laws_FnSandSettles.j0 k l1 t789 bt792.1 bt792.2.1 bt799.2.2 (!t807))) else (laws_FnSandSettles.j0 k l1 t789 bt792.1 bt792.2.1 bt799.2.2 true)))))) = some r := H
    have A5 := Aside0.mk A50
    clear A50
    replace H := Option.bind_eq_some_iff.mp H
    obtain ⟨⟨t792, t793, t794⟩, A60, H⟩ := H
    replace H : ((spec_StabilizeSand.f k t789).bind fun bt799 => (if (t794 != bt799.2.2) = true then (laws_FnSandSettles.j0 k l1 t789 t792 t793 bt799.2.2 true) else ((laws_wSame.f k t792 bt799.1).bind fun t806 => (if t806 = true then ((laws_wSame.f k t793 bt799.2.1).bind fun t807 => (laws_FnSandSettles.j0 k l1 t789 t792 t793 bt799.2.2 (!t807))) else (laws_FnSandSettles.j0 k l1 t789 t792 t793 bt799.2.2 true))))) = some r := H
    have A6 := Aside0.mk A60
    clear A60
    replace H := Option.bind_eq_some_iff.mp H
    obtain ⟨⟨t799, t800, t801⟩, A70, H⟩ := H
    replace H : (if (t794 != t801) = true then (laws_FnSandSettles.j0 k l1 t789 t792 t793 t801 true) else ((laws_wSame.f k t792 t799).bind fun t806 => (if t806 = true then ((laws_wSame.f k t793 t800).bind fun t807 => (laws_FnSandSettles.j0 k l1 t789 t792 t793 t801 (!t807))) else (laws_FnSandSettles.j0 k l1 t789 t792 t793 t801 true)))) = some r := H
    have A7 := Aside0.mk A70
    clear A70
    have HC8 := Aside0.mk H
    clear H
    go_enter Try.func12, Try.ntmps12
    go_upto_region 6 with (first | (go_at_call 48; (with_reducible refine (laws_big.calls _ _ l0 _ _ l1 false _ ?side1 ?side2 ?side3 ?side4 A3.out).mono ?_); (case side1 => repeat (first | exact HR0.out | (with_reducible refine Kd.C_alloc ?_ _) | (with_reducible refine Kd.C_drewN ?_ _) | (with_reducible refine Kd.C_drew ?_))); (case side2 => exact HC0.out); (case side3 => repeat (first | exact HR1.out | (with_reducible refine Kd.C_alloc ?_ _) | (with_reducible refine Kd.C_drewN ?_ _) | (with_reducible refine Kd.C_drew ?_))); (case side4 => exact HC1.out); rintro e w' ⟨rfl, ⟨nd, rfl⟩⟩; (try first | exact ⟨rfl, _, World.drewN_drewN _ _ _⟩ | exact ⟨rfl, _, Eq.trans (World.drewN_drewN _ _ _) (congrArg (World.drewN _) (Nat.add_assoc _ _ _))⟩)) | (go_at_call 49; (with_reducible refine (spec_DrawStabilizeSand.calls k _ _ l0 t789 _ ?side1 ?side2 A5.out).mono ?_); (case side1 => repeat (first | exact HR0.out | (with_reducible refine Kd.C_alloc ?_ _) | (with_reducible refine Kd.C_drewN ?_ _) | (with_reducible refine Kd.C_drew ?_))); (case side2 => exact HC0.out); rintro e w9 ⟨v790, rfl, ho0, hb⟩; have n0_ := Aside0.mk (Kd.R_lower ho0 (below_size (by repeat (first | (with_reducible first | exact HB.out | apply below_alloc | apply pw_below_drewN | apply below_drew1) | exact HB.out)))); have n1_ := Aside0.mk (below_step (by repeat (first | (with_reducible first | exact HB.out | apply below_alloc | apply pw_below_drewN | apply below_drew1) | exact HB.out)) hb); clear HB; have HO791 := n0_; have HB := n1_; clear n0_ n1_; (try clear hb); (try clear hb2); (try clear hk); (try clear hi); (try clear ho0); obtain ⟨Ao10, co10, eo10⟩ := Kd.R_slice HO791.out; subst eo10) | (go_at_call 43; (with_reducible refine (impl_StabilizeSand.calls k _ _ t789 t792 t793 t794 _ ?side1 ?side2 A6.out).mono ?_); (case side1 => repeat (first | exact (Kd.R_reads' HO791.out).2.2 | (with_reducible refine Kd.C_alloc ?_ _) | (with_reducible refine Kd.C_drewN ?_ _) | (with_reducible refine Kd.C_drew ?_))); (case side2 => exact (Kd.R_reads' HO791.out).2.1); rintro e w11 ⟨v795, v797, rfl, ho0, ho1, hb⟩; have n0_ := Aside0.mk (Kd.R_mono (Kd.R_told (Kd.R_told (Kd.R_old (by (with_reducible repeat (first | apply Kd.R_alloc | apply Kd.R_drewN | apply Kd.R_drew)); exact HO791.out) hb) (Kd.R_base ho0)) (Kd.R_base ho1)) (fun _ h_ => h_.1)); have n1_ := Aside0.mk (Kd.R_lower (Kd.R_new' ho0 (Kd.R_lt (by (with_reducible repeat (first | apply Kd.R_alloc | apply Kd.R_drewN | apply Kd.R_drew)); exact HO791.out))) (below_size (by repeat (first | (with_reducible first | exact HB.out | apply below_alloc | apply pw_below_drewN | apply below_drew1) | exact HB.out)))); have n2_ := Aside0.mk (Kd.R_lower (Kd.R_new' ho1 (Kd.R_lt (by (with_reducible repeat (first | apply Kd.R_alloc | apply Kd.R_drewN | apply Kd.R_drew)); exact HO791.out))) (below_size (by repeat (first | (with_reducible first | exact HB.out | apply below_alloc | apply pw_below_drewN | apply below_drew1) | exact HB.out)))); have n3_ := Aside0.mk (below_step (by repeat (first | (with_reducible first | exact HB.out | apply below_alloc | apply pw_below_drewN | apply below_drew1) | exact HB.out)) hb); clear HO791; clear HB; have HO791 := n0_; have HO796 := n1_; have HO798 := n2_; have HB := n3_; clear n0_ n1_ n2_ n3_; (try clear hb); (try clear hb2); (try clear hk); (try clear hi); (try clear ho0); (try clear ho1)) | (go_at_call 42; (with_reducible refine (spec_StabilizeSand.calls k _ _ t789 t799 t800 t801 _ ?side1 ?side2 A7.out).mono ?_); (case side1 => repeat (first | exact (Kd.R_reads' HO791.out).2.2 | (with_reducible refine Kd.C_alloc ?_ _) | (with_reducible refine Kd.C_drewN ?_ _) | (with_reducible refine Kd.C_drew ?_))); (case side2 => exact (Kd.R_reads' HO791.out).2.1); rintro e w12 ⟨v802, v804, rfl, ho0, ho1, hb⟩; have n0_ := Aside0.mk (Kd.R_mono (Kd.R_told (Kd.R_told (Kd.R_old (by (with_reducible repeat (first | apply Kd.R_alloc | apply Kd.R_drewN | apply Kd.R_drew)); exact HO791.out) hb) (Kd.R_base ho0)) (Kd.R_base ho1)) (fun _ h_ => h_.1)); have n1_ := Aside0.mk (Kd.R_mono (Kd.R_told (Kd.R_told (Kd.R_old (by (with_reducible repeat (first | apply Kd.R_alloc | apply Kd.R_drewN | apply Kd.R_drew)); exact HO796.out) hb) (Kd.R_base ho0)) (Kd.R_base ho1)) (fun _ h_ => h_.1)); have n2_ := Aside0.mk (Kd.R_mono (Kd.R_told (Kd.R_told (Kd.R_old (by (with_reducible repeat (first | apply Kd.R_alloc | apply Kd.R_drewN | apply Kd.R_drew)); exact HO798.out) hb) (Kd.R_base ho0)) (Kd.R_base ho1)) (fun _ h_ => h_.1)); have n3_ := Aside0.mk (Kd.R_lower (Kd.R_new' (Kd.R_new' (Kd.R_new' ho0 (Kd.R_lt (by (with_reducible repeat (first | apply Kd.R_alloc | apply Kd.R_drewN | apply Kd.R_drew)); exact HO791.out))) (Kd.R_lt (by (with_reducible repeat (first | apply Kd.R_alloc | apply Kd.R_drewN | apply Kd.R_drew)); exact HO796.out))) (Kd.R_lt (by (with_reducible repeat (first | apply Kd.R_alloc | apply Kd.R_drewN | apply Kd.R_drew)); exact HO798.out))) (below_size (by repeat (first | (with_reducible first | exact HB.out | apply below_alloc | apply pw_below_drewN | apply below_drew1) | exact HB.out)))); have n4_ := Aside0.mk (Kd.R_lower (Kd.R_new' (Kd.R_new' (Kd.R_new' ho1 (Kd.R_lt (by (with_reducible repeat (first | apply Kd.R_alloc | apply Kd.R_drewN | apply Kd.R_drew)); exact HO791.out))) (Kd.R_lt (by (with_reducible repeat (first | apply Kd.R_alloc | apply Kd.R_drewN | apply Kd.R_drew)); exact HO796.out))) (Kd.R_lt (by (with_reducible repeat (first | apply Kd.R_alloc | apply Kd.R_drewN | apply Kd.R_drew)); exact HO798.out))) (below_size (by repeat (first | (with_reducible first | exact HB.out | apply below_alloc | apply pw_below_drewN | apply below_drew1) | exact HB.out)))); have n5_ := Aside0.mk (below_step (by repeat (first | (with_reducible first | exact HB.out | apply below_alloc | apply pw_below_drewN | apply below_drew1) | exact HB.out)) hb); clear HO791; clear HO796; clear HO798; clear HB; have HO791 := n0_; have HO796 := n1_; have HO798 := n2_; have HO803 := n3_; have HO805 := n4_; have HB := n5_; clear n0_ n1_ n2_ n3_ n4_ n5_; (try clear hb); (try clear hb2); (try clear hk); (try clear hi); (try clear ho0); (try clear ho1)))
    repeat (go_quiet (first | (go_at_call 48; (with_reducible refine (laws_big.calls _ _ l0 _ _ l1 false _ ?side1 ?side2 ?side3 ?side4 A3.out).mono ?_); (case side1 => repeat (first | exact HR0.out | (with_reducible refine Kd.C_alloc ?_ _) | (with_reducible refine Kd.C_drewN ?_ _) | (with_reducible refine Kd.C_drew ?_))); (case side2 => exact HC0.out); (case side3 => repeat (first | exact HR1.out | (with_reducible refine Kd.C_alloc ?_ _) | (with_reducible refine Kd.C_drewN ?_ _) | (with_reducible refine Kd.C_drew ?_))); (case side4 => exact HC1.out); rintro e w' ⟨rfl, ⟨nd, rfl⟩⟩; (try first | exact ⟨rfl, _, World.drewN_drewN _ _ _⟩ | exact ⟨rfl, _, Eq.trans (World.drewN_drewN _ _ _) (congrArg (World.drewN _) (Nat.add_assoc _ _ _))⟩)) | (go_at_call 49; (with_reducible refine (spec_DrawStabilizeSand.calls k _ _ l0 t789 _ ?side1 ?side2 A5.out).mono ?_); (case side1 => repeat (first | exact HR0.out | (with_reducible refine Kd.C_alloc ?_ _) | (with_reducible refine Kd.C_drewN ?_ _) | (with_reducible refine Kd.C_drew ?_))); (case side2 => exact HC0.out); rintro e w9 ⟨v790, rfl, ho0, hb⟩; have n0_ := Aside0.mk (Kd.R_lower ho0 (below_size (by repeat (first | (with_reducible first | exact HB.out | apply below_alloc | apply pw_below_drewN | apply below_drew1) | exact HB.out)))); have n1_ := Aside0.mk (below_step (by repeat (first | (with_reducible first | exact HB.out | apply below_alloc | apply pw_below_drewN | apply below_drew1) | exact HB.out)) hb); clear HB; have HO791 := n0_; have HB := n1_; clear n0_ n1_; (try clear hb); (try clear hb2); (try clear hk); (try clear hi); (try clear ho0); obtain ⟨Ao10, co10, eo10⟩ := Kd.R_slice HO791.out; subst eo10) | (go_at_call 43; (with_reducible refine (impl_StabilizeSand.calls k _ _ t789 t792 t793 t794 _ ?side1 ?side2 A6.out).mono ?_); (case side1 => repeat (first | exact (Kd.R_reads' HO791.out).2.2 | (with_reducible refine Kd.C_alloc ?_ _) | (with_reducible refine Kd.C_drewN ?_ _) | (with_reducible refine Kd.C_drew ?_))); (case side2 => exact (Kd.R_reads' HO791.out).2.1); rintro e w11 ⟨v795, v797, rfl, ho0, ho1, hb⟩; have n0_ := Aside0.mk (Kd.R_mono (Kd.R_told (Kd.R_told (Kd.R_old (by (with_reducible repeat (first | apply Kd.R_alloc | apply Kd.R_drewN | apply Kd.R_drew)); exact HO791.out) hb) (Kd.R_base ho0)) (Kd.R_base ho1)) (fun _ h_ => h_.1)); have n1_ := Aside0.mk (Kd.R_lower (Kd.R_new' ho0 (Kd.R_lt (by (with_reducible repeat (first | apply Kd.R_alloc | apply Kd.R_drewN | apply Kd.R_drew)); exact HO791.out))) (below_size (by repeat (first | (with_reducible first | exact HB.out | apply below_alloc | apply pw_below_drewN | apply below_drew1) | exact HB.out)))); have n2_ := Aside0.mk (Kd.R_lower (Kd.R_new' ho1 (Kd.R_lt (by (with_reducible repeat (first | apply Kd.R_alloc | apply Kd.R_drewN | apply Kd.R_drew)); exact HO791.out))) (below_size (by repeat (first | (with_reducible first | exact HB.out | apply below_alloc | apply pw_below_drewN | apply below_drew1) | exact HB.out)))); have n3_ := Aside0.mk (below_step (by repeat (first | (with_reducible first | exact HB.out | apply below_alloc | apply pw_below_drewN | apply below_drew1) | exact HB.out)) hb); clear HO791; clear HB; have HO791 := n0_; have HO796 := n1_; have HO798 := n2_; have HB := n3_; clear n0_ n1_ n2_ n3_; (try clear hb); (try clear hb2); (try clear hk); (try clear hi); (try clear ho0); (try clear ho1)) | (go_at_call 42; (with_reducible refine (spec_StabilizeSand.calls k _ _ t789 t799 t800 t801 _ ?side1 ?side2 A7.out).mono ?_); (case side1 => repeat (first | exact (Kd.R_reads' HO791.out).2.2 | (with_reducible refine Kd.C_alloc ?_ _) | (with_reducible refine Kd.C_drewN ?_ _) | (with_reducible refine Kd.C_drew ?_))); (case side2 => exact (Kd.R_reads' HO791.out).2.1); rintro e w12 ⟨v802, v804, rfl, ho0, ho1, hb⟩; have n0_ := Aside0.mk (Kd.R_mono (Kd.R_told (Kd.R_told (Kd.R_old (by (with_reducible repeat (first | apply Kd.R_alloc | apply Kd.R_drewN | apply Kd.R_drew)); exact HO791.out) hb) (Kd.R_base ho0)) (Kd.R_base ho1)) (fun _ h_ => h_.1)); have n1_ := Aside0.mk (Kd.R_mono (Kd.R_told (Kd.R_told (Kd.R_old (by (with_reducible repeat (first | apply Kd.R_alloc | apply Kd.R_drewN | apply Kd.R_drew)); exact HO796.out) hb) (Kd.R_base ho0)) (Kd.R_base ho1)) (fun _ h_ => h_.1)); have n2_ := Aside0.mk (Kd.R_mono (Kd.R_told (Kd.R_told (Kd.R_old (by (with_reducible repeat (first | apply Kd.R_alloc | apply Kd.R_drewN | apply Kd.R_drew)); exact HO798.out) hb) (Kd.R_base ho0)) (Kd.R_base ho1)) (fun _ h_ => h_.1)); have n3_ := Aside0.mk (Kd.R_lower (Kd.R_new' (Kd.R_new' (Kd.R_new' ho0 (Kd.R_lt (by (with_reducible repeat (first | apply Kd.R_alloc | apply Kd.R_drewN | apply Kd.R_drew)); exact HO791.out))) (Kd.R_lt (by (with_reducible repeat (first | apply Kd.R_alloc | apply Kd.R_drewN | apply Kd.R_drew)); exact HO796.out))) (Kd.R_lt (by (with_reducible repeat (first | apply Kd.R_alloc | apply Kd.R_drewN | apply Kd.R_drew)); exact HO798.out))) (below_size (by repeat (first | (with_reducible first | exact HB.out | apply below_alloc | apply pw_below_drewN | apply below_drew1) | exact HB.out)))); have n4_ := Aside0.mk (Kd.R_lower (Kd.R_new' (Kd.R_new' (Kd.R_new' ho1 (Kd.R_lt (by (with_reducible repeat (first | apply Kd.R_alloc | apply Kd.R_drewN | apply Kd.R_drew)); exact HO791.out))) (Kd.R_lt (by (with_reducible repeat (first | apply Kd.R_alloc | apply Kd.R_drewN | apply Kd.R_drew)); exact HO796.out))) (Kd.R_lt (by (with_reducible repeat (first | apply Kd.R_alloc | apply Kd.R_drewN | apply Kd.R_drew)); exact HO798.out))) (below_size (by repeat (first | (with_reducible first | exact HB.out | apply below_alloc | apply pw_below_drewN | apply below_drew1) | exact HB.out)))); have n5_ := Aside0.mk (below_step (by repeat (first | (with_reducible first | exact HB.out | apply below_alloc | apply pw_below_drewN | apply below_drew1) | exact HB.out)) hb); clear HO791; clear HO796; clear HO798; clear HB; have HO791 := n0_; have HO796 := n1_; have HO798 := n2_; have HO803 := n3_; have HO805 := n4_; have HB := n5_; clear n0_ n1_ n2_ n3_ n4_ n5_; (try clear hb); (try clear hb2); (try clear hk); (try clear hi); (try clear ho0); (try clear ho1))); go_upto_region 6 with (first | (go_at_call 48; (with_reducible refine (laws_big.calls _ _ l0 _ _ l1 false _ ?side1 ?side2 ?side3 ?side4 A3.out).mono ?_); (case side1 => repeat (first | exact HR0.out | (with_reducible refine Kd.C_alloc ?_ _) | (with_reducible refine Kd.C_drewN ?_ _) | (with_reducible refine Kd.C_drew ?_))); (case side2 => exact HC0.out); (case side3 => repeat (first | exact HR1.out | (with_reducible refine Kd.C_alloc ?_ _) | (with_reducible refine Kd.C_drewN ?_ _) | (with_reducible refine Kd.C_drew ?_))); (case side4 => exact HC1.out); rintro e w' ⟨rfl, ⟨nd, rfl⟩⟩; (try first | exact ⟨rfl, _, World.drewN_drewN _ _ _⟩ | exact ⟨rfl, _, Eq.trans (World.drewN_drewN _ _ _) (congrArg (World.drewN _) (Nat.add_assoc _ _ _))⟩)) | (go_at_call 49; (with_reducible refine (spec_DrawStabilizeSand.calls k _ _ l0 t789 _ ?side1 ?side2 A5.out).mono ?_); (case side1 => repeat (first | exact HR0.out | (with_reducible refine Kd.C_alloc ?_ _) | (with_reducible refine Kd.C_drewN ?_ _) | (with_reducible refine Kd.C_drew ?_))); (case side2 => exact HC0.out); rintro e w9 ⟨v790, rfl, ho0, hb⟩; have n0_ := Aside0.mk (Kd.R_lower ho0 (below_size (by repeat (first | (with_reducible first | exact HB.out | apply below_alloc | apply pw_below_drewN | apply below_drew1) | exact HB.out)))); have n1_ := Aside0.mk (below_step (by repeat (first | (with_reducible first | exact HB.out | apply below_alloc | apply pw_below_drewN | apply below_drew1) | exact HB.out)) hb); clear HB; have HO791 := n0_; have HB := n1_; clear n0_ n1_; (try clear hb); (try clear hb2); (try clear hk); (try clear hi); (try clear ho0); obtain ⟨Ao10, co10, eo10⟩ := Kd.R_slice HO791.out; subst eo10) | (go_at_call 43; (with_reducible refine (impl_StabilizeSand.calls k _ _ t789 t792 t793 t794 _ ?side1 ?side2 A6.out).mono ?_); (case side1 => repeat (first | exact (Kd.R_reads' HO791.out).2.2 | (with_reducible refine Kd.C_alloc ?_ _) | (with_reducible refine Kd.C_drewN ?_ _) | (with_reducible refine Kd.C_drew ?_))); (case side2 => exact (Kd.R_reads' HO791.out).2.1); rintro e w11 ⟨v795, v797, rfl, ho0, ho1, hb⟩; have n0_ := Aside0.mk (Kd.R_mono (Kd.R_told (Kd.R_told (Kd.R_old (by (with_reducible repeat (first | apply Kd.R_alloc | apply Kd.R_drewN | apply Kd.R_drew)); exact HO791.out) hb) (Kd.R_base ho0)) (Kd.R_base ho1)) (fun _ h_ => h_.1)); have n1_ := Aside0.mk (Kd.R_lower (Kd.R_new' ho0 (Kd.R_lt (by (with_reducible repeat (first | apply Kd.R_alloc | apply Kd.R_drewN | apply Kd.R_drew)); exact HO791.out))) (below_size (by repeat (first | (with_reducible first | exact HB.out | apply below_alloc | apply pw_below_drewN | apply below_drew1) | exact HB.out)))); have n2_ := Aside0.mk (Kd.R_lower (Kd.R_new' ho1 (Kd.R_lt (by (with_reducible repeat (first | apply Kd.R_alloc | apply Kd.R_drewN | apply Kd.R_drew)); exact HO791.out))) (below_size (by repeat (first | (with_reducible first | exact HB.out | apply below_alloc | apply pw_below_drewN | apply below_drew1) | exact HB.out)))); have n3_ := Aside0.mk (below_step (by repeat (first | (with_reducible first | exact HB.out | apply below_alloc | apply pw_below_drewN | apply below_drew1) | exact HB.out)) hb); clear HO791; clear HB; have HO791 := n0_; have HO796 := n1_; have HO798 := n2_; have HB := n3_; clear n0_ n1_ n2_ n3_; (try clear hb); (try clear hb2); (try clear hk); (try clear hi); (try clear ho0); (try clear ho1)) | (go_at_call 42; (with_reducible refine (spec_StabilizeSand.calls k _ _ t789 t799 t800 t801 _ ?side1 ?side2 A7.out).mono ?_); (case side1 => repeat (first | exact (Kd.R_reads' HO791.out).2.2 | (with_reducible refine Kd.C_alloc ?_ _) | (with_reducible refine Kd.C_drewN ?_ _) | (with_reducible refine Kd.C_drew ?_))); (case side2 => exact (Kd.R_reads' HO791.out).2.1); rintro e w12 ⟨v802, v804, rfl, ho0, ho1, hb⟩; have n0_ := Aside0.mk (Kd.R_mono (Kd.R_told (Kd.R_told (Kd.R_old (by (with_reducible repeat (first | apply Kd.R_alloc | apply Kd.R_drewN | apply Kd.R_drew)); exact HO791.out) hb) (Kd.R_base ho0)) (Kd.R_base ho1)) (fun _ h_ => h_.1)); have n1_ := Aside0.mk (Kd.R_mono (Kd.R_told (Kd.R_told (Kd.R_old (by (with_reducible repeat (first | apply Kd.R_alloc | apply Kd.R_drewN | apply Kd.R_drew)); exact HO796.out) hb) (Kd.R_base ho0)) (Kd.R_base ho1)) (fun _ h_ => h_.1)); have n2_ := Aside0.mk (Kd.R_mono (Kd.R_told (Kd.R_told (Kd.R_old (by (with_reducible repeat (first | apply Kd.R_alloc | apply Kd.R_drewN | apply Kd.R_drew)); exact HO798.out) hb) (Kd.R_base ho0)) (Kd.R_base ho1)) (fun _ h_ => h_.1)); have n3_ := Aside0.mk (Kd.R_lower (Kd.R_new' (Kd.R_new' (Kd.R_new' ho0 (Kd.R_lt (by (with_reducible repeat (first | apply Kd.R_alloc | apply Kd.R_drewN | apply Kd.R_drew)); exact HO791.out))) (Kd.R_lt (by (with_reducible repeat (first | apply Kd.R_alloc | apply Kd.R_drewN | apply Kd.R_drew)); exact HO796.out))) (Kd.R_lt (by (with_reducible repeat (first | apply Kd.R_alloc | apply Kd.R_drewN | apply Kd.R_drew)); exact HO798.out))) (below_size (by repeat (first | (with_reducible first | exact HB.out | apply below_alloc | apply pw_below_drewN | apply below_drew1) | exact HB.out)))); have n4_ := Aside0.mk (Kd.R_lower (Kd.R_new' (Kd.R_new' (Kd.R_new' ho1 (Kd.R_lt (by (with_reducible repeat (first | apply Kd.R_alloc | apply Kd.R_drewN | apply Kd.R_drew)); exact HO791.out))) (Kd.R_lt (by (with_reducible repeat (first | apply Kd.R_alloc | apply Kd.R_drewN | apply Kd.R_drew)); exact HO796.out))) (Kd.R_lt (by (with_reducible repeat (first | apply Kd.R_alloc | apply Kd.R_drewN | apply Kd.R_drew)); exact HO798.out))) (below_size (by repeat (first | (with_reducible first | exact HB.out | apply below_alloc | apply pw_below_drewN | apply below_drew1) | exact HB.out)))); have n5_ := Aside0.mk (below_step (by repeat (first | (with_reducible first | exact HB.out | apply below_alloc | apply pw_below_drewN | apply below_drew1) | exact HB.out)) hb); clear HO791; clear HO796; clear HO798; clear HB; have HO791 := n0_; have HO796 := n1_; have HO798 := n2_; have HO803 := n3_; have HO805 := n4_; have HB := n5_; clear n0_ n1_ n2_ n3_ n4_ n5_; (try clear hb); (try clear hb2); (try clear hk); (try clear hi); (try clear ho0); (try clear ho1))))
    (try simp only [Act.put, List.setIfInBounds_toArray, List.set_cons_zero, List.set_cons_succ])
    go_cut [64] (fun v64 wc => ∃ (kq : Nat) (x64_7 : Bool), v64 = .bool x64_7 ∧ Aside0 (laws_FnSandSettles.j0 kq l1 t789 t792 t793 t801 x64_7 = some r) ∧ Aside0 (kq ≤ k) ∧ Aside0 (Kd.R (Kd.int .i64) 3 wc w.heap.size (fun k_ => some k_ ≠ (v795 : Value).ownBlock ∧ some k_ ≠ (v797 : Value).ownBlock) (.slice Ao10 t789.length co10) t789) ∧ Aside0 (Kd.R (Kd.int .i64) 3 wc w.heap.size (fun k_ => some k_ ≠ ((.slice Ao10 t789.length co10) : Value).ownBlock ∧ some k_ ≠ (v797 : Value).ownBlock) v795 t792) ∧ Aside0 (Kd.R (Kd.int .i64) 3 wc w.heap.size (fun k_ => some k_ ≠ ((.slice Ao10 t789.length co10) : Value).ownBlock ∧ some k_ ≠ (v795 : Value).ownBlock) v797 t793) ∧ Aside0 (Below w.heap.size w wc))
    case first =>
      have H := HC8.out
      clear HC8
      by_cases c13 : (t794 != t801) = true
      · rw [if_pos c13] at H
        have c13b0 : (t794 != t801) = true := c13
        (try (have c13b1 : decide (t794 = t801) = false := by simpa using c13))
        (try (have c13b2 : (t794 == t801) = false := by simpa using c13))
        (try (have c13b3 : ¬ (t794 = t801) := by simpa using c13))
        clear c13
        (first | rw [c13b0] | (simp only [i64_w, i32_w]; rw [c13b0]) | skip)
        have H' := Aside0.mk H
        clear H
        go_wp2
        repeat (go_quiet (fail); try go_wp2)
        go_meet
        case rel => exact ⟨_, (true), (by first | rfl | (simp; done) | (simp [*]; done)), H', ⟨by first | omega | exact Nat.le_refl _⟩, ⟨by (with_reducible repeat (first | apply Kd.R_alloc | apply Kd.R_drewN | apply Kd.R_drew)); exact Kd.R_mono HO791.out (fun _ hk => ⟨hk.1.1.1.2, hk.1.1.2⟩)⟩, ⟨by (with_reducible repeat (first | apply Kd.R_alloc | apply Kd.R_drewN | apply Kd.R_drew)); exact Kd.R_mono HO796.out (fun _ hk => ⟨hk.1.1.2, hk.1.1.1⟩)⟩, ⟨by (with_reducible repeat (first | apply Kd.R_alloc | apply Kd.R_drewN | apply Kd.R_drew)); exact Kd.R_mono HO798.out (fun _ hk => ⟨hk.1.1.2, hk.1.1.1⟩)⟩, ⟨by repeat (first | (with_reducible first | exact HB.out | apply below_alloc | apply pw_below_drewN | apply below_drew1) | exact HB.out)⟩⟩
      · as_aux_lemma =>
        rw [if_neg c13] at H
        have c13b0 : (t794 != t801) = false := by simpa using c13
        (try (have c13b1 : decide (t794 = t801) = true := by simpa using c13))
        (try (have c13b2 : (t794 == t801) = true := by simpa using c13))
        clear c13
        (first | rw [c13b0] | (simp only [i64_w, i32_w]; rw [c13b0]) | skip)
        replace H := Option.bind_eq_some_iff.mp H
        obtain ⟨t806, A140, H⟩ := H
        replace H : (if t806 = true then ((laws_wSame.f k t793 t800).bind fun t807 => (laws_FnSandSettles.j0 k l1 t789 t792 t793 t801 (!t807))) else (laws_FnSandSettles.j0 k l1 t789 t792 t793 t801 true)) = some r := H
        have A14 := Aside0.mk A140
        clear A140
        by_cases c15 : t806 = true
        · as_aux_lemma =>
          subst c15
          have H1 : ((laws_wSame.f k t793 t800).bind fun t807 => (laws_FnSandSettles.j0 k l1 t789 t792 t793 t801 (!t807))) = some r := by rw [if_pos rfl] at H; exact H
          clear H
          have H := H1
          clear H1
          replace H := Option.bind_eq_some_iff.mp H
          obtain ⟨t807, A160, H⟩ := H
          replace H : (laws_FnSandSettles.j0 k l1 t789 t792 t793 t801 (!t807)) = some r := H
          have A16 := Aside0.mk A160
          clear A160
          have H' := Aside0.mk H
          clear H
          obtain ⟨Ao17, co17, eo17⟩ := Kd.R_slice HO796.out
          subst eo17
          obtain ⟨Ao18, co18, eo18⟩ := Kd.R_slice HO803.out
          subst eo18
          go_wp2_with (first | (go_at_call 50; (with_reducible refine (laws_wSame.calls k _ _ t792 _ _ t799 true _ ?side1 ?side2 ?side3 ?side4 A14.out).mono ?_); (case side1 => repeat (first | exact (Kd.R_reads' HO796.out).2.2 | (with_reducible refine Kd.C_alloc ?_ _) | (with_reducible refine Kd.C_drewN ?_ _) | (with_reducible refine Kd.C_drew ?_))); (case side2 => exact (Kd.R_reads' HO796.out).2.1); (case side3 => repeat (first | exact (Kd.R_reads' HO803.out).2.2 | (with_reducible refine Kd.C_alloc ?_ _) | (with_reducible refine Kd.C_drewN ?_ _) | (with_reducible refine Kd.C_drew ?_))); (case side4 => exact (Kd.R_reads' HO803.out).2.1); rintro e w' ⟨rfl, ⟨nd, rfl⟩⟩; (try first | exact ⟨rfl, _, World.drewN_drewN _ _ _⟩ | exact ⟨rfl, _, Eq.trans (World.drewN_drewN _ _ _) (congrArg (World.drewN _) (Nat.add_assoc _ _ _))⟩); obtain ⟨Ao19, co19, eo19⟩ := Kd.R_slice HO798.out; subst eo19; obtain ⟨Ao20, co20, eo20⟩ := Kd.R_slice HO805.out; subst eo20) | (go_at_call 50; (with_reducible refine (laws_wSame.calls k _ _ t793 _ _ t800 t807 _ ?side1 ?side2 ?side3 ?side4 A16.out).mono ?_); (case side1 => repeat (first | exact (Kd.R_reads' HO798.out).2.2 | (with_reducible refine Kd.C_alloc ?_ _) | (with_reducible refine Kd.C_drewN ?_ _) | (with_reducible refine Kd.C_drew ?_))); (case side2 => exact (Kd.R_reads' HO798.out).2.1); (case side3 => repeat (first | exact (Kd.R_reads' HO805.out).2.2 | (with_reducible refine Kd.C_alloc ?_ _) | (with_reducible refine Kd.C_drewN ?_ _) | (with_reducible refine Kd.C_drew ?_))); (case side4 => exact (Kd.R_reads' HO805.out).2.1); rintro e w' ⟨rfl, ⟨nd, rfl⟩⟩; (try first | exact ⟨rfl, _, World.drewN_drewN _ _ _⟩ | exact ⟨rfl, _, Eq.trans (World.drewN_drewN _ _ _) (congrArg (World.drewN _) (Nat.add_assoc _ _ _))⟩)))
          repeat (go_quiet (first | (go_at_call 50; (with_reducible refine (laws_wSame.calls k _ _ t792 _ _ t799 true _ ?side1 ?side2 ?side3 ?side4 A14.out).mono ?_); (case side1 => repeat (first | exact (Kd.R_reads' HO796.out).2.2 | (with_reducible refine Kd.C_alloc ?_ _) | (with_reducible refine Kd.C_drewN ?_ _) | (with_reducible refine Kd.C_drew ?_))); (case side2 => exact (Kd.R_reads' HO796.out).2.1); (case side3 => repeat (first | exact (Kd.R_reads' HO803.out).2.2 | (with_reducible refine Kd.C_alloc ?_ _) | (with_reducible refine Kd.C_drewN ?_ _) | (with_reducible refine Kd.C_drew ?_))); (case side4 => exact (Kd.R_reads' HO803.out).2.1); rintro e w' ⟨rfl, ⟨nd, rfl⟩⟩; (try first | exact ⟨rfl, _, World.drewN_drewN _ _ _⟩ | exact ⟨rfl, _, Eq.trans (World.drewN_drewN _ _ _) (congrArg (World.drewN _) (Nat.add_assoc _ _ _))⟩); obtain ⟨Ao19, co19, eo19⟩ := Kd.R_slice HO798.out; subst eo19; obtain ⟨Ao20, co20, eo20⟩ := Kd.R_slice HO805.out; subst eo20) | (go_at_call 50; (with_reducible refine (laws_wSame.calls k _ _ t793 _ _ t800 t807 _ ?side1 ?side2 ?side3 ?side4 A16.out).mono ?_); (case side1 => repeat (first | exact (Kd.R_reads' HO798.out).2.2 | (with_reducible refine Kd.C_alloc ?_ _) | (with_reducible refine Kd.C_drewN ?_ _) | (with_reducible refine Kd.C_drew ?_))); (case side2 => exact (Kd.R_reads' HO798.out).2.1); (case side3 => repeat (first | exact (Kd.R_reads' HO805.out).2.2 | (with_reducible refine Kd.C_alloc ?_ _) | (with_reducible refine Kd.C_drewN ?_ _) | (with_reducible refine Kd.C_drew ?_))); (case side4 => exact (Kd.R_reads' HO805.out).2.1); rintro e w' ⟨rfl, ⟨nd, rfl⟩⟩; (try first | exact ⟨rfl, _, World.drewN_drewN _ _ _⟩ | exact ⟨rfl, _, Eq.trans (World.drewN_drewN _ _ _) (congrArg (World.drewN _) (Nat.add_assoc _ _ _))⟩))); try go_wp2_with (first | (go_at_call 50; (with_reducible refine (laws_wSame.calls k _ _ t792 _ _ t799 true _ ?side1 ?side2 ?side3 ?side4 A14.out).mono ?_); (case side1 => repeat (first | exact (Kd.R_reads' HO796.out).2.2 | (with_reducible refine Kd.C_alloc ?_ _) | (with_reducible refine Kd.C_drewN ?_ _) | (with_reducible refine Kd.C_drew ?_))); (case side2 => exact (Kd.R_reads' HO796.out).2.1); (case side3 => repeat (first | exact (Kd.R_reads' HO803.out).2.2 | (with_reducible refine Kd.C_alloc ?_ _) | (with_reducible refine Kd.C_drewN ?_ _) | (with_reducible refine Kd.C_drew ?_))); (case side4 => exact (Kd.R_reads' HO803.out).2.1); rintro e w' ⟨rfl, ⟨nd, rfl⟩⟩; (try first | exact ⟨rfl, _, World.drewN_drewN _ _ _⟩ | exact ⟨rfl, _, Eq.trans (World.drewN_drewN _ _ _) (congrArg (World.drewN _) (Nat.add_assoc _ _ _))⟩); obtain ⟨Ao19, co19, eo19⟩ := Kd.R_slice HO798.out; subst eo19; obtain ⟨Ao20, co20, eo20⟩ := Kd.R_slice HO805.out; subst eo20) | (go_at_call 50; (with_reducible refine (laws_wSame.calls k _ _ t793 _ _ t800 t807 _ ?side1 ?side2 ?side3 ?side4 A16.out).mono ?_); (case side1 => repeat (first | exact (Kd.R_reads' HO798.out).2.2 | (with_reducible refine Kd.C_alloc ?_ _) | (with_reducible refine Kd.C_drewN ?_ _) | (with_reducible refine Kd.C_drew ?_))); (case side2 => exact (Kd.R_reads' HO798.out).2.1); (case side3 => repeat (first | exact (Kd.R_reads' HO805.out).2.2 | (with_reducible refine Kd.C_alloc ?_ _) | (with_reducible refine Kd.C_drewN ?_ _) | (with_reducible refine Kd.C_drew ?_))); (case side4 => exact (Kd.R_reads' HO805.out).2.1); rintro e w' ⟨rfl, ⟨nd, rfl⟩⟩; (try first | exact ⟨rfl, _, World.drewN_drewN _ _ _⟩ | exact ⟨rfl, _, Eq.trans (World.drewN_drewN _ _ _) (congrArg (World.drewN _) (Nat.add_assoc _ _ _))⟩))))
          go_meet
          case rel => exact ⟨_, (!t807), (by first | rfl | (simp; done) | (simp [*]; done)), H', ⟨by first | omega | exact Nat.le_refl _⟩, ⟨by (with_reducible repeat (first | apply Kd.R_alloc | apply Kd.R_drewN | apply Kd.R_drew)); exact Kd.R_mono HO791.out (fun _ hk => ⟨hk.1.1.1.2, hk.1.1.2⟩)⟩, ⟨by (with_reducible repeat (first | apply Kd.R_alloc | apply Kd.R_drewN | apply Kd.R_drew)); exact Kd.R_mono HO796.out (fun _ hk => ⟨hk.1.1.2, hk.1.1.1⟩)⟩, ⟨by (with_reducible repeat (first | apply Kd.R_alloc | apply Kd.R_drewN | apply Kd.R_drew)); exact Kd.R_mono HO798.out (fun _ hk => ⟨hk.1.1.2, hk.1.1.1⟩)⟩, ⟨by repeat (first | (with_reducible first | exact HB.out | apply below_alloc | apply pw_below_drewN | apply below_drew1) | exact HB.out)⟩⟩
        · replace c15 := Bool.eq_false_iff.mpr c15
          subst c15
          have H1 : (laws_FnSandSettles.j0 k l1 t789 t792 t793 t801 true) = some r := by rw [if_neg (show ¬ (false = true) by decide)] at H; exact H
          clear H
          have H := H1
          clear H1
          have H' := Aside0.mk H
          clear H
          obtain ⟨Ao21, co21, eo21⟩ := Kd.R_slice HO796.out
          subst eo21
          obtain ⟨Ao22, co22, eo22⟩ := Kd.R_slice HO803.out
          subst eo22
          go_wp2_with (first | (go_at_call 50; (with_reducible refine (laws_wSame.calls k _ _ t792 _ _ t799 false _ ?side1 ?side2 ?side3 ?side4 A14.out).mono ?_); (case side1 => repeat (first | exact (Kd.R_reads' HO796.out).2.2 | (with_reducible refine Kd.C_alloc ?_ _) | (with_reducible refine Kd.C_drewN ?_ _) | (with_reducible refine Kd.C_drew ?_))); (case side2 => exact (Kd.R_reads' HO796.out).2.1); (case side3 => repeat (first | exact (Kd.R_reads' HO803.out).2.2 | (with_reducible refine Kd.C_alloc ?_ _) | (with_reducible refine Kd.C_drewN ?_ _) | (with_reducible refine Kd.C_drew ?_))); (case side4 => exact (Kd.R_reads' HO803.out).2.1); rintro e w' ⟨rfl, ⟨nd, rfl⟩⟩; (try first | exact ⟨rfl, _, World.drewN_drewN _ _ _⟩ | exact ⟨rfl, _, Eq.trans (World.drewN_drewN _ _ _) (congrArg (World.drewN _) (Nat.add_assoc _ _ _))⟩)))
          repeat (go_quiet (first | (go_at_call 50; (with_reducible refine (laws_wSame.calls k _ _ t792 _ _ t799 false _ ?side1 ?side2 ?side3 ?side4 A14.out).mono ?_); (case side1 => repeat (first | exact (Kd.R_reads' HO796.out).2.2 | (with_reducible refine Kd.C_alloc ?_ _) | (with_reducible refine Kd.C_drewN ?_ _) | (with_reducible refine Kd.C_drew ?_))); (case side2 => exact (Kd.R_reads' HO796.out).2.1); (case side3 => repeat (first | exact (Kd.R_reads' HO803.out).2.2 | (with_reducible refine Kd.C_alloc ?_ _) | (with_reducible refine Kd.C_drewN ?_ _) | (with_reducible refine Kd.C_drew ?_))); (case side4 => exact (Kd.R_reads' HO803.out).2.1); rintro e w' ⟨rfl, ⟨nd, rfl⟩⟩; (try first | exact ⟨rfl, _, World.drewN_drewN _ _ _⟩ | exact ⟨rfl, _, Eq.trans (World.drewN_drewN _ _ _) (congrArg (World.drewN _) (Nat.add_assoc _ _ _))⟩))); try go_wp2_with (first | (go_at_call 50; (with_reducible refine (laws_wSame.calls k _ _ t792 _ _ t799 false _ ?side1 ?side2 ?side3 ?side4 A14.out).mono ?_); (case side1 => repeat (first | exact (Kd.R_reads' HO796.out).2.2 | (with_reducible refine Kd.C_alloc ?_ _) | (with_reducible refine Kd.C_drewN ?_ _) | (with_reducible refine Kd.C_drew ?_))); (case side2 => exact (Kd.R_reads' HO796.out).2.1); (case side3 => repeat (first | exact (Kd.R_reads' HO803.out).2.2 | (with_reducible refine Kd.C_alloc ?_ _) | (with_reducible refine Kd.C_drewN ?_ _) | (with_reducible refine Kd.C_drew ?_))); (case side4 => exact (Kd.R_reads' HO803.out).2.1); rintro e w' ⟨rfl, ⟨nd, rfl⟩⟩; (try first | exact ⟨rfl, _, World.drewN_drewN _ _ _⟩ | exact ⟨rfl, _, Eq.trans (World.drewN_drewN _ _ _) (congrArg (World.drewN _) (Nat.add_assoc _ _ _))⟩))))
          go_meet
          case rel => exact ⟨_, (true), (by first | rfl | (simp; done) | (simp [*]; done)), H', ⟨by first | omega | exact Nat.le_refl _⟩, ⟨by (with_reducible repeat (first | apply Kd.R_alloc | apply Kd.R_drewN | apply Kd.R_drew)); exact Kd.R_mono HO791.out (fun _ hk => ⟨hk.1.1.1.2, hk.1.1.2⟩)⟩, ⟨by (with_reducible repeat (first | apply Kd.R_alloc | apply Kd.R_drewN | apply Kd.R_drew)); exact Kd.R_mono HO796.out (fun _ hk => ⟨hk.1.1.2, hk.1.1.1⟩)⟩, ⟨by (with_reducible repeat (first | apply Kd.R_alloc | apply Kd.R_drewN | apply Kd.R_drew)); exact Kd.R_mono HO798.out (fun _ hk => ⟨hk.1.1.2, hk.1.1.1⟩)⟩, ⟨by repeat (first | (with_reducible first | exact HB.out | apply below_alloc | apply pw_below_drewN | apply below_drew1) | exact HB.out)⟩⟩
    case rest =>
      clear HC8
      try clear c1
      try clear p2
      try clear c4
      try clear c12
      try clear c13
      try clear c13b0
      try clear c13b1
      try clear c13b2
      try clear c15
      obtain ⟨kq, x64_7, rfl, HA, HJ7, HO_5, HO_6, HO_7, HB⟩ := hcut
      cases kq with
      | zero => exact absurd HA.out (by simp [laws_FnSandSettles.j0])
      | succ kj7 =>
        have H := HA.out
        clear HA
        simp only [laws_FnSandSettles.j0] at H
        by_cases c23 : x64_7 = true
        · subst c23
          have H1 : (some false) = some r := by rw [if_pos rfl] at H; exact H
          clear H
          have H := H1
          clear H1
          obtain rfl := Option.some.inj H
          go_wp2
          repeat (go_quiet (fail); try go_wp2)
          go_ret
          exact ⟨by first | rfl | (simp [errW_none, errW_some] <;> rfl) | (simp [*, errW_none, errW_some] <;> rfl), by repeat (first | (with_reducible first | exact HB.out | apply below_alloc | apply pw_below_drewN | apply below_drew1) | exact HB.out)⟩
        · as_aux_lemma =>
          replace c23 := Bool.eq_false_iff.mpr c23
          subst c23
          have H1 : ((spec_DrawToppleSand.f kj7 l1).bind fun bt808 => ((impl_ToppleSand.f kj7 bt808.1 bt808.2).bind fun bt812 => ((spec_ToppleSand.f kj7 bt808.1 bt808.2).bind fun bt816 => (if (bt812.2 != bt816.2) = true then (laws_FnSandSettles.j1 kj7 t789 t792 t793 t801 bt808.1 bt808.2 bt812.1 bt812.2 true) else ((laws_wSame.f kj7 bt812.1 bt816.1).bind fun t820 => (laws_FnSandSettles.j1 kj7 t789 t792 t793 t801 bt808.1 bt808.2 bt812.1 bt812.2 (!t820))))))) = some r := by rw [if_neg (show ¬ (false = true) by decide)] at H; exact H
          clear H
          have H := H1
          clear H1
          replace H := Option.bind_eq_some_iff.mp H
          obtain ⟨⟨t808, t809⟩, A240, H⟩ := H
          replace H : ((impl_ToppleSand.f kj7 t808 t809).bind fun bt812 => ((spec_ToppleSand.f kj7 t808 t809).bind fun bt816 => (if (bt812.2 != bt816.2) = true then (laws_FnSandSettles.j1 kj7 t789 t792 t793 t801 t808 t809 bt812.1 bt812.2 true) else ((laws_wSame.f kj7 bt812.1 bt816.1).bind fun t820 => (laws_FnSandSettles.j1 kj7 t789 t792 t793 t801 t808 t809 bt812.1 bt812.2 (!t820)))))) = some r := H
          have A24 := Aside0.mk A240
          clear A240
          replace H := Option.bind_eq_some_iff.mp H
          obtain ⟨⟨t812, t813⟩, A250, H⟩ := H
          replace H : ((spec_ToppleSand.f kj7 t808 t809).bind fun bt816 => (if (t813 != bt816.2) = true then (laws_FnSandSettles.j1 kj7 t789 t792 t793 t801 t808 t809 t812 t813 true) else ((laws_wSame.f kj7 t812 bt816.1).bind fun t820 => (laws_FnSandSettles.j1 kj7 t789 t792 t793 t801 t808 t809 t812 t813 (!t820))))) = some r := H
          have A25 := Aside0.mk A250
          clear A250
          replace H := Option.bind_eq_some_iff.mp H
          obtain ⟨⟨t816, t817⟩, A260, H⟩ := H
          replace H : (if (t813 != t817) = true then (laws_FnSandSettles.j1 kj7 t789 t792 t793 t801 t808 t809 t812 t813 true) else ((laws_wSame.f kj7 t812 t816).bind fun t820 => (laws_FnSandSettles.j1 kj7 t789 t792 t793 t801 t808 t809 t812 t813 (!t820)))) = some r := H
          have A26 := Aside0.mk A260
          clear A260
          have HC27 := Aside0.mk H
          clear H
          go_upto_region 11 with (first | (go_at_call 51; (with_reducible refine (spec_DrawToppleSand.calls kj7 _ _ l1 t808 t809 _ ?side1 ?side2 A24.out).mono ?_); (case side1 => repeat (first | exact (Kd.C_below HR1.out HB.out) | (with_reducible refine Kd.C_alloc ?_ _) | (with_reducible refine Kd.C_drewN ?_ _) | (with_reducible refine Kd.C_drew ?_))); (case side2 => exact HC1.out); rintro e w28 ⟨v810, rfl, ho0, hb⟩; have n0_ := Aside0.mk (Kd.R_elder' (by (with_reducible repeat (first | apply Kd.R_alloc | apply Kd.R_drewN | apply Kd.R_drew)); exact HO_5.out) (Kd.R_base ho0) hb); have n1_ := Aside0.mk (Kd.R_elder' (by (with_reducible repeat (first | apply Kd.R_alloc | apply Kd.R_drewN | apply Kd.R_drew)); exact HO_6.out) (Kd.R_base ho0) hb); have n2_ := Aside0.mk (Kd.R_elder' (by (with_reducible repeat (first | apply Kd.R_alloc | apply Kd.R_drewN | apply Kd.R_drew)); exact HO_7.out) (Kd.R_base ho0) hb); have n3_ := Aside0.mk (Kd.R_lower (Kd.R_new' (Kd.R_new' (Kd.R_new' ho0 (Kd.R_lt (by (with_reducible repeat (first | apply Kd.R_alloc | apply Kd.R_drewN | apply Kd.R_drew)); exact HO_5.out))) (Kd.R_lt (by (with_reducible repeat (first | apply Kd.R_alloc | apply Kd.R_drewN | apply Kd.R_drew)); exact HO_6.out))) (Kd.R_lt (by (with_reducible repeat (first | apply Kd.R_alloc | apply Kd.R_drewN | apply Kd.R_drew)); exact HO_7.out))) (below_size (by repeat (first | (with_reducible first | exact HB.out | apply below_alloc | apply pw_below_drewN | apply below_drew1) | exact HB.out)))); have n4_ := Aside0.mk (below_step (by repeat (first | (with_reducible first | exact HB.out | apply below_alloc | apply pw_below_drewN | apply below_drew1) | exact HB.out)) hb); clear HO_5; clear HO_6; clear HO_7; clear HB; have HO_5 := n0_; have HO_6 := n1_; have HO_7 := n2_; have HO811 := n3_; have HB := n4_; clear n0_ n1_ n2_ n3_ n4_; (try clear hb); (try clear hb2); (try clear hk); (try clear hi); (try clear ho0); obtain ⟨Ao29, co29, eo29⟩ := Kd.R_slice HO811.out; subst eo29) | (go_at_call 30; (with_reducible refine (impl_ToppleSand.calls kj7 _ _ t808 t809 t812 t813 _ ?side1 ?side2 A25.out).mono ?_); (case side1 => repeat (first | exact (Kd.R_reads' HO811.out).2.2 | (with_reducible refine Kd.C_alloc ?_ _) | (with_reducible refine Kd.C_drewN ?_ _) | (with_reducible refine Kd.C_drew ?_))); (case side2 => exact (Kd.R_reads' HO811.out).2.1); rintro e w30 ⟨v814, rfl, ho0, hb⟩; have n0_ := Aside0.mk (Kd.R_elder' (by (with_reducible repeat (first | apply Kd.R_alloc | apply Kd.R_drewN | apply Kd.R_drew)); exact HO_5.out) (Kd.R_base ho0) hb); have n1_ := Aside0.mk (Kd.R_elder' (by (with_reducible repeat (first | apply Kd.R_alloc | apply Kd.R_drewN | apply Kd.R_drew)); exact HO_6.out) (Kd.R_base ho0) hb); have n2_ := Aside0.mk (Kd.R_elder' (by (with_reducible repeat (first | apply Kd.R_alloc | apply Kd.R_drewN | apply Kd.R_drew)); exact HO_7.out) (Kd.R_base ho0) hb); have n3_ := Aside0.mk (Kd.R_elder' (by (with_reducible repeat (first | apply Kd.R_alloc | apply Kd.R_drewN | apply Kd.R_drew)); exact HO811.out) (Kd.R_base ho0) hb); have n4_ := Aside0.mk (Kd.R_lower (Kd.R_new' (Kd.R_new' (Kd.R_new' (Kd.R_new' ho0 (Kd.R_lt (by (with_reducible repeat (first | apply Kd.R_alloc | apply Kd.R_drewN | apply Kd.R_drew)); exact HO_5.out))) (Kd.R_lt (by (with_reducible repeat (first | apply Kd.R_alloc | apply Kd.R_drewN | apply Kd.R_drew)); exact HO_6.out))) (Kd.R_lt (by (with_reducible repeat (first | apply Kd.R_alloc | apply Kd.R_drewN | apply Kd.R_drew)); exact HO_7.out))) (Kd.R_lt (by (with_reducible repeat (first | apply Kd.R_alloc | apply Kd.R_drewN | apply Kd.R_drew)); exact HO811.out))) (below_size (by repeat (first | (with_reducible first | exact HB.out | apply below_alloc | apply pw_below_drewN | apply below_drew1) | exact HB.out)))); have n5_ := Aside0.mk (below_step (by repeat (first | (with_reducible first | exact HB.out | apply below_alloc | apply pw_below_drewN | apply below_drew1) | exact HB.out)) hb); clear HO_5; clear HO_6; clear HO_7; clear HO811; clear HB; have HO_5 := n0_; have HO_6 := n1_; have HO_7 := n2_; have HO811 := n3_; have HO815 := n4_; have HB := n5_; clear n0_ n1_ n2_ n3_ n4_ n5_; (try clear hb); (try clear hb2); (try clear hk); (try clear hi); (try clear ho0)) | (go_at_call 29; (with_reducible refine (spec_ToppleSand.calls kj7 _ _ t808 t809 t816 t817 _ ?side1 ?side2 A26.out).mono ?_); (case side1 => repeat (first | exact (Kd.R_reads' HO811.out).2.2 | (with_reducible refine Kd.C_alloc ?_ _) | (with_reducible refine Kd.C_drewN ?_ _) | (with_reducible refine Kd.C_drew ?_))); (case side2 => exact (Kd.R_reads' HO811.out).2.1); rintro e w31 ⟨v818, rfl, ho0, hb⟩; have n0_ := Aside0.mk (Kd.R_elder' (by (with_reducible repeat (first | apply Kd.R_alloc | apply Kd.R_drewN | apply Kd.R_drew)); exact HO_5.out) (Kd.R_base ho0) hb); have n1_ := Aside0.mk (Kd.R_elder' (by (with_reducible repeat (first | apply Kd.R_alloc | apply Kd.R_drewN | apply Kd.R_drew)); exact HO_6.out) (Kd.R_base ho0) hb); have n2_ := Aside0.mk (Kd.R_elder' (by (with_reducible repeat (first | apply Kd.R_alloc | apply Kd.R_drewN | apply Kd.R_drew)); exact HO_7.out) (Kd.R_base ho0) hb); have n3_ := Aside0.mk (Kd.R_elder' (by (with_reducible repeat (first | apply Kd.R_alloc | apply Kd.R_drewN | apply Kd.R_drew)); exact HO811.out) (Kd.R_base ho0) hb); have n4_ := Aside0.mk (Kd.R_elder' (by (with_reducible repeat (first | apply Kd.R_alloc | apply Kd.R_drewN | apply Kd.R_drew)); exact HO815.out) (Kd.R_base ho0) hb); have n5_ := Aside0.mk (Kd.R_lower (Kd.R_new' (Kd.R_new' (Kd.R_new' (Kd.R_new' (Kd.R_new' ho0 (Kd.R_lt (by (with_reducible repeat (first | apply Kd.R_alloc | apply Kd.R_drewN | apply Kd.R_drew)); exact HO_5.out))) (Kd.R_lt (by (with_reducible repeat (first | apply Kd.R_alloc | apply Kd.R_drewN | apply Kd.R_drew)); exact HO_6.out))) (Kd.R_lt (by (with_reducible repeat (first | apply Kd.R_alloc | apply Kd.R_drewN | apply Kd.R_drew)); exact HO_7.out))) (Kd.R_lt (by (with_reducible repeat (first | apply Kd.R_alloc | apply Kd.R_drewN | apply Kd.R_drew)); exact HO811.out))) (Kd.R_lt (by (with_reducible repeat (first | apply Kd.R_alloc | apply Kd.R_drewN | apply Kd.R_drew)); exact HO815.out))) (below_size (by repeat (first | (with_reducible first | exact HB.out | apply below_alloc | apply pw_below_drewN | apply below_drew1) | exact HB.out)))); have n6_ := Aside0.mk (below_step (by repeat (first | (with_reducible first | exact HB.out | apply below_alloc | apply pw_below_drewN | apply below_drew1) | exact HB.out)) hb); clear HO_5; clear HO_6; clear HO_7; clear HO811; clear HO815; clear HB; have HO_5 := n0_; have HO_6 := n1_; have HO_7 := n2_; have HO811 := n3_; have HO815 := n4_; have HO819 := n5_; have HB := n6_; clear n0_ n1_ n2_ n3_ n4_ n5_ n6_; (try clear hb); (try clear hb2); (try clear hk); (try clear hi); (try clear ho0)))
          repeat (go_quiet (first | (go_at_call 51; (with_reducible refine (spec_DrawToppleSand.calls kj7 _ _ l1 t808 t809 _ ?side1 ?side2 A24.out).mono ?_); (case side1 => repeat (first | exact (Kd.C_below HR1.out HB.out) | (with_reducible refine Kd.C_alloc ?_ _) | (with_reducible refine Kd.C_drewN ?_ _) | (with_reducible refine Kd.C_drew ?_))); (case side2 => exact HC1.out); rintro e w28 ⟨v810, rfl, ho0, hb⟩; have n0_ := Aside0.mk (Kd.R_elder' (by (with_reducible repeat (first | apply Kd.R_alloc | apply Kd.R_drewN | apply Kd.R_drew)); exact HO_5.out) (Kd.R_base ho0) hb); have n1_ := Aside0.mk (Kd.R_elder' (by (with_reducible repeat (first | apply Kd.R_alloc | apply Kd.R_drewN | apply Kd.R_drew)); exact HO_6.out) (Kd.R_base ho0) hb); have n2_ := Aside0.mk (Kd.R_elder' (by (with_reducible repeat (first | apply Kd.R_alloc | apply Kd.R_drewN | apply Kd.R_drew)); exact HO_7.out) (Kd.R_base ho0) hb); have n3_ := Aside0.mk (Kd.R_lower (Kd.R_new' (Kd.R_new' (Kd.R_new' ho0 (Kd.R_lt (by (with_reducible repeat (first | apply Kd.R_alloc | apply Kd.R_drewN | apply Kd.R_drew)); exact HO_5.out))) (Kd.R_lt (by (with_reducible repeat (first | apply Kd.R_alloc | apply Kd.R_drewN | apply Kd.R_drew)); exact HO_6.out))) (Kd.R_lt (by (with_reducible repeat (first | apply Kd.R_alloc | apply Kd.R_drewN | apply Kd.R_drew)); exact HO_7.out))) (below_size (by repeat (first | (with_reducible first | exact HB.out | apply below_alloc | apply pw_below_drewN | apply below_drew1) | exact HB.out)))); have n4_ := Aside0.mk (below_step (by repeat (first | (with_reducible first | exact HB.out | apply below_alloc | apply pw_below_drewN | apply below_drew1) | exact HB.out)) hb); clear HO_5; clear HO_6; clear HO_7; clear HB; have HO_5 := n0_; have HO_6 := n1_; have HO_7 := n2_; have HO811 := n3_; have HB := n4_; clear n0_ n1_ n2_ n3_ n4_; (try clear hb); (try clear hb2); (try clear hk); (try clear hi); (try clear ho0); obtain ⟨Ao29, co29, eo29⟩ := Kd.R_slice HO811.out; subst eo29) | (go_at_call 30; (with_reducible refine (impl_ToppleSand.calls kj7 _ _ t808 t809 t812 t813 _ ?side1 ?side2 A25.out).mono ?_); (case side1 => repeat (first | exact (Kd.R_reads' HO811.out).2.2 | (with_reducible refine Kd.C_alloc ?_ _) | (with_reducible refine Kd.C_drewN ?_ _) | (with_reducible refine Kd.C_drew ?_))); (case side2 => exact (Kd.R_reads' HO811.out).2.1); rintro e w30 ⟨v814, rfl, ho0, hb⟩; have n0_ := Aside0.mk (Kd.R_elder' (by (with_reducible repeat (first | apply Kd.R_alloc | apply Kd.R_drewN | apply Kd.R_drew)); exact HO_5.out) (Kd.R_base ho0) hb); have n1_ := Aside0.mk (Kd.R_elder' (by (with_reducible repeat (first | apply Kd.R_alloc | apply Kd.R_drewN | apply Kd.R_drew)); exact HO_6.out) (Kd.R_base ho0) hb); have n2_ := Aside0.mk (Kd.R_elder' (by (with_reducible repeat (first | apply Kd.R_alloc | apply Kd.R_drewN | apply Kd.R_drew)); exact HO_7.out) (Kd.R_base ho0) hb); have n3_ := Aside0.mk (Kd.R_elder' (by (with_reducible repeat (first | apply Kd.R_alloc | apply Kd.R_drewN | apply Kd.R_drew)); exact HO811.out) (Kd.R_base ho0) hb); have n4_ := Aside0.mk (Kd.R_lower (Kd.R_new' (Kd.R_new' (Kd.R_new' (Kd.R_new' ho0 (Kd.R_lt (by (with_reducible repeat (first | apply Kd.R_alloc | apply Kd.R_drewN | apply Kd.R_drew)); exact HO_5.out))) (Kd.R_lt (by (with_reducible repeat (first | apply Kd.R_alloc | apply Kd.R_drewN | apply Kd.R_drew)); exact HO_6.out))) (Kd.R_lt (by (with_reducible repeat (first | apply Kd.R_alloc | apply Kd.R_drewN | apply Kd.R_drew)); exact HO_7.out))) (Kd.R_lt (by (with_reducible repeat (first | apply Kd.R_alloc | apply Kd.R_drewN | apply Kd.R_drew)); exact HO811.out))) (below_size (by repeat (first | (with_reducible first | exact HB.out | apply below_alloc | apply pw_below_drewN | apply below_drew1) | exact HB.out)))); have n5_ := Aside0.mk (below_step (by repeat (first | (with_reducible first | exact HB.out | apply below_alloc | apply pw_below_drewN | apply below_drew1) | exact HB.out)) hb); clear HO_5; clear HO_6; clear HO_7; clear HO811; clear HB; have HO_5 := n0_; have HO_6 := n1_; have HO_7 := n2_; have HO811 := n3_; have HO815 := n4_; have HB := n5_; clear n0_ n1_ n2_ n3_ n4_ n5_; (try clear hb); (try clear hb2); (try clear hk); (try clear hi); (try clear ho0)) | (go_at_call 29; (with_reducible refine (spec_ToppleSand.calls kj7 _ _ t808 t809 t816 t817 _ ?side1 ?side2 A26.out).mono ?_); (case side1 => repeat (first | exact (Kd.R_reads' HO811.out).2.2 | (with_reducible refine Kd.C_alloc ?_ _) | (with_reducible refine Kd.C_drewN ?_ _) | (with_reducible refine Kd.C_drew ?_))); (case side2 => exact (Kd.R_reads' HO811.out).2.1); rintro e w31 ⟨v818, rfl, ho0, hb⟩; have n0_ := Aside0.mk (Kd.R_elder' (by (with_reducible repeat (first | apply Kd.R_alloc | apply Kd.R_drewN | apply Kd.R_drew)); exact HO_5.out) (Kd.R_base ho0) hb); have n1_ := Aside0.mk (Kd.R_elder' (by (with_reducible repeat (first | apply Kd.R_alloc | apply Kd.R_drewN | apply Kd.R_drew)); exact HO_6.out) (Kd.R_base ho0) hb); have n2_ := Aside0.mk (Kd.R_elder' (by (with_reducible repeat (first | apply Kd.R_alloc | apply Kd.R_drewN | apply Kd.R_drew)); exact HO_7.out) (Kd.R_base ho0) hb); have n3_ := Aside0.mk (Kd.R_elder' (by (with_reducible repeat (first | apply Kd.R_alloc | apply Kd.R_drewN | apply Kd.R_drew)); exact HO811.out) (Kd.R_base ho0) hb); have n4_ := Aside0.mk (Kd.R_elder' (by (with_reducible repeat (first | apply Kd.R_alloc | apply Kd.R_drewN | apply Kd.R_drew)); exact HO815.out) (Kd.R_base ho0) hb); have n5_ := Aside0.mk (Kd.R_lower (Kd.R_new' (Kd.R_new' (Kd.R_new' (Kd.R_new' (Kd.R_new' ho0 (Kd.R_lt (by (with_reducible repeat (first | apply Kd.R_alloc | apply Kd.R_drewN | apply Kd.R_drew)); exact HO_5.out))) (Kd.R_lt (by (with_reducible repeat (first | apply Kd.R_alloc | apply Kd.R_drewN | apply Kd.R_drew)); exact HO_6.out))) (Kd.R_lt (by (with_reducible repeat (first | apply Kd.R_alloc | apply Kd.R_drewN | apply Kd.R_drew)); exact HO_7.out))) (Kd.R_lt (by (with_reducible repeat (first | apply Kd.R_alloc | apply Kd.R_drewN | apply Kd.R_drew)); exact HO811.out))) (Kd.R_lt (by (with_reducible repeat (first | apply Kd.R_alloc | apply Kd.R_drewN | apply Kd.R_drew)); exact HO815.out))) (below_size (by repeat (first | (with_reducible first | exact HB.out | apply below_alloc | apply pw_below_drewN | apply below_drew1) | exact HB.out)))); have n6_ := Aside0.mk (below_step (by repeat (first | (with_reducible first | exact HB.out | apply below_alloc | apply pw_below_drewN | apply below_drew1) | exact HB.out)) hb); clear HO_5; clear HO_6; clear HO_7; clear HO811; clear HO815; clear HB; have HO_5 := n0_; have HO_6 := n1_; have HO_7 := n2_; have HO811 := n3_; have HO815 := n4_; have HO819 := n5_; have HB := n6_; clear n0_ n1_ n2_ n3_ n4_ n5_ n6_; (try clear hb); (try clear hb2); (try clear hk); (try clear hi); (try clear ho0))); go_upto_region 11 with (first | (go_at_call 51; (with_reducible refine (spec_DrawToppleSand.calls kj7 _ _ l1 t808 t809 _ ?side1 ?side2 A24.out).mono ?_); (case side1 => repeat (first | exact (Kd.C_below HR1.out HB.out) | (with_reducible refine Kd.C_alloc ?_ _) | (with_reducible refine Kd.C_drewN ?_ _) | (with_reducible refine Kd.C_drew ?_))); (case side2 => exact HC1.out); rintro e w28 ⟨v810, rfl, ho0, hb⟩; have n0_ := Aside0.mk (Kd.R_elder' (by (with_reducible repeat (first | apply Kd.R_alloc | apply Kd.R_drewN | apply Kd.R_drew)); exact HO_5.out) (Kd.R_base ho0) hb); have n1_ := Aside0.mk (Kd.R_elder' (by (with_reducible repeat (first | apply Kd.R_alloc | apply Kd.R_drewN | apply Kd.R_drew)); exact HO_6.out) (Kd.R_base ho0) hb); have n2_ := Aside0.mk (Kd.R_elder' (by (with_reducible repeat (first | apply Kd.R_alloc | apply Kd.R_drewN | apply Kd.R_drew)); exact HO_7.out) (Kd.R_base ho0) hb); have n3_ := Aside0.mk (Kd.R_lower (Kd.R_new' (Kd.R_new' (Kd.R_new' ho0 (Kd.R_lt (by (with_reducible repeat (first | apply Kd.R_alloc | apply Kd.R_drewN | apply Kd.R_drew)); exact HO_5.out))) (Kd.R_lt (by (with_reducible repeat (first | apply Kd.R_alloc | apply Kd.R_drewN | apply Kd.R_drew)); exact HO_6.out))) (Kd.R_lt (by (with_reducible repeat (first | apply Kd.R_alloc | apply Kd.R_drewN | apply Kd.R_drew)); exact HO_7.out))) (below_size (by repeat (first | (with_reducible first | exact HB.out | apply below_alloc | apply pw_below_drewN | apply below_drew1) | exact HB.out)))); have n4_ := Aside0.mk (below_step (by repeat (first | (with_reducible first | exact HB.out | apply below_alloc | apply pw_below_drewN | apply below_drew1) | exact HB.out)) hb); clear HO_5; clear HO_6; clear HO_7; clear HB; have HO_5 := n0_; have HO_6 := n1_; have HO_7 := n2_; have HO811 := n3_; have HB := n4_; clear n0_ n1_ n2_ n3_ n4_; (try clear hb); (try clear hb2); (try clear hk); (try clear hi); (try clear ho0); obtain ⟨Ao29, co29, eo29⟩ := Kd.R_slice HO811.out; subst eo29) | (go_at_call 30; (with_reducible refine (impl_ToppleSand.calls kj7 _ _ t808 t809 t812 t813 _ ?side1 ?side2 A25.out).mono ?_); (case side1 => repeat (first | exact (Kd.R_reads' HO811.out).2.2 | (with_reducible refine Kd.C_alloc ?_ _) | (with_reducible refine Kd.C_drewN ?_ _) | (with_reducible refine Kd.C_drew ?_))); (case side2 => exact (Kd.R_reads' HO811.out).2.1); rintro e w30 ⟨v814, rfl, ho0, hb⟩; have n0_ := Aside0.mk (Kd.R_elder' (by (with_reducible repeat (first | apply Kd.R_alloc | apply Kd.R_drewN | apply Kd.R_drew)); exact HO_5.out) (Kd.R_base ho0) hb); have n1_ := Aside0.mk (Kd.R_elder' (by (with_reducible repeat (first | apply Kd.R_alloc | apply Kd.R_drewN | apply Kd.R_drew)); exact HO_6.out) (Kd.R_base ho0) hb); have n2_ := Aside0.mk (Kd.R_elder' (by (with_reducible repeat (first | apply Kd.R_alloc | apply Kd.R_drewN | apply Kd.R_drew)); exact HO_7.out) (Kd.R_base ho0) hb); have n3_ := Aside0.mk (Kd.R_elder' (by (with_reducible repeat (first | apply Kd.R_alloc | apply Kd.R_drewN | apply Kd.R_drew)); exact HO811.out) (Kd.R_base ho0) hb); have n4_ := Aside0.mk (Kd.R_lower (Kd.R_new' (Kd.R_new' (Kd.R_new' (Kd.R_new' ho0 (Kd.R_lt (by (with_reducible repeat (first | apply Kd.R_alloc | apply Kd.R_drewN | apply Kd.R_drew)); exact HO_5.out))) (Kd.R_lt (by (with_reducible repeat (first | apply Kd.R_alloc | apply Kd.R_drewN | apply Kd.R_drew)); exact HO_6.out))) (Kd.R_lt (by (with_reducible repeat (first | apply Kd.R_alloc | apply Kd.R_drewN | apply Kd.R_drew)); exact HO_7.out))) (Kd.R_lt (by (with_reducible repeat (first | apply Kd.R_alloc | apply Kd.R_drewN | apply Kd.R_drew)); exact HO811.out))) (below_size (by repeat (first | (with_reducible first | exact HB.out | apply below_alloc | apply pw_below_drewN | apply below_drew1) | exact HB.out)))); have n5_ := Aside0.mk (below_step (by repeat (first | (with_reducible first | exact HB.out | apply below_alloc | apply pw_below_drewN | apply below_drew1) | exact HB.out)) hb); clear HO_5; clear HO_6; clear HO_7; clear HO811; clear HB; have HO_5 := n0_; have HO_6 := n1_; have HO_7 := n2_; have HO811 := n3_; have HO815 := n4_; have HB := n5_; clear n0_ n1_ n2_ n3_ n4_ n5_; (try clear hb); (try clear hb2); (try clear hk); (try clear hi); (try clear ho0)) | (go_at_call 29; (with_reducible refine (spec_ToppleSand.calls kj7 _ _ t808 t809 t816 t817 _ ?side1 ?side2 A26.out).mono ?_); (case side1 => repeat (first | exact (Kd.R_reads' HO811.out).2.2 | (with_reducible refine Kd.C_alloc ?_ _) | (with_reducible refine Kd.C_drewN ?_ _) | (with_reducible refine Kd.C_drew ?_))); (case side2 => exact (Kd.R_reads' HO811.out).2.1); rintro e w31 ⟨v818, rfl, ho0, hb⟩; have n0_ := Aside0.mk (Kd.R_elder' (by (with_reducible repeat (first | apply Kd.R_alloc | apply Kd.R_drewN | apply Kd.R_drew)); exact HO_5.out) (Kd.R_base ho0) hb); have n1_ := Aside0.mk (Kd.R_elder' (by (with_reducible repeat (first | apply Kd.R_alloc | apply Kd.R_drewN | apply Kd.R_drew)); exact HO_6.out) (Kd.R_base ho0) hb); have n2_ := Aside0.mk (Kd.R_elder' (by (with_reducible repeat (first | apply Kd.R_alloc | apply Kd.R_drewN | apply Kd.R_drew)); exact HO_7.out) (Kd.R_base ho0) hb); have n3_ := Aside0.mk (Kd.R_elder' (by (with_reducible repeat (first | apply Kd.R_alloc | apply Kd.R_drewN | apply Kd.R_drew)); exact HO811.out) (Kd.R_base ho0) hb); have n4_ := Aside0.mk (Kd.R_elder' (by (with_reducible repeat (first | apply Kd.R_alloc | apply Kd.R_drewN | apply Kd.R_drew)); exact HO815.out) (Kd.R_base ho0) hb); have n5_ := Aside0.mk (Kd.R_lower (Kd.R_new' (Kd.R_new' (Kd.R_new' (Kd.R_new' (Kd.R_new' ho0 (Kd.R_lt (by (with_reducible repeat (first | apply Kd.R_alloc | apply Kd.R_drewN | apply Kd.R_drew)); exact HO_5.out))) (Kd.R_lt (by (with_reducible repeat (first | apply Kd.R_alloc | apply Kd.R_drewN | apply Kd.R_drew)); exact HO_6.out))) (Kd.R_lt (by (with_reducible repeat (first | apply Kd.R_alloc | apply Kd.R_drewN | apply Kd.R_drew)); exact HO_7.out))) (Kd.R_lt (by (with_reducible repeat (first | apply Kd.R_alloc | apply Kd.R_drewN | apply Kd.R_drew)); exact HO811.out))) (Kd.R_lt (by (with_reducible repeat (first | apply Kd.R_alloc | apply Kd.R_drewN | apply Kd.R_drew)); exact HO815.out))) (below_size (by repeat (first | (with_reducible first | exact HB.out | apply below_alloc | apply pw_below_drewN | apply below_drew1) | exact HB.out)))); have n6_ := Aside0.mk (below_step (by repeat (first | (with_reducible first | exact HB.out | apply below_alloc | apply pw_below_drewN | apply below_drew1) | exact HB.out)) hb); clear HO_5; clear HO_6; clear HO_7; clear HO811; clear HO815; clear HB; have HO_5 := n0_; have HO_6 := n1_; have HO_7 := n2_; have HO811 := n3_; have HO815 := n4_; have HO819 := n5_; have HB := n6_; clear n0_ n1_ n2_ n3_ n4_ n5_ n6_; (try clear hb); (try clear hb2); (try clear hk); (try clear hi); (try clear ho0))))
          (try simp only [Act.put, List.setIfInBounds_toArray, List.set_cons_zero, List.set_cons_succ])
          go_cut [90] (fun v90 wc => ∃ (kq : Nat) (x90_26 : Bool), v90 = .bool x90_26 ∧ Aside0 (laws_FnSandSettles.j1 kq t789 t792 t793 t801 t808 t809 t812 t813 x90_26 = some r) ∧ Aside0 (kq ≤ kj7) ∧ Aside0 (Kd.R (Kd.int .i64) 3 wc w.heap.size (fun k_ => some k_ ≠ (v795 : Value).ownBlock ∧ some k_ ≠ (v797 : Value).ownBlock ∧ some k_ ≠ ((.slice Ao29 t808.length co29) : Value).ownBlock ∧ some k_ ≠ (v814 : Value).ownBlock) (.slice Ao10 t789.length co10) t789) ∧ Aside0 (Kd.R (Kd.int .i64) 3 wc w.heap.size (fun k_ => some k_ ≠ ((.slice Ao10 t789.length co10) : Value).ownBlock ∧ some k_ ≠ (v797 : Value).ownBlock ∧ some k_ ≠ ((.slice Ao29 t808.length co29) : Value).ownBlock ∧ some k_ ≠ (v814 : Value).ownBlock) v795 t792) ∧ Aside0 (Kd.R (Kd.int .i64) 3 wc w.heap.size (fun k_ => some k_ ≠ ((.slice Ao10 t789.length co10) : Value).ownBlock ∧ some k_ ≠ (v795 : Value).ownBlock ∧ some k_ ≠ ((.slice Ao29 t808.length co29) : Value).ownBlock ∧ some k_ ≠ (v814 : Value).ownBlock) v797 t793) ∧ Aside0 (Kd.R (Kd.int .i64) 3 wc w.heap.size (fun k_ => some k_ ≠ ((.slice Ao10 t789.length co10) : Value).ownBlock ∧ some k_ ≠ (v795 : Value).ownBlock ∧ some k_ ≠ (v797 : Value).ownBlock ∧ some k_ ≠ (v814 : Value).ownBlock) (.slice Ao29 t808.length co29) t808) ∧ Aside0 (Kd.R (Kd.int .i64) 3 wc w.heap.size (fun k_ => some k_ ≠ ((.slice Ao10 t789.length co10) : Value).ownBlock ∧ some k_ ≠ (v795 : Value).ownBlock ∧ some k_ ≠ (v797 : Value).ownBlock ∧ some k_ ≠ ((.slice Ao29 t808.length co29) : Value).ownBlock) v814 t812) ∧ Aside0 (Below w.heap.size w wc))
          case first =>
            have H := HC27.out
            clear HC27
            by_cases c32 : (t813 != t817) = true
            · rw [if_pos c32] at H
              have c32b0 : (t813 != t817) = true := c32
              (try (have c32b1 : decide (t813 = t817) = false := by simpa using c32))
              (try (have c32b2 : (t813 == t817) = false := by simpa using c32))
              (try (have c32b3 : ¬ (t813 = t817) := by simpa using c32))
              clear c32
              (first | rw [c32b0] | (simp only [i64_w, i32_w]; rw [c32b0]) | skip)
              have H' := Aside0.mk H
              clear H
              go_wp2
              repeat (go_quiet (fail); try go_wp2)
              go_meet
              case rel => exact ⟨_, (true), (by first | rfl | (simp; done) | (simp [*]; done)), H', ⟨by have := HJ7.out; first | omega | exact Nat.le_refl _⟩, ⟨by (with_reducible repeat (first | apply Kd.R_alloc | apply Kd.R_drewN | apply Kd.R_drew)); exact Kd.R_mono HO_5.out (fun _ hk => ⟨hk.1.1.1.1, ⟨hk.1.1.1.2, ⟨hk.1.1.2, hk.1.2⟩⟩⟩)⟩, ⟨by (with_reducible repeat (first | apply Kd.R_alloc | apply Kd.R_drewN | apply Kd.R_drew)); exact Kd.R_mono HO_6.out (fun _ hk => ⟨hk.1.1.1.1, ⟨hk.1.1.1.2, ⟨hk.1.1.2, hk.1.2⟩⟩⟩)⟩, ⟨by (with_reducible repeat (first | apply Kd.R_alloc | apply Kd.R_drewN | apply Kd.R_drew)); exact Kd.R_mono HO_7.out (fun _ hk => ⟨hk.1.1.1.1, ⟨hk.1.1.1.2, ⟨hk.1.1.2, hk.1.2⟩⟩⟩)⟩, ⟨by (with_reducible repeat (first | apply Kd.R_alloc | apply Kd.R_drewN | apply Kd.R_drew)); exact Kd.R_mono HO811.out (fun _ hk => ⟨hk.1.1.1.1.2, ⟨hk.1.1.1.2, ⟨hk.1.1.2, hk.1.2⟩⟩⟩)⟩, ⟨by (with_reducible repeat (first | apply Kd.R_alloc | apply Kd.R_drewN | apply Kd.R_drew)); exact Kd.R_mono HO815.out (fun _ hk => ⟨hk.1.1.1.1.2, ⟨hk.1.1.1.2, ⟨hk.1.1.2, hk.1.2⟩⟩⟩)⟩, ⟨by repeat (first | (with_reducible first | exact HB.out | apply below_alloc | apply pw_below_drewN | apply below_drew1) | exact HB.out)⟩⟩
            · rw [if_neg c32] at H
              have c32b0 : (t813 != t817) = false := by simpa using c32
              (try (have c32b1 : decide (t813 = t817) = true := by simpa using c32))
              (try (have c32b2 : (t813 == t817) = true := by simpa using c32))
              clear c32
              (first | rw [c32b0] | (simp only [i64_w, i32_w]; rw [c32b0]) | skip)
              replace H := Option.bind_eq_some_iff.mp H
              obtain ⟨t820, A330, H⟩ := H
              replace H : (laws_FnSandSettles.j1 kj7 t789 t792 t793 t801 t808 t809 t812 t813 (!t820)) = some r := H
              have A33 := Aside0.mk A330
              clear A330
              have H' := Aside0.mk H
              clear H
              obtain ⟨Ao34, co34, eo34⟩ := Kd.R_slice HO815.out
              subst eo34
              obtain ⟨Ao35, co35, eo35⟩ := Kd.R_slice HO819.out
              subst eo35
              go_wp2_with (first | (go_at_call 50; (with_reducible refine (laws_wSame.calls kj7 _ _ t812 _ _ t816 t820 _ ?side1 ?side2 ?side3 ?side4 A33.out).mono ?_); (case side1 => repeat (first | exact (Kd.R_reads' HO815.out).2.2 | (with_reducible refine Kd.C_alloc ?_ _) | (with_reducible refine Kd.C_drewN ?_ _) | (with_reducible refine Kd.C_drew ?_))); (case side2 => exact (Kd.R_reads' HO815.out).2.1); (case side3 => repeat (first | exact (Kd.R_reads' HO819.out).2.2 | (with_reducible refine Kd.C_alloc ?_ _) | (with_reducible refine Kd.C_drewN ?_ _) | (with_reducible refine Kd.C_drew ?_))); (case side4 => exact (Kd.R_reads' HO819.out).2.1); rintro e w' ⟨rfl, ⟨nd, rfl⟩⟩; (try first | exact ⟨rfl, _, World.drewN_drewN _ _ _⟩ | exact ⟨rfl, _, Eq.trans (World.drewN_drewN _ _ _) (congrArg (World.drewN _) (Nat.add_assoc _ _ _))⟩)))
              repeat (go_quiet (first | (go_at_call 50; (with_reducible refine (laws_wSame.calls kj7 _ _ t812 _ _ t816 t820 _ ?side1 ?side2 ?side3 ?side4 A33.out).mono ?_); (case side1 => repeat (first | exact (Kd.R_reads' HO815.out).2.2 | (with_reducible refine Kd.C_alloc ?_ _) | (with_reducible refine Kd.C_drewN ?_ _) | (with_reducible refine Kd.C_drew ?_))); (case side2 => exact (Kd.R_reads' HO815.out).2.1); (case side3 => repeat (first | exact (Kd.R_reads' HO819.out).2.2 | (with_reducible refine Kd.C_alloc ?_ _) | (with_reducible refine Kd.C_drewN ?_ _) | (with_reducible refine Kd.C_drew ?_))); (case side4 => exact (Kd.R_reads' HO819.out).2.1); rintro e w' ⟨rfl, ⟨nd, rfl⟩⟩; (try first | exact ⟨rfl, _, World.drewN_drewN _ _ _⟩ | exact ⟨rfl, _, Eq.trans (World.drewN_drewN _ _ _) (congrArg (World.drewN _) (Nat.add_assoc _ _ _))⟩))); try go_wp2_with (first | (go_at_call 50; (with_reducible refine (laws_wSame.calls kj7 _ _ t812 _ _ t816 t820 _ ?side1 ?side2 ?side3 ?side4 A33.out).mono ?_); (case side1 => repeat (first | exact (Kd.R_reads' HO815.out).2.2 | (with_reducible refine Kd.C_alloc ?_ _) | (with_reducible refine Kd.C_drewN ?_ _) | (with_reducible refine Kd.C_drew ?_))); (case side2 => exact (Kd.R_reads' HO815.out).2.1); (case side3 => repeat (first | exact (Kd.R_reads' HO819.out).2.2 | (with_reducible refine Kd.C_alloc ?_ _) | (with_reducible refine Kd.C_drewN ?_ _) | (with_reducible refine Kd.C_drew ?_))); (case side4 => exact (Kd.R_reads' HO819.out).2.1); rintro e w' ⟨rfl, ⟨nd, rfl⟩⟩; (try first | exact ⟨rfl, _, World.drewN_drewN _ _ _⟩ | exact ⟨rfl, _, Eq.trans (World.drewN_drewN _ _ _) (congrArg (World.drewN _) (Nat.add_assoc _ _ _))⟩))))
              go_meet
              case rel => exact ⟨_, (!t820), (by first | rfl | (simp; done) | (simp [*]; done)), H', ⟨by have := HJ7.out; first | omega | exact Nat.le_refl _⟩, ⟨by (with_reducible repeat (first | apply Kd.R_alloc | apply Kd.R_drewN | apply Kd.R_drew)); exact Kd.R_mono HO_5.out (fun _ hk => ⟨hk.1.1.1.1, ⟨hk.1.1.1.2, ⟨hk.1.1.2, hk.1.2⟩⟩⟩)⟩, ⟨by (with_reducible repeat (first | apply Kd.R_alloc | apply Kd.R_drewN | apply Kd.R_drew)); exact Kd.R_mono HO_6.out (fun _ hk => ⟨hk.1.1.1.1, ⟨hk.1.1.1.2, ⟨hk.1.1.2, hk.1.2⟩⟩⟩)⟩, ⟨by (with_reducible repeat (first | apply Kd.R_alloc | apply Kd.R_drewN | apply Kd.R_drew)); exact Kd.R_mono HO_7.out (fun _ hk => ⟨hk.1.1.1.1, ⟨hk.1.1.1.2, ⟨hk.1.1.2, hk.1.2⟩⟩⟩)⟩, ⟨by (with_reducible repeat (first | apply Kd.R_alloc | apply Kd.R_drewN | apply Kd.R_drew)); exact Kd.R_mono HO811.out (fun _ hk => ⟨hk.1.1.1.1.2, ⟨hk.1.1.1.2, ⟨hk.1.1.2, hk.1.2⟩⟩⟩)⟩, ⟨by (with_reducible repeat (first | apply Kd.R_alloc | apply Kd.R_drewN | apply Kd.R_drew)); exact Kd.R_mono HO815.out (fun _ hk => ⟨hk.1.1.1.1.2, ⟨hk.1.1.1.2, ⟨hk.1.1.2, hk.1.2⟩⟩⟩)⟩, ⟨by repeat (first | (with_reducible first | exact HB.out | apply below_alloc | apply pw_below_drewN | apply below_drew1) | exact HB.out)⟩⟩
          case rest =>
            clear HC27
            try clear c1
            try clear c2
            try clear p2
            try clear c3
            try clear c4
            try clear c12
            try clear c13
            try clear c13b0
            try clear c13b1
            try clear c13b2
            try clear c15
            try clear c23
            try clear c32
            try clear c32b0
            try clear c32b1
            try clear c32b2
            try clear p2
            obtain ⟨kq, x90_26, rfl, HA, HJ26, HO_5, HO_6, HO_7, HO_12, HO_14, HB⟩ := hcut
            cases kq with
            | zero => exact absurd HA.out (by simp [laws_FnSandSettles.j1])
            | succ kj26 =>
              have H := HA.out
              clear HA
              simp only [laws_FnSandSettles.j1] at H
              by_cases c36 : x90_26 = true
              · subst c36
                have H1 : (some false) = some r := by rw [if_pos rfl] at H; exact H
                clear H
                have H := H1
                clear H1
                obtain rfl := Option.some.inj H
                go_wp2
                repeat (go_quiet (fail); try go_wp2)
                go_ret
                exact ⟨by first | rfl | (simp [errW_none, errW_some] <;> rfl) | (simp [*, errW_none, errW_some] <;> rfl), by repeat (first | (with_reducible first | exact HB.out | apply below_alloc | apply pw_below_drewN | apply below_drew1) | exact HB.out)⟩
              · as_aux_lemma =>
                replace c36 := Bool.eq_false_iff.mpr c36
                subst c36
                have H1 : (if t813 = true then ((impl_StabilizeSand.f kj26 t808).bind fun bt821 => ((impl_StabilizeSand.f kj26 t812).bind fun bt828 => (if bt821.2.2 = true then (if bt828.2.2 = true then ((laws_wSame.f kj26 bt821.1 bt828.1).bind fun t835 => (laws_FnSandSettles.j2 kj26 t789 t792 t793 t801 t809 bt821.2.1 bt828.2.1 (!t835))) else (laws_FnSandSettles.j2 kj26 t789 t792 t793 t801 t809 bt821.2.1 bt828.2.1 true)) else (laws_FnSandSettles.j2 kj26 t789 t792 t793 t801 t809 bt821.2.1 bt828.2.1 true)))) else (laws_FnSandSettles.j4 kj26 t789 t792 t793 t801)) = some r := by rw [if_neg (show ¬ (false = true) by decide)] at H; exact H
                clear H
                have H := H1
                clear H1
                have HC37 := Aside0.mk H
                clear H
                go_upto_if 91 with (fail)
                repeat (go_quiet (fail); go_upto_if 91 with (fail))
                go_cut [] (fun wc => ∃ (kq : Nat), Aside0 (laws_FnSandSettles.j4 kq t789 t792 t793 t801 = some r) ∧ Aside0 (kq ≤ kj26) ∧ Aside0 (Kd.R (Kd.int .i64) 3 wc w.heap.size (fun k_ => some k_ ≠ (v795 : Value).ownBlock ∧ some k_ ≠ (v797 : Value).ownBlock) (.slice Ao10 t789.length co10) t789) ∧ Aside0 (Kd.R (Kd.int .i64) 3 wc w.heap.size (fun k_ => some k_ ≠ ((.slice Ao10 t789.length co10) : Value).ownBlock ∧ some k_ ≠ (v797 : Value).ownBlock) v795 t792) ∧ Aside0 (Kd.R (Kd.int .i64) 3 wc w.heap.size (fun k_ => some k_ ≠ ((.slice Ao10 t789.length co10) : Value).ownBlock ∧ some k_ ≠ (v795 : Value).ownBlock) v797 t793) ∧ Aside0 (Below w.heap.size w wc))
                case first =>
                  have H := HC37.out
                  clear HC37
                  by_cases c38 : t813 = true
                  · as_aux_lemma =>
                    subst c38
                    have H1 : ((impl_StabilizeSand.f kj26 t808).bind fun bt821 => ((impl_StabilizeSand.f kj26 t812).bind fun bt828 => (if bt821.2.2 = true then (if bt828.2.2 = true then ((laws_wSame.f kj26 bt821.1 bt828.1).bind fun t835 => (laws_FnSandSettles.j2 kj26 t789 t792 t793 t801 t809 bt821.2.1 bt828.2.1 (!t835))) else (laws_FnSandSettles.j2 kj26 t789 t792 t793 t801 t809 bt821.2.1 bt828.2.1 true)) else (laws_FnSandSettles.j2 kj26 t789 t792 t793 t801 t809 bt821.2.1 bt828.2.1 true)))) = some r := by rw [if_pos rfl] at H; exact H
                    clear H
                    have H := H1
                    clear H1
                    replace H := Option.bind_eq_some_iff.mp H
                    obtain ⟨⟨t821, t822, t823⟩, A390, H⟩ := H
                    replace H : ((impl_StabilizeSand.f kj26 t812).bind fun bt828 => (if t823 = true then (if bt828.2.2 = true then ((laws_wSame.f kj26 t821 bt828.1).bind fun t835 => (laws_FnSandSettles.j2 kj26 t789 t792 t793 t801 t809 t822 bt828.2.1 (!t835))) else (laws_FnSandSettles.j2 kj26 t789 t792 t793 t801 t809 t822 bt828.2.1 true)) else (laws_FnSandSettles.j2 kj26 t789 t792 t793 t801 t809 t822 bt828.2.1 true))) = some r := H
                    have A39 := Aside0.mk A390
                    clear A390
                    replace H := Option.bind_eq_some_iff.mp H
                    obtain ⟨⟨t828, t829, t830⟩, A400, H⟩ := H
                    replace H : (if t823 = true then (if t830 = true then ((laws_wSame.f kj26 t821 t828).bind fun t835 => (laws_FnSandSettles.j2 kj26 t789 t792 t793 t801 t809 t822 t829 (!t835))) else (laws_FnSandSettles.j2 kj26 t789 t792 t793 t801 t809 t822 t829 true)) else (laws_FnSandSettles.j2 kj26 t789 t792 t793 t801 t809 t822 t829 true)) = some r := H
                    have A40 := Aside0.mk A400
                    clear A400
                    have HC41 := Aside0.mk H
                    clear H
                    go_upto_region 16 with (first | (go_at_call 43; (with_reducible refine (impl_StabilizeSand.calls kj26 _ _ t808 t821 t822 t823 _ ?side1 ?side2 A39.out).mono ?_); (case side1 => repeat (first | exact (Kd.R_reads' HO_12.out).2.2 | (with_reducible refine Kd.C_alloc ?_ _) | (with_reducible refine Kd.C_drewN ?_ _) | (with_reducible refine Kd.C_drew ?_))); (case side2 => exact (Kd.R_reads' HO_12.out).2.1); rintro e w42 ⟨v824, v826, rfl, ho0, ho1, hb⟩; have n0_ := Aside0.mk (Kd.R_mono (Kd.R_told (Kd.R_told (Kd.R_old (by (with_reducible repeat (first | apply Kd.R_alloc | apply Kd.R_drewN | apply Kd.R_drew)); exact HO_5.out) hb) (Kd.R_base ho0)) (Kd.R_base ho1)) (fun _ h_ => h_.1)); have n1_ := Aside0.mk (Kd.R_mono (Kd.R_told (Kd.R_told (Kd.R_old (by (with_reducible repeat (first | apply Kd.R_alloc | apply Kd.R_drewN | apply Kd.R_drew)); exact HO_6.out) hb) (Kd.R_base ho0)) (Kd.R_base ho1)) (fun _ h_ => h_.1)); have n2_ := Aside0.mk (Kd.R_mono (Kd.R_told (Kd.R_told (Kd.R_old (by (with_reducible repeat (first | apply Kd.R_alloc | apply Kd.R_drewN | apply Kd.R_drew)); exact HO_7.out) hb) (Kd.R_base ho0)) (Kd.R_base ho1)) (fun _ h_ => h_.1)); have n3_ := Aside0.mk (Kd.R_mono (Kd.R_told (Kd.R_told (Kd.R_old (by (with_reducible repeat (first | apply Kd.R_alloc | apply Kd.R_drewN | apply Kd.R_drew)); exact HO_12.out) hb) (Kd.R_base ho0)) (Kd.R_base ho1)) (fun _ h_ => h_.1)); have n4_ := Aside0.mk (Kd.R_mono (Kd.R_told (Kd.R_told (Kd.R_old (by (with_reducible repeat (first | apply Kd.R_alloc | apply Kd.R_drewN | apply Kd.R_drew)); exact HO_14.out) hb) (Kd.R_base ho0)) (Kd.R_base ho1)) (fun _ h_ => h_.1)); have n5_ := Aside0.mk (Kd.R_lower (Kd.R_new' (Kd.R_new' (Kd.R_new' (Kd.R_new' (Kd.R_new' ho0 (Kd.R_lt (by (with_reducible repeat (first | apply Kd.R_alloc | apply Kd.R_drewN | apply Kd.R_drew)); exact HO_5.out))) (Kd.R_lt (by (with_reducible repeat (first | apply Kd.R_alloc | apply Kd.R_drewN | apply Kd.R_drew)); exact HO_6.out))) (Kd.R_lt (by (with_reducible repeat (first | apply Kd.R_alloc | apply Kd.R_drewN | apply Kd.R_drew)); exact HO_7.out))) (Kd.R_lt (by (with_reducible repeat (first | apply Kd.R_alloc | apply Kd.R_drewN | apply Kd.R_drew)); exact HO_12.out))) (Kd.R_lt (by (with_reducible repeat (first | apply Kd.R_alloc | apply Kd.R_drewN | apply Kd.R_drew)); exact HO_14.out))) (below_size (by repeat (first | (with_reducible first | exact HB.out | apply below_alloc | apply pw_below_drewN | apply below_drew1) | exact HB.out)))); have n6_ := Aside0.mk (Kd.R_lower (Kd.R_new' (Kd.R_new' (Kd.R_new' (Kd.R_new' (Kd.R_new' ho1 (Kd.R_lt (by (with_reducible repeat (first | apply Kd.R_alloc | apply Kd.R_drewN | apply Kd.R_drew)); exact HO_5.out))) (Kd.R_lt (by (with_reducible repeat (first | apply Kd.R_alloc | apply Kd.R_drewN | apply Kd.R_drew)); exact HO_6.out))) (Kd.R_lt (by (with_reducible repeat (first | apply Kd.R_alloc | apply Kd.R_drewN | apply Kd.R_drew)); exact HO_7.out))) (Kd.R_lt (by (with_reducible repeat (first | apply Kd.R_alloc | apply Kd.R_drewN | apply Kd.R_drew)); exact HO_12.out))) (Kd.R_lt (by (with_reducible repeat (first | apply Kd.R_alloc | apply Kd.R_drewN | apply Kd.R_drew)); exact HO_14.out))) (below_size (by repeat (first | (with_reducible first | exact HB.out | apply below_alloc | apply pw_below_drewN | apply below_drew1) | exact HB.out)))); have n7_ := Aside0.mk (below_step (by repeat (first | (with_reducible first | exact HB.out | apply below_alloc | apply pw_below_drewN | apply below_drew1) | exact HB.out)) hb); clear HO_5; clear HO_6; clear HO_7; clear HO_12; clear HO_14; clear HB; have HO_5 := n0_; have HO_6 := n1_; have HO_7 := n2_; have HO_12 := n3_; have HO_14 := n4_; have HO825 := n5_; have HO827 := n6_; have HB := n7_; clear n0_ n1_ n2_ n3_ n4_ n5_ n6_ n7_; (try clear hb); (try clear hb2); (try clear hk); (try clear hi); (try clear ho0); (try clear ho1); obtain ⟨Ao43, co43, eo43⟩ := Kd.R_slice HO_14.out; subst eo43) | (go_at_call 43; (with_reducible refine (impl_StabilizeSand.calls kj26 _ _ t812 t828 t829 t830 _ ?side1 ?side2 A40.out).mono ?_); (case side1 => repeat (first | exact (Kd.R_reads' HO_14.out).2.2 | (with_reducible refine Kd.C_alloc ?_ _) | (with_reducible refine Kd.C_drewN ?_ _) | (with_reducible refine Kd.C_drew ?_))); (case side2 => exact (Kd.R_reads' HO_14.out).2.1); rintro e w44 ⟨v831, v833, rfl, ho0, ho1, hb⟩; have n0_ := Aside0.mk (Kd.R_mono (Kd.R_told (Kd.R_told (Kd.R_old (by (with_reducible repeat (first | apply Kd.R_alloc | apply Kd.R_drewN | apply Kd.R_drew)); exact HO_5.out) hb) (Kd.R_base ho0)) (Kd.R_base ho1)) (fun _ h_ => h_.1)); have n1_ := Aside0.mk (Kd.R_mono (Kd.R_told (Kd.R_told (Kd.R_old (by (with_reducible repeat (first | apply Kd.R_alloc | apply Kd.R_drewN | apply Kd.R_drew)); exact HO_6.out) hb) (Kd.R_base ho0)) (Kd.R_base ho1)) (fun _ h_ => h_.1)); have n2_ := Aside0.mk (Kd.R_mono (Kd.R_told (Kd.R_told (Kd.R_old (by (with_reducible repeat (first | apply Kd.R_alloc | apply Kd.R_drewN | apply Kd.R_drew)); exact HO_7.out) hb) (Kd.R_base ho0)) (Kd.R_base ho1)) (fun _ h_ => h_.1)); have n3_ := Aside0.mk (Kd.R_mono (Kd.R_told (Kd.R_told (Kd.R_old (by (with_reducible repeat (first | apply Kd.R_alloc | apply Kd.R_drewN | apply Kd.R_drew)); exact HO_12.out) hb) (Kd.R_base ho0)) (Kd.R_base ho1)) (fun _ h_ => h_.1)); have n4_ := Aside0.mk (Kd.R_mono (Kd.R_told (Kd.R_told (Kd.R_old (by (with_reducible repeat (first | apply Kd.R_alloc | apply Kd.R_drewN | apply Kd.R_drew)); exact HO_14.out) hb) (Kd.R_base ho0)) (Kd.R_base ho1)) (fun _ h_ => h_.1)); have n5_ := Aside0.mk (Kd.R_mono (Kd.R_told (Kd.R_told (Kd.R_old (by (with_reducible repeat (first | apply Kd.R_alloc | apply Kd.R_drewN | apply Kd.R_drew)); exact HO825.out) hb) (Kd.R_base ho0)) (Kd.R_base ho1)) (fun _ h_ => h_.1)); have n6_ := Aside0.mk (Kd.R_mono (Kd.R_told (Kd.R_told (Kd.R_old (by (with_reducible repeat (first | apply Kd.R_alloc | apply Kd.R_drewN | apply Kd.R_drew)); exact HO827.out) hb) (Kd.R_base ho0)) (Kd.R_base ho1)) (fun _ h_ => h_.1)); have n7_ := Aside0.mk (Kd.R_lower (Kd.R_new' (Kd.R_new' (Kd.R_new' (Kd.R_new' (Kd.R_new' (Kd.R_new' (Kd.R_new' ho0 (Kd.R_lt (by (with_reducible repeat (first | apply Kd.R_alloc | apply Kd.R_drewN | apply Kd.R_drew)); exact HO_5.out))) (Kd.R_lt (by (with_reducible repeat (first | apply Kd.R_alloc | apply Kd.R_drewN | apply Kd.R_drew)); exact HO_6.out))) (Kd.R_lt (by (with_reducible repeat (first | apply Kd.R_alloc | apply Kd.R_drewN | apply Kd.R_drew)); exact HO_7.out))) (Kd.R_lt (by (with_reducible repeat (first | apply Kd.R_alloc | apply Kd.R_drewN | apply Kd.R_drew)); exact HO_12.out))) (Kd.R_lt (by (with_reducible repeat (first | apply Kd.R_alloc | apply Kd.R_drewN | apply Kd.R_drew)); exact HO_14.out))) (Kd.R_lt (by (with_reducible repeat (first | apply Kd.R_alloc | apply Kd.R_drewN | apply Kd.R_drew)); exact HO825.out))) (Kd.R_lt (by (with_reducible repeat (first | apply Kd.R_alloc | apply Kd.R_drewN | apply Kd.R_drew)); exact HO827.out))) (below_size (by repeat (first | (with_reducible first | exact HB.out | apply below_alloc | apply pw_below_drewN | apply below_drew1) | exact HB.out)))); have n8_ := Aside0.mk (Kd.R_lower (Kd.R_new' (Kd.R_new' (Kd.R_new' (Kd.R_new' (Kd.R_new' (Kd.R_new' (Kd.R_new' ho1 (Kd.R_lt (by (with_reducible repeat (first | apply Kd.R_alloc | apply Kd.R_drewN | apply Kd.R_drew)); exact HO_5.out))) (Kd.R_lt (by (with_reducible repeat (first | apply Kd.R_alloc | apply Kd.R_drewN | apply Kd.R_drew)); exact HO_6.out))) (Kd.R_lt (by (with_reducible repeat (first | apply Kd.R_alloc | apply Kd.R_drewN | apply Kd.R_drew)); exact HO_7.out))) (Kd.R_lt (by (with_reducible repeat (first | apply Kd.R_alloc | apply Kd.R_drewN | apply Kd.R_drew)); exact HO_12.out))) (Kd.R_lt (by (with_reducible repeat (first | apply Kd.R_alloc | apply Kd.R_drewN | apply Kd.R_drew)); exact HO_14.out))) (Kd.R_lt (by (with_reducible repeat (first | apply Kd.R_alloc | apply Kd.R_drewN | apply Kd.R_drew)); exact HO825.out))) (Kd.R_lt (by (with_reducible repeat (first | apply Kd.R_alloc | apply Kd.R_drewN | apply Kd.R_drew)); exact HO827.out))) (below_size (by repeat (first | (with_reducible first | exact HB.out | apply below_alloc | apply pw_below_drewN | apply below_drew1) | exact HB.out)))); have n9_ := Aside0.mk (below_step (by repeat (first | (with_reducible first | exact HB.out | apply below_alloc | apply pw_below_drewN | apply below_drew1) | exact HB.out)) hb); clear HO_5; clear HO_6; clear HO_7; clear HO_12; clear HO_14; clear HO825; clear HO827; clear HB; have HO_5 := n0_; have HO_6 := n1_; have HO_7 := n2_; have HO_12 := n3_; have HO_14 := n4_; have HO825 := n5_; have HO827 := n6_; have HO832 := n7_; have HO834 := n8_; have HB := n9_; clear n0_ n1_ n2_ n3_ n4_ n5_ n6_ n7_ n8_ n9_; (try clear hb); (try clear hb2); (try clear hk); (try clear hi); (try clear ho0); (try clear ho1)))
                    repeat (go_quiet (first | (go_at_call 43; (with_reducible refine (impl_StabilizeSand.calls kj26 _ _ t808 t821 t822 t823 _ ?side1 ?side2 A39.out).mono ?_); (case side1 => repeat (first | exact (Kd.R_reads' HO_12.out).2.2 | (with_reducible refine Kd.C_alloc ?_ _) | (with_reducible refine Kd.C_drewN ?_ _) | (with_reducible refine Kd.C_drew ?_))); (case side2 => exact (Kd.R_reads' HO_12.out).2.1); rintro e w42 ⟨v824, v826, rfl, ho0, ho1, hb⟩; have n0_ := Aside0.mk (Kd.R_mono (Kd.R_told (Kd.R_told (Kd.R_old (by (with_reducible repeat (first | apply Kd.R_alloc | apply Kd.R_drewN | apply Kd.R_drew)); exact HO_5.out) hb) (Kd.R_base ho0)) (Kd.R_base ho1)) (fun _ h_ => h_.1)); have n1_ := Aside0.mk (Kd.R_mono (Kd.R_told (Kd.R_told (Kd.R_old (by (with_reducible repeat (first | apply Kd.R_alloc | apply Kd.R_drewN | apply Kd.R_drew)); exact HO_6.out) hb) (Kd.R_base ho0)) (Kd.R_base ho1)) (fun _ h_ => h_.1)); have n2_ := Aside0.mk (Kd.R_mono (Kd.R_told (Kd.R_told (Kd.R_old (by (with_reducible repeat (first | apply Kd.R_alloc | apply Kd.R_drewN | apply Kd.R_drew)); exact HO_7.out) hb) (Kd.R_base ho0)) (Kd.R_base ho1)) (fun _ h_ => h_.1)); have n3_ := Aside0.mk (Kd.R_mono (Kd.R_told (Kd.R_told (Kd.R_old (by (with_reducible repeat (first | apply Kd.R_alloc | apply Kd.R_drewN | apply Kd.R_drew)); exact HO_12.out) hb) (Kd.R_base ho0)) (Kd.R_base ho1)) (fun _ h_ => h_.1)); have n4_ := Aside0.mk (Kd.R_mono (Kd.R_told (Kd.R_told (Kd.R_old (by (with_reducible repeat (first | apply Kd.R_alloc | apply Kd.R_drewN | apply Kd.R_drew)); exact HO_14.out) hb) (Kd.R_base ho0)) (Kd.R_base ho1)) (fun _ h_ => h_.1)); have n5_ := Aside0.mk (Kd.R_lower (Kd.R_new' (Kd.R_new' (Kd.R_new' (Kd.R_new' (Kd.R_new' ho0 (Kd.R_lt (by (with_reducible repeat (first | apply Kd.R_alloc | apply Kd.R_drewN | apply Kd.R_drew)); exact HO_5.out))) (Kd.R_lt (by (with_reducible repeat (first | apply Kd.R_alloc | apply Kd.R_drewN | apply Kd.R_drew)); exact HO_6.out))) (Kd.R_lt (by (with_reducible repeat (first | apply Kd.R_alloc | apply Kd.R_drewN | apply Kd.R_drew)); exact HO_7.out))) (Kd.R_lt (by (with_reducible repeat (first | apply Kd.R_alloc | apply Kd.R_drewN | apply Kd.R_drew)); exact HO_12.out))) (Kd.R_lt (by (with_reducible repeat (first | apply Kd.R_alloc | apply Kd.R_drewN | apply Kd.R_drew)); exact HO_14.out))) (below_size (by repeat (first | (with_reducible first | exact HB.out | apply below_alloc | apply pw_below_drewN | apply below_drew1) | exact HB.out)))); have n6_ := Aside0.mk (Kd.R_lower (Kd.R_new' (Kd.R_new' (Kd.R_new' (Kd.R_new' (Kd.R_new' ho1 (Kd.R_lt (by (with_reducible repeat (first | apply Kd.R_alloc | apply Kd.R_drewN | apply Kd.R_drew)); exact HO_5.out))) (Kd.R_lt (by (with_reducible repeat (first | apply Kd.R_alloc | apply Kd.R_drewN | apply Kd.R_drew)); exact HO_6.out))) (Kd.R_lt (by (with_reducible repeat (first | apply Kd.R_alloc | apply Kd.R_drewN | apply Kd.R_drew)); exact HO_7.out))) (Kd.R_lt (by (with_reducible repeat (first | apply Kd.R_alloc | apply Kd.R_drewN | apply Kd.R_drew)); exact HO_12.out))) (Kd.R_lt (by (with_reducible repeat (first | apply Kd.R_alloc | apply Kd.R_drewN | apply Kd.R_drew)); exact HO_14.out))) (below_size (by repeat (first | (with_reducible first | exact HB.out | apply below_alloc | apply pw_below_drewN | apply below_drew1) | exact HB.out)))); have n7_ := Aside0.mk (below_step (by repeat (first | (with_reducible first | exact HB.out | apply below_alloc | apply pw_below_drewN | apply below_drew1) | exact HB.out)) hb); clear HO_5; clear HO_6; clear HO_7; clear HO_12; clear HO_14; clear HB; have HO_5 := n0_; have HO_6 := n1_; have HO_7 := n2_; have HO_12 := n3_; have HO_14 := n4_; have HO825 := n5_; have HO827 := n6_; have HB := n7_; clear n0_ n1_ n2_ n3_ n4_ n5_ n6_ n7_; (try clear hb); (try clear hb2); (try clear hk); (try clear hi); (try clear ho0); (try clear ho1); obtain ⟨Ao43, co43, eo43⟩ := Kd.R_slice HO_14.out; subst eo43) | (go_at_call 43; (with_reducible refine (impl_StabilizeSand.calls kj26 _ _ t812 t828 t829 t830 _ ?side1 ?side2 A40.out).mono ?_); (case side1 => repeat (first | exact (Kd.R_reads' HO_14.out).2.2 | (with_reducible refine Kd.C_alloc ?_ _) | (with_reducible refine Kd.C_drewN ?_ _) | (with_reducible refine Kd.C_drew ?_))); (case side2 => exact (Kd.R_reads' HO_14.out).2.1); rintro e w44 ⟨v831, v833, rfl, ho0, ho1, hb⟩; have n0_ := Aside0.mk (Kd.R_mono (Kd.R_told (Kd.R_told (Kd.R_old (by (with_reducible repeat (first | apply Kd.R_alloc | apply Kd.R_drewN | apply Kd.R_drew)); exact HO_5.out) hb) (Kd.R_base ho0)) (Kd.R_base ho1)) (fun _ h_ => h_.1)); have n1_ := Aside0.mk (Kd.R_mono (Kd.R_told (Kd.R_told (Kd.R_old (by (with_reducible repeat (first | apply Kd.R_alloc | apply Kd.R_drewN | apply Kd.R_drew)); exact HO_6.out) hb) (Kd.R_base ho0)) (Kd.R_base ho1)) (fun _ h_ => h_.1)); have n2_ := Aside0.mk (Kd.R_mono (Kd.R_told (Kd.R_told (Kd.R_old (by (with_reducible repeat (first | apply Kd.R_alloc | apply Kd.R_drewN | apply Kd.R_drew)); exact HO_7.out) hb) (Kd.R_base ho0)) (Kd.R_base ho1)) (fun _ h_ => h_.1)); have n3_ := Aside0.mk (Kd.R_mono (Kd.R_told (Kd.R_told (Kd.R_old (by (with_reducible repeat (first | apply Kd.R_alloc | apply Kd.R_drewN | apply Kd.R_drew)); exact HO_12.out) hb) (Kd.R_base ho0)) (Kd.R_base ho1)) (fun _ h_ => h_.1)); have n4_ := Aside0.mk (Kd.R_mono (Kd.R_told (Kd.R_told (Kd.R_old (by (with_reducible repeat (first | apply Kd.R_alloc | apply Kd.R_drewN | apply Kd.R_drew)); exact HO_14.out) hb) (Kd.R_base ho0)) (Kd.R_base ho1)) (fun _ h_ => h_.1)); have n5_ := Aside0.mk (Kd.R_mono (Kd.R_told (Kd.R_told (Kd.R_old (by (with_reducible repeat (first | apply Kd.R_alloc | apply Kd.R_drewN | apply Kd.R_drew)); exact HO825.out) hb) (Kd.R_base ho0)) (Kd.R_base ho1)) (fun _ h_ => h_.1)); have n6_ := Aside0.mk (Kd.R_mono (Kd.R_told (Kd.R_told (Kd.R_old (by (with_reducible repeat (first | apply Kd.R_alloc | apply Kd.R_drewN | apply Kd.R_drew)); exact HO827.out) hb) (Kd.R_base ho0)) (Kd.R_base ho1)) (fun _ h_ => h_.1)); have n7_ := Aside0.mk (Kd.R_lower (Kd.R_new' (Kd.R_new' (Kd.R_new' (Kd.R_new' (Kd.R_new' (Kd.R_new' (Kd.R_new' ho0 (Kd.R_lt (by (with_reducible repeat (first | apply Kd.R_alloc | apply Kd.R_drewN | apply Kd.R_drew)); exact HO_5.out))) (Kd.R_lt (by (with_reducible repeat (first | apply Kd.R_alloc | apply Kd.R_drewN | apply Kd.R_drew)); exact HO_6.out))) (Kd.R_lt (by (with_reducible repeat (first | apply Kd.R_alloc | apply Kd.R_drewN | apply Kd.R_drew)); exact HO_7.out))) (Kd.R_lt (by (with_reducible repeat (first | apply Kd.R_alloc | apply Kd.R_drewN | apply Kd.R_drew)); exact HO_12.out))) (Kd.R_lt (by (with_reducible repeat (first | apply Kd.R_alloc | apply Kd.R_drewN | apply Kd.R_drew)); exact HO_14.out))) (Kd.R_lt (by (with_reducible repeat (first | apply Kd.R_alloc | apply Kd.R_drewN | apply Kd.R_drew)); exact HO825.out))) (Kd.R_lt (by (with_reducible repeat (first | apply Kd.R_alloc | apply Kd.R_drewN | apply Kd.R_drew)); exact HO827.out))) (below_size (by repeat (first | (with_reducible first | exact HB.out | apply below_alloc | apply pw_below_drewN | apply below_drew1) | exact HB.out)))); have n8_ := Aside0.mk (Kd.R_lower (Kd.R_new' (Kd.R_new' (Kd.R_new' (Kd.R_new' (Kd.R_new' (Kd.R_new' (Kd.R_new' ho1 (Kd.R_lt (by (with_reducible repeat (first | apply Kd.R_alloc | apply Kd.R_drewN | apply Kd.R_drew)); exact HO_5.out))) (Kd.R_lt (by (with_reducible repeat (first | apply Kd.R_alloc | apply Kd.R_drewN | apply Kd.R_drew)); exact HO_6.out))) (Kd.R_lt (by (with_reducible repeat (first | apply Kd.R_alloc | apply Kd.R_drewN | apply Kd.R_drew)); exact HO_7.out))) (Kd.R_lt (by (with_reducible repeat (first | apply Kd.R_alloc | apply Kd.R_drewN | apply Kd.R_drew)); exact HO_12.out))) (Kd.R_lt (by (with_reducible repeat (first | apply Kd.R_alloc | apply Kd.R_drewN | apply Kd.R_drew)); exact HO_14.out))) (Kd.R_lt (by (with_reducible repeat (first | apply Kd.R_alloc | apply Kd.R_drewN | apply Kd.R_drew)); exact HO825.out))) (Kd.R_lt (by (with_reducible repeat (first | apply Kd.R_alloc | apply Kd.R_drewN | apply Kd.R_drew)); exact HO827.out))) (below_size (by repeat (first | (with_reducible first | exact HB.out | apply below_alloc | apply pw_below_drewN | apply below_drew1) | exact HB.out)))); have n9_ := Aside0.mk (below_step (by repeat (first | (with_reducible first | exact HB.out | apply below_alloc | apply pw_below_drewN | apply below_drew1) | exact HB.out)) hb); clear HO_5; clear HO_6; clear HO_7; clear HO_12; clear HO_14; clear HO825; clear HO827; clear HB; have HO_5 := n0_; have HO_6 := n1_; have HO_7 := n2_; have HO_12 := n3_; have HO_14 := n4_; have HO825 := n5_; have HO827 := n6_; have HO832 := n7_; have HO834 := n8_; have HB := n9_; clear n0_ n1_ n2_ n3_ n4_ n5_ n6_ n7_ n8_ n9_; (try clear hb); (try clear hb2); (try clear hk); (try clear hi); (try clear ho0); (try clear ho1))); go_upto_region 16 with (first | (go_at_call 43; (with_reducible refine (impl_StabilizeSand.calls kj26 _ _ t808 t821 t822 t823 _ ?side1 ?side2 A39.out).mono ?_); (case side1 => repeat (first | exact (Kd.R_reads' HO_12.out).2.2 | (with_reducible refine Kd.C_alloc ?_ _) | (with_reducible refine Kd.C_drewN ?_ _) | (with_reducible refine Kd.C_drew ?_))); (case side2 => exact (Kd.R_reads' HO_12.out).2.1); rintro e w42 ⟨v824, v826, rfl, ho0, ho1, hb⟩; have n0_ := Aside0.mk (Kd.R_mono (Kd.R_told (Kd.R_told (Kd.R_old (by (with_reducible repeat (first | apply Kd.R_alloc | apply Kd.R_drewN | apply Kd.R_drew)); exact HO_5.out) hb) (Kd.R_base ho0)) (Kd.R_base ho1)) (fun _ h_ => h_.1)); have n1_ := Aside0.mk (Kd.R_mono (Kd.R_told (Kd.R_told (Kd.R_old (by (with_reducible repeat (first | apply Kd.R_alloc | apply Kd.R_drewN | apply Kd.R_drew)); exact HO_6.out) hb) (Kd.R_base ho0)) (Kd.R_base ho1)) (fun _ h_ => h_.1)); have n2_ := Aside0.mk (Kd.R_mono (Kd.R_told (Kd.R_told (Kd.R_old (by (with_reducible repeat (first | apply Kd.R_alloc | apply Kd.R_drewN | apply Kd.R_drew)); exact HO_7.out) hb) (Kd.R_base ho0)) (Kd.R_base ho1)) (fun _ h_ => h_.1)); have n3_ := Aside0.mk (Kd.R_mono (Kd.R_told (Kd.R_told (Kd.R_old (by (with_reducible repeat (first | apply Kd.R_alloc | apply Kd.R_drewN | apply Kd.R_drew)); exact HO_12.out) hb) (Kd.R_base ho0)) (Kd.R_base ho1)) (fun _ h_ => h_.1)); have n4_ := Aside0.mk (Kd.R_mono (Kd.R_told (Kd.R_told (Kd.R_old (by (with_reducible repeat (first | apply Kd.R_alloc | apply Kd.R_drewN | apply Kd.R_drew)); exact HO_14.out) hb) (Kd.R_base ho0)) (Kd.R_base ho1)) (fun _ h_ => h_.1)); have n5_ := Aside0.mk (Kd.R_lower (Kd.R_new' (Kd.R_new' (Kd.R_new' (Kd.R_new' (Kd.R_new' ho0 (Kd.R_lt (by (with_reducible repeat (first | apply Kd.R_alloc | apply Kd.R_drewN | apply Kd.R_drew)); exact HO_5.out))) (Kd.R_lt (by (with_reducible repeat (first | apply Kd.R_alloc | apply Kd.R_drewN | apply Kd.R_drew)); exact HO_6.out))) (Kd.R_lt (by (with_reducible repeat (first | apply Kd.R_alloc | apply Kd.R_drewN | apply Kd.R_drew)); exact HO_7.out))) (Kd.R_lt (by (with_reducible repeat (first | apply Kd.R_alloc | apply Kd.R_drewN | apply Kd.R_drew)); exact HO_12.out))) (Kd.R_lt (by (with_reducible repeat (first | apply Kd.R_alloc | apply Kd.R_drewN | apply Kd.R_drew)); exact HO_14.out))) (below_size (by repeat (first | (with_reducible first | exact HB.out | apply below_alloc | apply pw_below_drewN | apply below_drew1) | exact HB.out)))); have n6_ := Aside0.mk (Kd.R_lower (Kd.R_new' (Kd.R_new' (Kd.R_new' (Kd.R_new' (Kd.R_new' ho1 (Kd.R_lt (by (with_reducible repeat (first | apply Kd.R_alloc | apply Kd.R_drewN | apply Kd.R_drew)); exact HO_5.out))) (Kd.R_lt (by (with_reducible repeat (first | apply Kd.R_alloc | apply Kd.R_drewN | apply Kd.R_drew)); exact HO_6.out))) (Kd.R_lt (by (with_reducible repeat (first | apply Kd.R_alloc | apply Kd.R_drewN | apply Kd.R_drew)); exact HO_7.out))) (Kd.R_lt (by (with_reducible repeat (first | apply Kd.R_alloc | apply Kd.R_drewN | apply Kd.R_drew)); exact HO_12.out))) (Kd.R_lt (by (with_reducible repeat (first | apply Kd.R_alloc | apply Kd.R_drewN | apply Kd.R_drew)); exact HO_14.out))) (below_size (by repeat (first | (with_reducible first | exact HB.out | apply below_alloc | apply pw_below_drewN | apply below_drew1) | exact HB.out)))); have n7_ := Aside0.mk (below_step (by repeat (first | (with_reducible first | exact HB.out | apply below_alloc | apply pw_below_drewN | apply below_drew1) | exact HB.out)) hb); clear HO_5; clear HO_6; clear HO_7; clear HO_12; clear HO_14; clear HB; have HO_5 := n0_; have HO_6 := n1_; have HO_7 := n2_; have HO_12 := n3_; have HO_14 := n4_; have HO825 := n5_; have HO827 := n6_; have HB := n7_; clear n0_ n1_ n2_ n3_ n4_ n5_ n6_ n7_; (try clear hb); (try clear hb2); (try clear hk); (try clear hi); (try clear ho0); (try clear ho1); obtain ⟨Ao43, co43, eo43⟩ := Kd.R_slice HO_14.out; subst eo43) | (go_at_call 43; (with_reducible refine (impl_StabilizeSand.calls kj26 _ _ t812 t828 t829 t830 _ ?side1 ?side2 A40.out).mono ?_); (case side1 => repeat (first | exact (Kd.R_reads' HO_14.out).2.2 | (with_reducible refine Kd.C_alloc ?_ _) | (with_reducible refine Kd.C_drewN ?_ _) | (with_reducible refine Kd.C_drew ?_))); (case side2 => exact (Kd.R_reads' HO_14.out).2.1); rintro e w44 ⟨v831, v833, rfl, ho0, ho1, hb⟩; have n0_ := Aside0.mk (Kd.R_mono (Kd.R_told (Kd.R_told (Kd.R_old (by (with_reducible repeat (first | apply Kd.R_alloc | apply Kd.R_drewN | apply Kd.R_drew)); exact HO_5.out) hb) (Kd.R_base ho0)) (Kd.R_base ho1)) (fun _ h_ => h_.1)); have n1_ := Aside0.mk (Kd.R_mono (Kd.R_told (Kd.R_told (Kd.R_old (by (with_reducible repeat (first | apply Kd.R_alloc | apply Kd.R_drewN | apply Kd.R_drew)); exact HO_6.out) hb) (Kd.R_base ho0)) (Kd.R_base ho1)) (fun _ h_ => h_.1)); have n2_ := Aside0.mk (Kd.R_mono (Kd.R_told (Kd.R_told (Kd.R_old (by (with_reducible repeat (first | apply Kd.R_alloc | apply Kd.R_drewN | apply Kd.R_drew)); exact HO_7.out) hb) (Kd.R_base ho0)) (Kd.R_base ho1)) (fun _ h_ => h_.1)); have n3_ := Aside0.mk (Kd.R_mono (Kd.R_told (Kd.R_told (Kd.R_old (by (with_reducible repeat (first | apply Kd.R_alloc | apply Kd.R_drewN | apply Kd.R_drew)); exact HO_12.out) hb) (Kd.R_base ho0)) (Kd.R_base ho1)) (fun _ h_ => h_.1)); have n4_ := Aside0.mk (Kd.R_mono (Kd.R_told (Kd.R_told (Kd.R_old (by (with_reducible repeat (first | apply Kd.R_alloc | apply Kd.R_drewN | apply Kd.R_drew)); exact HO_14.out) hb) (Kd.R_base ho0)) (Kd.R_base ho1)) (fun _ h_ => h_.1)); have n5_ := Aside0.mk (Kd.R_mono (Kd.R_told (Kd.R_told (Kd.R_old (by (with_reducible repeat (first | apply Kd.R_alloc | apply Kd.R_drewN | apply Kd.R_drew)); exact HO825.out) hb) (Kd.R_base ho0)) (Kd.R_base ho1)) (fun _ h_ => h_.1)); have n6_ := Aside0.mk (Kd.R_mono (Kd.R_told (Kd.R_told (Kd.R_old (by (with_reducible repeat (first | apply Kd.R_alloc | apply Kd.R_drewN | apply Kd.R_drew)); exact HO827.out) hb) (Kd.R_base ho0)) (Kd.R_base ho1)) (fun _ h_ => h_.1)); have n7_ := Aside0.mk (Kd.R_lower (Kd.R_new' (Kd.R_new' (Kd.R_new' (Kd.R_new' (Kd.R_new' (Kd.R_new' (Kd.R_new' ho0 (Kd.R_lt (by (with_reducible repeat (first | apply Kd.R_alloc | apply Kd.R_drewN | apply Kd.R_drew)); exact HO_5.out))) (Kd.R_lt (by (with_reducible repeat (first | apply Kd.R_alloc | apply Kd.R_drewN | apply Kd.R_drew)); exact HO_6.out))) (Kd.R_lt (by (with_reducible repeat (first | apply Kd.R_alloc | apply Kd.R_drewN | apply Kd.R_drew)); exact HO_7.out))) (Kd.R_lt (by (with_reducible repeat (first | apply Kd.R_alloc | apply Kd.R_drewN | apply Kd.R_drew)); exact HO_12.out))) (Kd.R_lt (by (with_reducible repeat (first | apply Kd.R_alloc | apply Kd.R_drewN | apply Kd.R_drew)); exact HO_14.out))) (Kd.R_lt (by (with_reducible repeat (first | apply Kd.R_alloc | apply Kd.R_drewN | apply Kd.R_drew)); exact HO825.out))) (Kd.R_lt (by (with_reducible repeat (first | apply Kd.R_alloc | apply Kd.R_drewN | apply Kd.R_drew)); exact HO827.out))) (below_size (by repeat (first | (with_reducible first | exact HB.out | apply below_alloc | apply pw_below_drewN | apply below_drew1) | exact HB.out)))); have n8_ := Aside0.mk (Kd.R_lower (Kd.R_new' (Kd.R_new' (Kd.R_new' (Kd.R_new' (Kd.R_new' (Kd.R_new' (Kd.R_new' ho1 (Kd.R_lt (by (with_reducible repeat (first | apply Kd.R_alloc | apply Kd.R_drewN | apply Kd.R_drew)); exact HO_5.out))) (Kd.R_lt (by (with_reducible repeat (first | apply Kd.R_alloc | apply Kd.R_drewN | apply Kd.R_drew)); exact HO_6.out))) (Kd.R_lt (by (with_reducible repeat (first | apply Kd.R_alloc | apply Kd.R_drewN | apply Kd.R_drew)); exact HO_7.out))) (Kd.R_lt (by (with_reducible repeat (first | apply Kd.R_alloc | apply Kd.R_drewN | apply Kd.R_drew)); exact HO_12.out))) (Kd.R_lt (by (with_reducible repeat (first | apply Kd.R_alloc | apply Kd.R_drewN | apply Kd.R_drew)); exact HO_14.out))) (Kd.R_lt (by (with_reducible repeat (first | apply Kd.R_alloc | apply Kd.R_drewN | apply Kd.R_drew)); exact HO825.out))) (Kd.R_lt (by (with_reducible repeat (first | apply Kd.R_alloc | apply Kd.R_drewN | apply Kd.R_drew)); exact HO827.out))) (below_size (by repeat (first | (with_reducible first | exact HB.out | apply below_alloc | apply pw_below_drewN | apply below_drew1) | exact HB.out)))); have n9_ := Aside0.mk (below_step (by repeat (first | (with_reducible first | exact HB.out | apply below_alloc | apply pw_below_drewN | apply below_drew1) | exact HB.out)) hb); clear HO_5; clear HO_6; clear HO_7; clear HO_12; clear HO_14; clear HO825; clear HO827; clear HB; have HO_5 := n0_; have HO_6 := n1_; have HO_7 := n2_; have HO_12 := n3_; have HO_14 := n4_; have HO825 := n5_; have HO827 := n6_; have HO832 := n7_; have HO834 := n8_; have HB := n9_; clear n0_ n1_ n2_ n3_ n4_ n5_ n6_ n7_ n8_ n9_; (try clear hb); (try clear hb2); (try clear hk); (try clear hi); (try clear ho0); (try clear ho1))))
                    (try simp only [Act.put, List.setIfInBounds_toArray, List.set_cons_zero, List.set_cons_succ])
                    go_cut [115] (fun v115 wc => ∃ (kq : Nat) (x115_40 : Bool), v115 = .bool x115_40 ∧ Aside0 (laws_FnSandSettles.j2 kq t789 t792 t793 t801 t809 t822 t829 x115_40 = some r) ∧ Aside0 (kq ≤ kj26) ∧ Aside0 (Kd.R (Kd.int .i64) 3 wc w.heap.size (fun k_ => some k_ ≠ (v795 : Value).ownBlock ∧ some k_ ≠ (v797 : Value).ownBlock ∧ some k_ ≠ (v826 : Value).ownBlock ∧ some k_ ≠ (v833 : Value).ownBlock) (.slice Ao10 t789.length co10) t789) ∧ Aside0 (Kd.R (Kd.int .i64) 3 wc w.heap.size (fun k_ => some k_ ≠ ((.slice Ao10 t789.length co10) : Value).ownBlock ∧ some k_ ≠ (v797 : Value).ownBlock ∧ some k_ ≠ (v826 : Value).ownBlock ∧ some k_ ≠ (v833 : Value).ownBlock) v795 t792) ∧ Aside0 (Kd.R (Kd.int .i64) 3 wc w.heap.size (fun k_ => some k_ ≠ ((.slice Ao10 t789.length co10) : Value).ownBlock ∧ some k_ ≠ (v795 : Value).ownBlock ∧ some k_ ≠ (v826 : Value).ownBlock ∧ some k_ ≠ (v833 : Value).ownBlock) v797 t793) ∧ Aside0 (Kd.R (Kd.int .i64) 3 wc w.heap.size (fun k_ => some k_ ≠ ((.slice Ao10 t789.length co10) : Value).ownBlock ∧ some k_ ≠ (v795 : Value).ownBlock ∧ some k_ ≠ (v797 : Value).ownBlock ∧ some k_ ≠ (v833 : Value).ownBlock) v826 t822) ∧ Aside0 (Kd.R (Kd.int .i64) 3 wc w.heap.size (fun k_ => some k_ ≠ ((.slice Ao10 t789.length co10) : Value).ownBlock ∧ some k_ ≠ (v795 : Value).ownBlock ∧ some k_ ≠ (v797 : Value).ownBlock ∧ some k_ ≠ (v826 : Value).ownBlock) v833 t829) ∧ Aside0 (Below w.heap.size w wc))
                    case first =>
                      have H := HC41.out
                      clear HC41
                      by_cases c45 : t823 = true
                      · as_aux_lemma =>
                        subst c45
                        have H1 : (if t830 = true then ((laws_wSame.f kj26 t821 t828).bind fun t835 => (laws_FnSandSettles.j2 kj26 t789 t792 t793 t801 t809 t822 t829 (!t835))) else (laws_FnSandSettles.j2 kj26 t789 t792 t793 t801 t809 t822 t829 true)) = some r := by rw [if_pos rfl] at H; exact H
                        clear H
                        have H := H1
                        clear H1
                        by_cases c46 : t830 = true
                        · subst c46
                          have H1 : ((laws_wSame.f kj26 t821 t828).bind fun t835 => (laws_FnSandSettles.j2 kj26 t789 t792 t793 t801 t809 t822 t829 (!t835))) = some r := by rw [if_pos rfl] at H; exact H
                          clear H
                          have H := H1
                          clear H1
                          replace H := Option.bind_eq_some_iff.mp H
                          obtain ⟨t835, A470, H⟩ := H
                          replace H : (laws_FnSandSettles.j2 kj26 t789 t792 t793 t801 t809 t822 t829 (!t835)) = some r := H
                          have A47 := Aside0.mk A470
                          clear A470
                          have H' := Aside0.mk H
                          clear H
                          obtain ⟨Ao48, co48, eo48⟩ := Kd.R_slice HO825.out
                          subst eo48
                          obtain ⟨Ao49, co49, eo49⟩ := Kd.R_slice HO832.out
                          subst eo49
                          go_wp2_with (first | (go_at_call 50; (with_reducible refine (laws_wSame.calls kj26 _ _ t821 _ _ t828 t835 _ ?side1 ?side2 ?side3 ?side4 A47.out).mono ?_); (case side1 => repeat (first | exact (Kd.R_reads' HO825.out).2.2 | (with_reducible refine Kd.C_alloc ?_ _) | (with_reducible refine Kd.C_drewN ?_ _) | (with_reducible refine Kd.C_drew ?_))); (case side2 => exact (Kd.R_reads' HO825.out).2.1); (case side3 => repeat (first | exact (Kd.R_reads' HO832.out).2.2 | (with_reducible refine Kd.C_alloc ?_ _) | (with_reducible refine Kd.C_drewN ?_ _) | (with_reducible refine Kd.C_drew ?_))); (case side4 => exact (Kd.R_reads' HO832.out).2.1); rintro e w' ⟨rfl, ⟨nd, rfl⟩⟩; (try first | exact ⟨rfl, _, World.drewN_drewN _ _ _⟩ | exact ⟨rfl, _, Eq.trans (World.drewN_drewN _ _ _) (congrArg (World.drewN _) (Nat.add_assoc _ _ _))⟩)))
                          repeat (go_quiet (first | (go_at_call 50; (with_reducible refine (laws_wSame.calls kj26 _ _ t821 _ _ t828 t835 _ ?side1 ?side2 ?side3 ?side4 A47.out).mono ?_); (case side1 => repeat (first | exact (Kd.R_reads' HO825.out).2.2 | (with_reducible refine Kd.C_alloc ?_ _) | (with_reducible refine Kd.C_drewN ?_ _) | (with_reducible refine Kd.C_drew ?_))); (case side2 => exact (Kd.R_reads' HO825.out).2.1); (case side3 => repeat (first | exact (Kd.R_reads' HO832.out).2.2 | (with_reducible refine Kd.C_alloc ?_ _) | (with_reducible refine Kd.C_drewN ?_ _) | (with_reducible refine Kd.C_drew ?_))); (case side4 => exact (Kd.R_reads' HO832.out).2.1); rintro e w' ⟨rfl, ⟨nd, rfl⟩⟩; (try first | exact ⟨rfl, _, World.drewN_drewN _ _ _⟩ | exact ⟨rfl, _, Eq.trans (World.drewN_drewN _ _ _) (congrArg (World.drewN _) (Nat.add_assoc _ _ _))⟩))); try go_wp2_with (first | (go_at_call 50; (with_reducible refine (laws_wSame.calls kj26 _ _ t821 _ _ t828 t835 _ ?side1 ?side2 ?side3 ?side4 A47.out).mono ?_); (case side1 => repeat (first | exact (Kd.R_reads' HO825.out).2.2 | (with_reducible refine Kd.C_alloc ?_ _) | (with_reducible refine Kd.C_drewN ?_ _) | (with_reducible refine Kd.C_drew ?_))); (case side2 => exact (Kd.R_reads' HO825.out).2.1); (case side3 => repeat (first | exact (Kd.R_reads' HO832.out).2.2 | (with_reducible refine Kd.C_alloc ?_ _) | (with_reducible refine Kd.C_drewN ?_ _) | (with_reducible refine Kd.C_drew ?_))); (case side4 => exact (Kd.R_reads' HO832.out).2.1); rintro e w' ⟨rfl, ⟨nd, rfl⟩⟩; (try first | exact ⟨rfl, _, World.drewN_drewN _ _ _⟩ | exact ⟨rfl, _, Eq.trans (World.drewN_drewN _ _ _) (congrArg (World.drewN _) (Nat.add_assoc _ _ _))⟩))))
                          go_meet
                          case rel => exact ⟨_, (!t835), (by first | rfl | (simp; done) | (simp [*]; done)), H', ⟨by have := HJ7.out; have := HJ26.out; first | omega | exact Nat.le_refl _⟩, ⟨by (with_reducible repeat (first | apply Kd.R_alloc | apply Kd.R_drewN | apply Kd.R_drew)); exact Kd.R_mono HO_5.out (fun _ hk => ⟨hk.1.1.1.1.1, ⟨hk.1.1.1.1.2.1, ⟨hk.1.1.2, hk.2⟩⟩⟩)⟩, ⟨by (with_reducible repeat (first | apply Kd.R_alloc | apply Kd.R_drewN | apply Kd.R_drew)); exact Kd.R_mono HO_6.out (fun _ hk => ⟨hk.1.1.1.1.1, ⟨hk.1.1.1.1.2.1, ⟨hk.1.1.2, hk.2⟩⟩⟩)⟩, ⟨by (with_reducible repeat (first | apply Kd.R_alloc | apply Kd.R_drewN | apply Kd.R_drew)); exact Kd.R_mono HO_7.out (fun _ hk => ⟨hk.1.1.1.1.1, ⟨hk.1.1.1.1.2.1, ⟨hk.1.1.2, hk.2⟩⟩⟩)⟩, ⟨by (with_reducible repeat (first | apply Kd.R_alloc | apply Kd.R_drewN | apply Kd.R_drew)); exact Kd.R_mono HO827.out (fun _ hk => ⟨hk.1.1.1.1.1.1.2, ⟨hk.1.1.1.1.1.2, ⟨hk.1.1.1.1.2, hk.2⟩⟩⟩)⟩, ⟨by (with_reducible repeat (first | apply Kd.R_alloc | apply Kd.R_drewN | apply Kd.R_drew)); exact Kd.R_mono HO834.out (fun _ hk => ⟨hk.1.1.1.1.1.1.2, ⟨hk.1.1.1.1.1.2, ⟨hk.1.1.1.1.2, hk.2⟩⟩⟩)⟩, ⟨by repeat (first | (with_reducible first | exact HB.out | apply below_alloc | apply pw_below_drewN | apply below_drew1) | exact HB.out)⟩⟩
                        · replace c46 := Bool.eq_false_iff.mpr c46
                          subst c46
                          have H1 : (laws_FnSandSettles.j2 kj26 t789 t792 t793 t801 t809 t822 t829 true) = some r := by rw [if_neg (show ¬ (false = true) by decide)] at H; exact H
                          clear H
                          have H := H1
                          clear H1
                          have H' := Aside0.mk H
                          clear H
                          go_wp2
                          repeat (go_quiet (fail); try go_wp2)
                          go_meet
                          case rel => exact ⟨_, (true), (by first | rfl | (simp; done) | (simp [*]; done)), H', ⟨by have := HJ7.out; have := HJ26.out; first | omega | exact Nat.le_refl _⟩, ⟨by (with_reducible repeat (first | apply Kd.R_alloc | apply Kd.R_drewN | apply Kd.R_drew)); exact Kd.R_mono HO_5.out (fun _ hk => ⟨hk.1.1.1.1.1, ⟨hk.1.1.1.1.2.1, ⟨hk.1.1.2, hk.2⟩⟩⟩)⟩, ⟨by (with_reducible repeat (first | apply Kd.R_alloc | apply Kd.R_drewN | apply Kd.R_drew)); exact Kd.R_mono HO_6.out (fun _ hk => ⟨hk.1.1.1.1.1, ⟨hk.1.1.1.1.2.1, ⟨hk.1.1.2, hk.2⟩⟩⟩)⟩, ⟨by (with_reducible repeat (first | apply Kd.R_alloc | apply Kd.R_drewN | apply Kd.R_drew)); exact Kd.R_mono HO_7.out (fun _ hk => ⟨hk.1.1.1.1.1, ⟨hk.1.1.1.1.2.1, ⟨hk.1.1.2, hk.2⟩⟩⟩)⟩, ⟨by (with_reducible repeat (first | apply Kd.R_alloc | apply Kd.R_drewN | apply Kd.R_drew)); exact Kd.R_mono HO827.out (fun _ hk => ⟨hk.1.1.1.1.1.1.2, ⟨hk.1.1.1.1.1.2, ⟨hk.1.1.1.1.2, hk.2⟩⟩⟩)⟩, ⟨by (with_reducible repeat (first | apply Kd.R_alloc | apply Kd.R_drewN | apply Kd.R_drew)); exact Kd.R_mono HO834.out (fun _ hk => ⟨hk.1.1.1.1.1.1.2, ⟨hk.1.1.1.1.1.2, ⟨hk.1.1.1.1.2, hk.2⟩⟩⟩)⟩, ⟨by repeat (first | (with_reducible first | exact HB.out | apply below_alloc | apply pw_below_drewN | apply below_drew1) | exact HB.out)⟩⟩
                      · replace c45 := Bool.eq_false_iff.mpr c45
                        subst c45
                        have H1 : (laws_FnSandSettles.j2 kj26 t789 t792 t793 t801 t809 t822 t829 true) = some r := by rw [if_neg (show ¬ (false = true) by decide)] at H; exact H
                        clear H
                        have H := H1
                        clear H1
                        have H' := Aside0.mk H
                        clear H
                        go_wp2
                        repeat (go_quiet (fail); try go_wp2)
                        go_meet
                        case rel => exact ⟨_, (true), (by first | rfl | (simp; done) | (simp [*]; done)), H', ⟨by have := HJ7.out; have := HJ26.out; first | omega | exact Nat.le_refl _⟩, ⟨by (with_reducible repeat (first | apply Kd.R_alloc | apply Kd.R_drewN | apply Kd.R_drew)); exact Kd.R_mono HO_5.out (fun _ hk => ⟨hk.1.1.1.1.1, ⟨hk.1.1.1.1.2.1, ⟨hk.1.1.2, hk.2⟩⟩⟩)⟩, ⟨by (with_reducible repeat (first | apply Kd.R_alloc | apply Kd.R_drewN | apply Kd.R_drew)); exact Kd.R_mono HO_6.out (fun _ hk => ⟨hk.1.1.1.1.1, ⟨hk.1.1.1.1.2.1, ⟨hk.1.1.2, hk.2⟩⟩⟩)⟩, ⟨by (with_reducible repeat (first | apply Kd.R_alloc | apply Kd.R_drewN | apply Kd.R_drew)); exact Kd.R_mono HO_7.out (fun _ hk => ⟨hk.1.1.1.1.1, ⟨hk.1.1.1.1.2.1, ⟨hk.1.1.2, hk.2⟩⟩⟩)⟩, ⟨by (with_reducible repeat (first | apply Kd.R_alloc | apply Kd.R_drewN | apply Kd.R_drew)); exact Kd.R_mono HO827.out (fun _ hk => ⟨hk.1.1.1.1.1.1.2, ⟨hk.1.1.1.1.1.2, ⟨hk.1.1.1.1.2, hk.2⟩⟩⟩)⟩, ⟨by (with_reducible repeat (first | apply Kd.R_alloc | apply Kd.R_drewN | apply Kd.R_drew)); exact Kd.R_mono HO834.out (fun _ hk => ⟨hk.1.1.1.1.1.1.2, ⟨hk.1.1.1.1.1.2, ⟨hk.1.1.1.1.2, hk.2⟩⟩⟩)⟩, ⟨by repeat (first | (with_reducible first | exact HB.out | apply below_alloc | apply pw_below_drewN | apply below_drew1) | exact HB.out)⟩⟩
                    case rest =>
                      clear HC41
                      try clear c1
                      try clear c2
                      try clear p2
                      try clear c3
                      try clear c4
                      try clear c12
                      try clear c13
                      try clear c13b0
                      try clear c13b1
                      try clear c13b2
                      try clear c15
                      try clear c23
                      try clear c32
                      try clear c32b0
                      try clear c32b1
                      try clear c32b2
                      try clear c36
                      try clear c38
                      try clear c45
                      try clear c46
                      try clear p2
                      obtain ⟨kq, x115_40, rfl, HA, HJ40, HO_5, HO_6, HO_7, HO_19, HO_22, HB⟩ := hcut
                      cases kq with
                      | zero => exact absurd HA.out (by simp [laws_FnSandSettles.j2])
                      | succ kj40 =>
                        have H := HA.out
                        clear HA
                        simp only [laws_FnSandSettles.j2] at H
                        by_cases c50 : x115_40 = true
                        · subst c50
                          have H1 : (some false) = some r := by rw [if_pos rfl] at H; exact H
                          clear H
                          have H := H1
                          clear H1
                          obtain rfl := Option.some.inj H
                          go_wp2
                          repeat (go_quiet (fail); try go_wp2)
                          go_ret
                          exact ⟨by first | rfl | (simp [errW_none, errW_some] <;> rfl) | (simp [*, errW_none, errW_some] <;> rfl), by repeat (first | (with_reducible first | exact HB.out | apply below_alloc | apply pw_below_drewN | apply below_drew1) | exact HB.out)⟩
                        · as_aux_lemma =>
                          replace c50 := Bool.eq_false_iff.mpr c50
                          subst c50
                          have H1 : (laws_FnSandSettles.l0 kj40 t789 t792 t793 t801 t809 t822 t829 (t822.length : Int) 0) = some r := by rw [if_neg (show ¬ (false = true) by decide)] at H; exact H
                          clear H
                          have H := H1
                          clear H1
                          have H' := Aside0.mk H
                          clear H
                          obtain ⟨Ao51, co51, eo51⟩ := Kd.R_slice HO_19.out
                          subst eo51
                          go_wp2
                          repeat (go_quiet (fail); try go_wp2)
                          go_loopg [118] kj40 (fun kq v118 w' => ∃ (x118_4 : Int), v118 = .int .i64 x118_4 ∧ Aside0 (laws_FnSandSettles.l0 kq t789 t792 t793 t801 t809 t822 t829 (t822.length : Int) x118_4 = some r) ∧ Aside0 (kq ≤ kj40) ∧ Aside0 (Kd.R (Kd.int .i64) 3 w' w.heap.size (fun k_ => some k_ ≠ (v795 : Value).ownBlock ∧ some k_ ≠ (v797 : Value).ownBlock ∧ some k_ ≠ ((.slice Ao51 t822.length co51) : Value).ownBlock ∧ some k_ ≠ (v833 : Value).ownBlock) (.slice Ao10 t789.length co10) t789) ∧ Aside0 (Kd.R (Kd.int .i64) 3 w' w.heap.size (fun k_ => some k_ ≠ ((.slice Ao10 t789.length co10) : Value).ownBlock ∧ some k_ ≠ (v797 : Value).ownBlock ∧ some k_ ≠ ((.slice Ao51 t822.length co51) : Value).ownBlock ∧ some k_ ≠ (v833 : Value).ownBlock) v795 t792) ∧ Aside0 (Kd.R (Kd.int .i64) 3 w' w.heap.size (fun k_ => some k_ ≠ ((.slice Ao10 t789.length co10) : Value).ownBlock ∧ some k_ ≠ (v795 : Value).ownBlock ∧ some k_ ≠ ((.slice Ao51 t822.length co51) : Value).ownBlock ∧ some k_ ≠ (v833 : Value).ownBlock) v797 t793) ∧ Aside0 (Kd.R (Kd.int .i64) 3 w' w.heap.size (fun k_ => some k_ ≠ ((.slice Ao10 t789.length co10) : Value).ownBlock ∧ some k_ ≠ (v795 : Value).ownBlock ∧ some k_ ≠ (v797 : Value).ownBlock ∧ some k_ ≠ (v833 : Value).ownBlock) (.slice Ao51 t822.length co51) t822) ∧ Aside0 (Kd.R (Kd.int .i64) 3 w' w.heap.size (fun k_ => some k_ ≠ ((.slice Ao10 t789.length co10) : Value).ownBlock ∧ some k_ ≠ (v795 : Value).ownBlock ∧ some k_ ≠ (v797 : Value).ownBlock ∧ some k_ ≠ ((.slice Ao51 t822.length co51) : Value).ownBlock) v833 t829) ∧ Aside0 (Below w.heap.size w w'))
                          case atStart => exact ⟨(0), (by first | rfl | (simp; done) | (simp [*]; done)), H', ⟨Nat.le_refl _⟩, ⟨by (with_reducible repeat (first | apply Kd.R_alloc | apply Kd.R_drewN | apply Kd.R_drew)); exact HO_5.out⟩, ⟨by (with_reducible repeat (first | apply Kd.R_alloc | apply Kd.R_drewN | apply Kd.R_drew)); exact HO_6.out⟩, ⟨by (with_reducible repeat (first | apply Kd.R_alloc | apply Kd.R_drewN | apply Kd.R_drew)); exact HO_7.out⟩, ⟨by (with_reducible repeat (first | apply Kd.R_alloc | apply Kd.R_drewN | apply Kd.R_drew)); exact HO_19.out⟩, ⟨by (with_reducible repeat (first | apply Kd.R_alloc | apply Kd.R_drewN | apply Kd.R_drew)); exact HO_22.out⟩, ⟨by repeat (first | (with_reducible first | exact HB.out | apply below_alloc | apply pw_below_drewN | apply below_drew1) | exact HB.out)⟩⟩
                          case round =>
                            clear H'
                            try clear c1
                            try clear c2
                            try clear p2
                            try clear c3
                            try clear c4
                            try clear c5
                            try clear c12
                            try clear c13
                            try clear c13b0
                            try clear c13b1
                            try clear c13b2
                            try clear c15
                            try clear c23
                            try clear c32
                            try clear c32b0
                            try clear c32b1
                            try clear c32b2
                            try clear c36
                            try clear c38
                            try clear c45
                            try clear c46
                            try clear c50
                            try clear p2
                            obtain ⟨x118_4, rfl, HA, HK4, HO_5, HO_6, HO_7, HO_19, HO_22, HB⟩ := hrel
                            cases gk with
                            | zero => exact absurd HA.out (by simp [laws_FnSandSettles.l0])
                            | succ k4 =>
                              have H := HA.out
                              clear HA
                              simp only [laws_FnSandSettles.l0] at H
                              by_cases c52 : x118_4 < (t822.length : Int)
                              · as_aux_lemma =>
                                rw [if_pos c52] at H
                                have c52b0 : decide (x118_4 < (t822.length : Int)) = true := decide_eq_true c52
                                clear c52
                                by_cases c53 : 0 ≤ x118_4
                                · as_aux_lemma =>
                                  rw [if_pos c53] at H
                                  have c53b0 : decide (0 ≤ x118_4) = true := decide_eq_true c53
                                  clear c53
                                  by_cases c54 : x118_4 < (t829.length : Int)
                                  · as_aux_lemma =>
                                    rw [if_pos c54] at H
                                    have c54b0 : decide (x118_4 < (t829.length : Int)) = true := decide_eq_true c54
                                    clear c54
                                    by_cases c55 : x118_4 = t809
                                    · as_aux_lemma =>
                                      rw [if_pos c55] at H
                                      have c55b0 : (x118_4 == t809) = true := beq_iff_eq.mpr c55
                                      have c55b1 : (x118_4 != t809) = false := bne_eq_false_iff_eq.mpr c55
                                      clear c55
                                      by_cases c56 : x118_4 < (t822.length : Int)
                                      · as_aux_lemma =>
                                        rw [if_pos c56] at H
                                        have c56b0 : decide (x118_4 < (t822.length : Int)) = true := decide_eq_true c56
                                        clear c56
                                        by_cases c57 : (wrap64 ((rd t829 x118_4) + 1)) = (rd t822 x118_4)
                                        · rw [if_pos c57] at H
                                          have c57b0 : ((wrap64 ((rd t829 x118_4) + 1)) == (rd t822 x118_4)) = true := beq_iff_eq.mpr c57
                                          have c57b1 : ((wrap64 ((rd t829 x118_4) + 1)) != (rd t822 x118_4)) = false := bne_eq_false_iff_eq.mpr c57
                                          clear c57
                                          have H' := Aside0.mk H
                                          clear H
                                          obtain ⟨Ao58, co58, eo58⟩ := Kd.R_slice HO_22.out
                                          subst eo58
                                          have p836 : 0 ≤ (x118_4 : Int) := of_decide_eq_true (by first | (with_reducible assumption) | assumption)
                                          have q836 : x118_4 < (t829.length : Int) := of_decide_eq_true (by first | (with_reducible assumption) | assumption)
                                          obtain ⟨ad836, e836, hx836_0⟩ := Kd.at_int (Kd.R_reads' HO_22.out).2.2 x118_4 p836 q836
                                          cases e836
                                          replace p836 := eq_true p836
                                          replace q836 := eq_true q836
                                          have p837 : 0 ≤ (x118_4 : Int) := of_decide_eq_true (by first | (with_reducible assumption) | assumption)
                                          have q837 : x118_4 < (t822.length : Int) := of_decide_eq_true (by first | (with_reducible assumption) | assumption)
                                          obtain ⟨ad837, e837, hx837_0⟩ := Kd.at_int (Kd.R_reads' HO_19.out).2.2 x118_4 p837 q837
                                          cases e837
                                          replace p837 := eq_true p837
                                          replace q837 := eq_true q837
                                          go_wp2
                                          repeat (go_quiet (fail); try go_wp2)
                                          go_roundg k4
                                          case measure => have := HJ7.out; have := HJ26.out; have := HJ40.out; have := HK4.out; omega
                                          case rel => exact ⟨(wrap64 (x118_4 + 1)), (by first | rfl | (simp; done) | (simp [*]; done)), H', ⟨by have := HJ7.out; have := HJ26.out; have := HJ40.out; have := HK4.out; omega⟩, ⟨by (with_reducible repeat (first | apply Kd.R_alloc | apply Kd.R_drewN | apply Kd.R_drew)); exact HO_5.out⟩, ⟨by (with_reducible repeat (first | apply Kd.R_alloc | apply Kd.R_drewN | apply Kd.R_drew)); exact HO_6.out⟩, ⟨by (with_reducible repeat (first | apply Kd.R_alloc | apply Kd.R_drewN | apply Kd.R_drew)); exact HO_7.out⟩, ⟨by (with_reducible repeat (first | apply Kd.R_alloc | apply Kd.R_drewN | apply Kd.R_drew)); exact HO_19.out⟩, ⟨by (with_reducible repeat (first | apply Kd.R_alloc | apply Kd.R_drewN | apply Kd.R_drew)); exact HO_22.out⟩, ⟨by repeat (first | (with_reducible first | exact HB.out | apply below_alloc | apply pw_below_drewN | apply below_drew1) | exact HB.out)⟩⟩
                                        · rw [if_neg c57] at H
                                          have c57b0 : ((wrap64 ((rd t829 x118_4) + 1)) == (rd t822 x118_4)) = false := beq_eq_false_iff_ne.mpr c57
                                          have c57b1 : ((wrap64 ((rd t829 x118_4) + 1)) != (rd t822 x118_4)) = true := bne_iff_ne.mpr c57
                                          obtain rfl := Option.some.inj H
                                          obtain ⟨Ao59, co59, eo59⟩ := Kd.R_slice HO_22.out
                                          subst eo59
                                          have p836 : 0 ≤ (x118_4 : Int) := of_decide_eq_true (by first | (with_reducible assumption) | assumption)
                                          have q836 : x118_4 < (t829.length : Int) := of_decide_eq_true (by first | (with_reducible assumption) | assumption)
                                          obtain ⟨ad836, e836, hx836_0⟩ := Kd.at_int (Kd.R_reads' HO_22.out).2.2 x118_4 p836 q836
                                          cases e836
                                          replace p836 := eq_true p836
                                          replace q836 := eq_true q836
                                          have p837 : 0 ≤ (x118_4 : Int) := of_decide_eq_true (by first | (with_reducible assumption) | assumption)
                                          have q837 : x118_4 < (t822.length : Int) := of_decide_eq_true (by first | (with_reducible assumption) | assumption)
                                          obtain ⟨ad837, e837, hx837_0⟩ := Kd.at_int (Kd.R_reads' HO_19.out).2.2 x118_4 p837 q837
                                          cases e837
                                          replace p837 := eq_true p837
                                          replace q837 := eq_true q837
                                          go_wp2
                                          repeat (go_quiet (fail); try go_wp2)
                                          go_ret
                                          exact ⟨by first | rfl | (simp [errW_none, errW_some] <;> rfl) | (simp [*, errW_none, errW_some] <;> rfl), by repeat (first | (with_reducible first | exact HB.out | apply below_alloc | apply pw_below_drewN | apply below_drew1) | exact HB.out)⟩
                                      · rw [if_neg c56] at H
                                        exact absurd H (by simp)
                                    · as_aux_lemma =>
                                      rw [if_neg c55] at H
                                      have c55b0 : (x118_4 == t809) = false := beq_eq_false_iff_ne.mpr c55
                                      have c55b1 : (x118_4 != t809) = true := bne_iff_ne.mpr c55
                                      by_cases c60 : x118_4 < (t822.length : Int)
                                      · as_aux_lemma =>
                                        rw [if_pos c60] at H
                                        have c60b0 : decide (x118_4 < (t822.length : Int)) = true := decide_eq_true c60
                                        clear c60
                                        by_cases c61 : (rd t829 x118_4) = (rd t822 x118_4)
                                        · rw [if_pos c61] at H
                                          have c61b0 : ((rd t829 x118_4) == (rd t822 x118_4)) = true := beq_iff_eq.mpr c61
                                          have c61b1 : ((rd t829 x118_4) != (rd t822 x118_4)) = false := bne_eq_false_iff_eq.mpr c61
                                          clear c61
                                          have H' := Aside0.mk H
                                          clear H
                                          obtain ⟨Ao62, co62, eo62⟩ := Kd.R_slice HO_22.out
                                          subst eo62
                                          have p836 : 0 ≤ (x118_4 : Int) := of_decide_eq_true (by first | (with_reducible assumption) | assumption)
                                          have q836 : x118_4 < (t829.length : Int) := of_decide_eq_true (by first | (with_reducible assumption) | assumption)
                                          obtain ⟨ad836, e836, hx836_0⟩ := Kd.at_int (Kd.R_reads' HO_22.out).2.2 x118_4 p836 q836
                                          cases e836
                                          replace p836 := eq_true p836
                                          replace q836 := eq_true q836
                                          have p838 : 0 ≤ (x118_4 : Int) := of_decide_eq_true (by first | (with_reducible assumption) | assumption)
                                          have q838 : x118_4 < (t822.length : Int) := of_decide_eq_true (by first | (with_reducible assumption) | assumption)
                                          obtain ⟨ad838, e838, hx838_0⟩ := Kd.at_int (Kd.R_reads' HO_19.out).2.2 x118_4 p838 q838
                                          cases e838
                                          replace p838 := eq_true p838
                                          replace q838 := eq_true q838
                                          go_wp2
                                          repeat (go_quiet (fail); try go_wp2)
                                          go_roundg k4
                                          case measure => have := HJ7.out; have := HJ26.out; have := HJ40.out; have := HK4.out; omega
                                          case rel => exact ⟨(wrap64 (x118_4 + 1)), (by first | rfl | (simp; done) | (simp [*]; done)), H', ⟨by have := HJ7.out; have := HJ26.out; have := HJ40.out; have := HK4.out; omega⟩, ⟨by (with_reducible repeat (first | apply Kd.R_alloc | apply Kd.R_drewN | apply Kd.R_drew)); exact HO_5.out⟩, ⟨by (with_reducible repeat (first | apply Kd.R_alloc | apply Kd.R_drewN | apply Kd.R_drew)); exact HO_6.out⟩, ⟨by (with_reducible repeat (first | apply Kd.R_alloc | apply Kd.R_drewN | apply Kd.R_drew)); exact HO_7.out⟩, ⟨by (with_reducible repeat (first | apply Kd.R_alloc | apply Kd.R_drewN | apply Kd.R_drew)); exact HO_19.out⟩, ⟨by (with_reducible repeat (first | apply Kd.R_alloc | apply Kd.R_drewN | apply Kd.R_drew)); exact HO_22.out⟩, ⟨by repeat (first | (with_reducible first | exact HB.out | apply below_alloc | apply pw_below_drewN | apply below_drew1) | exact HB.out)⟩⟩
                                        · rw [if_neg c61] at H
                                          have c61b0 : ((rd t829 x118_4) == (rd t822 x118_4)) = false := beq_eq_false_iff_ne.mpr c61
                                          have c61b1 : ((rd t829 x118_4) != (rd t822 x118_4)) = true := bne_iff_ne.mpr c61
                                          obtain rfl := Option.some.inj H
                                          obtain ⟨Ao63, co63, eo63⟩ := Kd.R_slice HO_22.out
                                          subst eo63
                                          have p836 : 0 ≤ (x118_4 : Int) := of_decide_eq_true (by first | (with_reducible assumption) | assumption)
                                          have q836 : x118_4 < (t829.length : Int) := of_decide_eq_true (by first | (with_reducible assumption) | assumption)
                                          obtain ⟨ad836, e836, hx836_0⟩ := Kd.at_int (Kd.R_reads' HO_22.out).2.2 x118_4 p836 q836
                                          cases e836
                                          replace p836 := eq_true p836
                                          replace q836 := eq_true q836
                                          have p838 : 0 ≤ (x118_4 : Int) := of_decide_eq_true (by first | (with_reducible assumption) | assumption)
                                          have q838 : x118_4 < (t822.length : Int) := of_decide_eq_true (by first | (with_reducible assumption) | assumption)
                                          obtain ⟨ad838, e838, hx838_0⟩ := Kd.at_int (Kd.R_reads' HO_19.out).2.2 x118_4 p838 q838
                                          cases e838
                                          replace p838 := eq_true p838
                                          replace q838 := eq_true q838
                                          go_wp2
                                          repeat (go_quiet (fail); try go_wp2)
                                          go_ret
                                          exact ⟨by first | rfl | (simp [errW_none, errW_some] <;> rfl) | (simp [*, errW_none, errW_some] <;> rfl), by repeat (first | (with_reducible first | exact HB.out | apply below_alloc | apply pw_below_drewN | apply below_drew1) | exact HB.out)⟩
                                      · rw [if_neg c60] at H
                                        exact absurd H (by simp)
                                  · rw [if_neg c54] at H
                                    exact absurd H (by simp)
                                · rw [if_neg c53] at H
                                  exact absurd H (by simp)
                              · rw [if_neg c52] at H
                                have c52b0 : decide (x118_4 < (t822.length : Int)) = false := decide_eq_false c52
                                clear c52
                                have H' := Aside0.mk H
                                clear H
                                go_wp2
                                repeat (go_quiet (fail); try go_wp2)
                                go_meet
                                case rel => exact ⟨_, H', ⟨by have := HJ7.out; have := HJ26.out; have := HJ40.out; have := HK4.out; first | omega | exact Nat.le_refl _⟩, ⟨by (with_reducible repeat (first | apply Kd.R_alloc | apply Kd.R_drewN | apply Kd.R_drew)); exact Kd.R_mono HO_5.out (fun _ hk => ⟨hk.1, hk.2.1⟩)⟩, ⟨by (with_reducible repeat (first | apply Kd.R_alloc | apply Kd.R_drewN | apply Kd.R_drew)); exact Kd.R_mono HO_6.out (fun _ hk => ⟨hk.1, hk.2.1⟩)⟩, ⟨by (with_reducible repeat (first | apply Kd.R_alloc | apply Kd.R_drewN | apply Kd.R_drew)); exact Kd.R_mono HO_7.out (fun _ hk => ⟨hk.1, hk.2.1⟩)⟩, ⟨by repeat (first | (with_reducible first | exact HB.out | apply below_alloc | apply pw_below_drewN | apply below_drew1) | exact HB.out)⟩⟩
                  · replace c38 := Bool.eq_false_iff.mpr c38
                    subst c38
                    have H1 : (laws_FnSandSettles.j4 kj26 t789 t792 t793 t801) = some r := by rw [if_neg (show ¬ (false = true) by decide)] at H; exact H
                    clear H
                    have H := H1
                    clear H1
                    have H' := Aside0.mk H
                    clear H
                    go_wp2
                    repeat (go_quiet (fail); try go_wp2)
                    go_meet
                    case rel => exact ⟨_, H', ⟨by have := HJ7.out; have := HJ26.out; first | omega | exact Nat.le_refl _⟩, ⟨by (with_reducible repeat (first | apply Kd.R_alloc | apply Kd.R_drewN | apply Kd.R_drew)); exact Kd.R_mono HO_5.out (fun _ hk => ⟨hk.1, hk.2.1⟩)⟩, ⟨by (with_reducible repeat (first | apply Kd.R_alloc | apply Kd.R_drewN | apply Kd.R_drew)); exact Kd.R_mono HO_6.out (fun _ hk => ⟨hk.1, hk.2.1⟩)⟩, ⟨by (with_reducible repeat (first | apply Kd.R_alloc | apply Kd.R_drewN | apply Kd.R_drew)); exact Kd.R_mono HO_7.out (fun _ hk => ⟨hk.1, hk.2.1⟩)⟩, ⟨by repeat (first | (with_reducible first | exact HB.out | apply below_alloc | apply pw_below_drewN | apply below_drew1) | exact HB.out)⟩⟩
                case rest =>
                  clear HC37
                  try clear c1
                  try clear c2
                  try clear p2
                  try clear c3
                  try clear c4
                  try clear c5
                  try clear c6
                  try clear p6
                  try clear p8
                  try clear q8
                  try clear hx8
                  try clear c12
                  try clear c13
                  try clear c13b0
                  try clear c13b1
                  try clear c13b2
                  try clear c15
                  try clear c23
                  try clear c32
                  try clear c32b0
                  try clear c32b1
                  try clear c32b2
                  try clear c36
                  try clear c38
                  try clear c45
                  try clear c46
                  try clear c50
                  try clear c52
                  try clear c52b0
                  try clear c53
                  try clear c53b0
                  try clear c54
                  try clear c54b0
                  try clear c55
                  try clear c55b0
                  try clear c55b1
                  try clear c56
                  try clear c56b0
                  try clear c57
                  try clear c57b0
                  try clear c57b1
                  try clear c60
                  try clear c60b0
                  try clear c61
                  try clear c61b0
                  try clear c61b1
                  try clear hx836_0
                  try clear hx837_0
                  try clear hx838_0
                  try clear p2
                  try clear p836
                  try clear p837
                  try clear p838
                  try clear q836
                  try clear q837
                  try clear q838
                  obtain ⟨kq, HA, HJ36, HO_5, HO_6, HO_7, HB⟩ := hcut
                  cases kq with
                  | zero => exact absurd HA.out (by simp [laws_FnSandSettles.j4])
                  | succ kj36 =>
                    have H := HA.out
                    clear HA
                    simp only [laws_FnSandSettles.j4] at H
                    by_cases c64 : t801 = true
                    · as_aux_lemma =>
                      subst c64
                      have H1 : ((impl_IsStable.f t792).bind fun bt839 => ((impl_IsStable.f t789).bind fun bt841 => (if bt839.2 = true then (if bt841.2 = true then (if bt839.1 = true then ((laws_wSum.f kj36 t793).bind fun t843 => (if (bt841.1 != (t843 == 0)) = true then (laws_FnSandSettles.j5 kj36 t789 t792 t793 true) else ((laws_wSum.f kj36 t789).bind fun t844 => ((laws_wSum.f kj36 t792).bind fun t845 => ((laws_wSum.f kj36 t793).bind fun t846 => (laws_FnSandSettles.j5 kj36 t789 t792 t793 ((wrap64 (t844 - t845)) != t846))))))) else (laws_FnSandSettles.j5 kj36 t789 t792 t793 true)) else (laws_FnSandSettles.j5 kj36 t789 t792 t793 true)) else (laws_FnSandSettles.j5 kj36 t789 t792 t793 true)))) = some r := by rw [if_pos rfl] at H; exact H
                      clear H
                      have H := H1
                      clear H1
                      replace H := Option.bind_eq_some_iff.mp H
                      obtain ⟨⟨t839, t840⟩, A650, H⟩ := H
                      replace H : ((impl_IsStable.f t789).bind fun bt841 => (if t840 = true then (if bt841.2 = true then (if t839 = true then ((laws_wSum.f kj36 t793).bind fun t843 => (if (bt841.1 != (t843 == 0)) = true then (laws_FnSandSettles.j5 kj36 t789 t792 t793 true) else ((laws_wSum.f kj36 t789).bind fun t844 => ((laws_wSum.f kj36 t792).bind fun t845 => ((laws_wSum.f kj36 t793).bind fun t846 => (laws_FnSandSettles.j5 kj36 t789 t792 t793 ((wrap64 (t844 - t845)) != t846))))))) else (laws_FnSandSettles.j5 kj36 t789 t792 t793 true)) else (laws_FnSandSettles.j5 kj36 t789 t792 t793 true)) else (laws_FnSandSettles.j5 kj36 t789 t792 t793 true))) = some r := H
                      have A65 := Aside0.mk A650
                      clear A650
                      replace H := Option.bind_eq_some_iff.mp H
                      obtain ⟨⟨t841, t842⟩, A660, H⟩ := H
                      replace H : (if t840 = true then (if t842 = true then (if t839 = true then ((laws_wSum.f kj36 t793).bind fun t843 => (if (t841 != (t843 == 0)) = true then (laws_FnSandSettles.j5 kj36 t789 t792 t793 true) else ((laws_wSum.f kj36 t789).bind fun t844 => ((laws_wSum.f kj36 t792).bind fun t845 => ((laws_wSum.f kj36 t793).bind fun t846 => (laws_FnSandSettles.j5 kj36 t789 t792 t793 ((wrap64 (t844 - t845)) != t846))))))) else (laws_FnSandSettles.j5 kj36 t789 t792 t793 true)) else (laws_FnSandSettles.j5 kj36 t789 t792 t793 true)) else (laws_FnSandSettles.j5 kj36 t789 t792 t793 true)) = some r := H
                      have A66 := Aside0.mk A660
                      clear A660
                      have HC67 := Aside0.mk H
                      clear H
                      obtain ⟨Ao68, co68, eo68⟩ := Kd.R_slice HO_6.out
                      subst eo68
                      go_upto_region 31 with (first | (go_at_call 25; (with_reducible refine (impl_IsStable.calls _ _ t792 t839 t840 _ ?side1 ?side2 A65.out).mono ?_); (case side1 => repeat (first | exact (Kd.R_reads' HO_6.out).2.2 | (with_reducible refine Kd.C_alloc ?_ _) | (with_reducible refine Kd.C_drewN ?_ _) | (with_reducible refine Kd.C_drew ?_))); (case side2 => exact (Kd.R_reads' HO_6.out).2.1); rintro e w69 ⟨rfl, hb⟩; have n0_ := Aside0.mk (Kd.R_below (by (with_reducible repeat (first | apply Kd.R_alloc | apply Kd.R_drewN | apply Kd.R_drew)); exact HO_5.out) hb); have n1_ := Aside0.mk (Kd.R_below (by (with_reducible repeat (first | apply Kd.R_alloc | apply Kd.R_drewN | apply Kd.R_drew)); exact HO_6.out) hb); have n2_ := Aside0.mk (Kd.R_below (by (with_reducible repeat (first | apply Kd.R_alloc | apply Kd.R_drewN | apply Kd.R_drew)); exact HO_7.out) hb); have n3_ := Aside0.mk (below_step (by repeat (first | (with_reducible first | exact HB.out | apply below_alloc | apply pw_below_drewN | apply below_drew1) | exact HB.out)) hb); clear HO_5; clear HO_6; clear HO_7; clear HB; have HO_5 := n0_; have HO_6 := n1_; have HO_7 := n2_; have HB := n3_; clear n0_ n1_ n2_ n3_; (try clear hb); (try clear hb2); (try clear hk); (try clear hi)) | (go_at_call 25; (with_reducible refine (impl_IsStable.calls _ _ t789 t841 t842 _ ?side1 ?side2 A66.out).mono ?_); (case side1 => repeat (first | exact (Kd.R_reads' HO_5.out).2.2 | (with_reducible refine Kd.C_alloc ?_ _) | (with_reducible refine Kd.C_drewN ?_ _) | (with_reducible refine Kd.C_drew ?_))); (case side2 => exact (Kd.R_reads' HO_5.out).2.1); rintro e w70 ⟨rfl, hb⟩; have n0_ := Aside0.mk (Kd.R_below (by (with_reducible repeat (first | apply Kd.R_alloc | apply Kd.R_drewN | apply Kd.R_drew)); exact HO_5.out) hb); have n1_ := Aside0.mk (Kd.R_below (by (with_reducible repeat (first | apply Kd.R_alloc | apply Kd.R_drewN | apply Kd.R_drew)); exact HO_6.out) hb); have n2_ := Aside0.mk (Kd.R_below (by (with_reducible repeat (first | apply Kd.R_alloc | apply Kd.R_drewN | apply Kd.R_drew)); exact HO_7.out) hb); have n3_ := Aside0.mk (below_step (by repeat (first | (with_reducible first | exact HB.out | apply below_alloc | apply pw_below_drewN | apply below_drew1) | exact HB.out)) hb); clear HO_5; clear HO_6; clear HO_7; clear HB; have HO_5 := n0_; have HO_6 := n1_; have HO_7 := n2_; have HB := n3_; clear n0_ n1_ n2_ n3_; (try clear hb); (try clear hb2); (try clear hk); (try clear hi)))
                      repeat (go_quiet (first | (go_at_call 25; (with_reducible refine (impl_IsStable.calls _ _ t792 t839 t840 _ ?side1 ?side2 A65.out).mono ?_); (case side1 => repeat (first | exact (Kd.R_reads' HO_6.out).2.2 | (with_reducible refine Kd.C_alloc ?_ _) | (with_reducible refine Kd.C_drewN ?_ _) | (with_reducible refine Kd.C_drew ?_))); (case side2 => exact (Kd.R_reads' HO_6.out).2.1); rintro e w69 ⟨rfl, hb⟩; have n0_ := Aside0.mk (Kd.R_below (by (with_reducible repeat (first | apply Kd.R_alloc | apply Kd.R_drewN | apply Kd.R_drew)); exact HO_5.out) hb); have n1_ := Aside0.mk (Kd.R_below (by (with_reducible repeat (first | apply Kd.R_alloc | apply Kd.R_drewN | apply Kd.R_drew)); exact HO_6.out) hb); have n2_ := Aside0.mk (Kd.R_below (by (with_reducible repeat (first | apply Kd.R_alloc | apply Kd.R_drewN | apply Kd.R_drew)); exact HO_7.out) hb); have n3_ := Aside0.mk (below_step (by repeat (first | (with_reducible first | exact HB.out | apply below_alloc | apply pw_below_drewN | apply below_drew1) | exact HB.out)) hb); clear HO_5; clear HO_6; clear HO_7; clear HB; have HO_5 := n0_; have HO_6 := n1_; have HO_7 := n2_; have HB := n3_; clear n0_ n1_ n2_ n3_; (try clear hb); (try clear hb2); (try clear hk); (try clear hi)) | (go_at_call 25; (with_reducible refine (impl_IsStable.calls _ _ t789 t841 t842 _ ?side1 ?side2 A66.out).mono ?_); (case side1 => repeat (first | exact (Kd.R_reads' HO_5.out).2.2 | (with_reducible refine Kd.C_alloc ?_ _) | (with_reducible refine Kd.C_drewN ?_ _) | (with_reducible refine Kd.C_drew ?_))); (case side2 => exact (Kd.R_reads' HO_5.out).2.1); rintro e w70 ⟨rfl, hb⟩; have n0_ := Aside0.mk (Kd.R_below (by (with_reducible repeat (first | apply Kd.R_alloc | apply Kd.R_drewN | apply Kd.R_drew)); exact HO_5.out) hb); have n1_ := Aside0.mk (Kd.R_below (by (with_reducible repeat (first | apply Kd.R_alloc | apply Kd.R_drewN | apply Kd.R_drew)); exact HO_6.out) hb); have n2_ := Aside0.mk (Kd.R_below (by (with_reducible repeat (first | apply Kd.R_alloc | apply Kd.R_drewN | apply Kd.R_drew)); exact HO_7.out) hb); have n3_ := Aside0.mk (below_step (by repeat (first | (with_reducible first | exact HB.out | apply below_alloc | apply pw_below_drewN | apply below_drew1) | exact HB.out)) hb); clear HO_5; clear HO_6; clear HO_7; clear HB; have HO_5 := n0_; have HO_6 := n1_; have HO_7 := n2_; have HB := n3_; clear n0_ n1_ n2_ n3_; (try clear hb); (try clear hb2); (try clear hk); (try clear hi))); go_upto_region 31 with (first | (go_at_call 25; (with_reducible refine (impl_IsStable.calls _ _ t792 t839 t840 _ ?side1 ?side2 A65.out).mono ?_); (case side1 => repeat (first | exact (Kd.R_reads' HO_6.out).2.2 | (with_reducible refine Kd.C_alloc ?_ _) | (with_reducible refine Kd.C_drewN ?_ _) | (with_reducible refine Kd.C_drew ?_))); (case side2 => exact (Kd.R_reads' HO_6.out).2.1); rintro e w69 ⟨rfl, hb⟩; have n0_ := Aside0.mk (Kd.R_below (by (with_reducible repeat (first | apply Kd.R_alloc | apply Kd.R_drewN | apply Kd.R_drew)); exact HO_5.out) hb); have n1_ := Aside0.mk (Kd.R_below (by (with_reducible repeat (first | apply Kd.R_alloc | apply Kd.R_drewN | apply Kd.R_drew)); exact HO_6.out) hb); have n2_ := Aside0.mk (Kd.R_below (by (with_reducible repeat (first | apply Kd.R_alloc | apply Kd.R_drewN | apply Kd.R_drew)); exact HO_7.out) hb); have n3_ := Aside0.mk (below_step (by repeat (first | (with_reducible first | exact HB.out | apply below_alloc | apply pw_below_drewN | apply below_drew1) | exact HB.out)) hb); clear HO_5; clear HO_6; clear HO_7; clear HB; have HO_5 := n0_; have HO_6 := n1_; have HO_7 := n2_; have HB := n3_; clear n0_ n1_ n2_ n3_; (try clear hb); (try clear hb2); (try clear hk); (try clear hi)) | (go_at_call 25; (with_reducible refine (impl_IsStable.calls _ _ t789 t841 t842 _ ?side1 ?side2 A66.out).mono ?_); (case side1 => repeat (first | exact (Kd.R_reads' HO_5.out).2.2 | (with_reducible refine Kd.C_alloc ?_ _) | (with_reducible refine Kd.C_drewN ?_ _) | (with_reducible refine Kd.C_drew ?_))); (case side2 => exact (Kd.R_reads' HO_5.out).2.1); rintro e w70 ⟨rfl, hb⟩; have n0_ := Aside0.mk (Kd.R_below (by (with_reducible repeat (first | apply Kd.R_alloc | apply Kd.R_drewN | apply Kd.R_drew)); exact HO_5.out) hb); have n1_ := Aside0.mk (Kd.R_below (by (with_reducible repeat (first | apply Kd.R_alloc | apply Kd.R_drewN | apply Kd.R_drew)); exact HO_6.out) hb); have n2_ := Aside0.mk (Kd.R_below (by (with_reducible repeat (first | apply Kd.R_alloc | apply Kd.R_drewN | apply Kd.R_drew)); exact HO_7.out) hb); have n3_ := Aside0.mk (below_step (by repeat (first | (with_reducible first | exact HB.out | apply below_alloc | apply pw_below_drewN | apply below_drew1) | exact HB.out)) hb); clear HO_5; clear HO_6; clear HO_7; clear HB; have HO_5 := n0_; have HO_6 := n1_; have HO_7 := n2_; have HB := n3_; clear n0_ n1_ n2_ n3_; (try clear hb); (try clear hb2); (try clear hk); (try clear hi))))
                      (try simp only [Act.put, List.setIfInBounds_toArray, List.set_cons_zero, List.set_cons_succ])
                      go_cut [175] (fun v175 wc => ∃ (kq : Nat) (x175_66 : Bool), v175 = .bool x175_66 ∧ Aside0 (laws_FnSandSettles.j5 kq t789 t792 t793 x175_66 = some r) ∧ Aside0 (kq ≤ kj36) ∧ Aside0 (Kd.R (Kd.int .i64) 3 wc w.heap.size (fun k_ => some k_ ≠ ((.slice Ao68 t792.length co68) : Value).ownBlock ∧ some k_ ≠ (v797 : Value).ownBlock) (.slice Ao10 t789.length co10) t789) ∧ Aside0 (Kd.R (Kd.int .i64) 3 wc w.heap.size (fun k_ => some k_ ≠ ((.slice Ao10 t789.length co10) : Value).ownBlock ∧ some k_ ≠ (v797 : Value).ownBlock) (.slice Ao68 t792.length co68) t792) ∧ Aside0 (Kd.R (Kd.int .i64) 3 wc w.heap.size (fun k_ => some k_ ≠ ((.slice Ao10 t789.length co10) : Value).ownBlock ∧ some k_ ≠ ((.slice Ao68 t792.length co68) : Value).ownBlock) v797 t793) ∧ Aside0 (Below w.heap.size w wc))
                      case first =>
                        have H := HC67.out
                        clear HC67
                        by_cases c71 : t840 = true
                        · as_aux_lemma =>
                          subst c71
                          have H1 : (if t842 = true then (if t839 = true then ((laws_wSum.f kj36 t793).bind fun t843 => (if (t841 != (t843 == 0)) = true then (laws_FnSandSettles.j5 kj36 t789 t792 t793 true) else ((laws_wSum.f kj36 t789).bind fun t844 => ((laws_wSum.f kj36 t792).bind fun t845 => ((laws_wSum.f kj36 t793).bind fun t846 => (laws_FnSandSettles.j5 kj36 t789 t792 t793 ((wrap64 (t844 - t845)) != t846))))))) else (laws_FnSandSettles.j5 kj36 t789 t792 t793 true)) else (laws_FnSandSettles.j5 kj36 t789 t792 t793 true)) = some r := by rw [if_pos rfl] at H; exact H
                          clear H
                          have H := H1
                          clear H1
                          by_cases c72 : t842 = true
                          · as_aux_lemma =>
                            subst c72
                            have H1 : (if t839 = true then ((laws_wSum.f kj36 t793).bind fun t843 => (if (t841 != (t843 == 0)) = true then (laws_FnSandSettles.j5 kj36 t789 t792 t793 true) else ((laws_wSum.f kj36 t789).bind fun t844 => ((laws_wSum.f kj36 t792).bind fun t845 => ((laws_wSum.f kj36 t793).bind fun t846 => (laws_FnSandSettles.j5 kj36 t789 t792 t793 ((wrap64 (t844 - t845)) != t846))))))) else (laws_FnSandSettles.j5 kj36 t789 t792 t793 true)) = some r := by rw [if_pos rfl] at H; exact H
                            clear H
                            have H := H1
                            clear H1
                            by_cases c73 : t839 = true
                            · as_aux_lemma =>
                              subst c73
                              have H1 : ((laws_wSum.f kj36 t793).bind fun t843 => (if (t841 != (t843 == 0)) = true then (laws_FnSandSettles.j5 kj36 t789 t792 t793 true) else ((laws_wSum.f kj36 t789).bind fun t844 => ((laws_wSum.f kj36 t792).bind fun t845 => ((laws_wSum.f kj36 t793).bind fun t846 => (laws_FnSandSettles.j5 kj36 t789 t792 t793 ((wrap64 (t844 - t845)) != t846))))))) = some r := by rw [if_pos rfl] at H; exact H
                              clear H
                              have H := H1
                              clear H1
                              replace H := Option.bind_eq_some_iff.mp H
                              obtain ⟨t843, A740, H⟩ := H
                              replace H : (if (t841 != (t843 == 0)) = true then (laws_FnSandSettles.j5 kj36 t789 t792 t793 true) else ((laws_wSum.f kj36 t789).bind fun t844 => ((laws_wSum.f kj36 t792).bind fun t845 => ((laws_wSum.f kj36 t793).bind fun t846 => (laws_FnSandSettles.j5 kj36 t789 t792 t793 ((wrap64 (t844 - t845)) != t846)))))) = some r := H
                              have A74 := Aside0.mk A740
                              clear A740
                              by_cases c75 : (t841 != (t843 == 0)) = true
                              · rw [if_pos c75] at H
                                have c75b0 : (t841 != (t843 == 0)) = true := c75
                                (try (have c75b1 : decide (t841 = (t843 == 0)) = false := by simpa using c75))
                                (try (have c75b2 : (t841 == (t843 == 0)) = false := by simpa using c75))
                                (try (have c75b3 : ¬ (t841 = (t843 == 0)) := by simpa using c75))
                                clear c75
                                (first | rw [c75b0] | (simp only [i64_w, i32_w]; rw [c75b0]) | skip)
                                have H' := Aside0.mk H
                                clear H
                                obtain ⟨Ao76, co76, eo76⟩ := Kd.R_slice HO_7.out
                                subst eo76
                                go_wp2_with (first | (go_at_call 52; (with_reducible refine (laws_wSum.calls kj36 _ _ t793 t843 _ ?side1 ?side2 A74.out).mono ?_); (case side1 => repeat (first | exact (Kd.R_reads' HO_7.out).2.2 | (with_reducible refine Kd.C_alloc ?_ _) | (with_reducible refine Kd.C_drewN ?_ _) | (with_reducible refine Kd.C_drew ?_))); (case side2 => exact (Kd.R_reads' HO_7.out).2.1); rintro e w' ⟨rfl, ⟨nd, rfl⟩⟩; (try first | exact ⟨rfl, _, World.drewN_drewN _ _ _⟩ | exact ⟨rfl, _, Eq.trans (World.drewN_drewN _ _ _) (congrArg (World.drewN _) (Nat.add_assoc _ _ _))⟩)))
                                repeat (go_quiet (first | (go_at_call 52; (with_reducible refine (laws_wSum.calls kj36 _ _ t793 t843 _ ?side1 ?side2 A74.out).mono ?_); (case side1 => repeat (first | exact (Kd.R_reads' HO_7.out).2.2 | (with_reducible refine Kd.C_alloc ?_ _) | (with_reducible refine Kd.C_drewN ?_ _) | (with_reducible refine Kd.C_drew ?_))); (case side2 => exact (Kd.R_reads' HO_7.out).2.1); rintro e w' ⟨rfl, ⟨nd, rfl⟩⟩; (try first | exact ⟨rfl, _, World.drewN_drewN _ _ _⟩ | exact ⟨rfl, _, Eq.trans (World.drewN_drewN _ _ _) (congrArg (World.drewN _) (Nat.add_assoc _ _ _))⟩))); try go_wp2_with (first | (go_at_call 52; (with_reducible refine (laws_wSum.calls kj36 _ _ t793 t843 _ ?side1 ?side2 A74.out).mono ?_); (case side1 => repeat (first | exact (Kd.R_reads' HO_7.out).2.2 | (with_reducible refine Kd.C_alloc ?_ _) | (with_reducible refine Kd.C_drewN ?_ _) | (with_reducible refine Kd.C_drew ?_))); (case side2 => exact (Kd.R_reads' HO_7.out).2.1); rintro e w' ⟨rfl, ⟨nd, rfl⟩⟩; (try first | exact ⟨rfl, _, World.drewN_drewN _ _ _⟩ | exact ⟨rfl, _, Eq.trans (World.drewN_drewN _ _ _) (congrArg (World.drewN _) (Nat.add_assoc _ _ _))⟩))))
                                go_meet
                                case rel => exact ⟨_, (true), (by first | rfl | (simp; done) | (simp [*]; done)), H', ⟨by have := HJ7.out; have := HJ26.out; have := HJ36.out; first | omega | exact Nat.le_refl _⟩, ⟨by (with_reducible repeat (first | apply Kd.R_alloc | apply Kd.R_drewN | apply Kd.R_drew)); exact HO_5.out⟩, ⟨by (with_reducible repeat (first | apply Kd.R_alloc | apply Kd.R_drewN | apply Kd.R_drew)); exact HO_6.out⟩, ⟨by (with_reducible repeat (first | apply Kd.R_alloc | apply Kd.R_drewN | apply Kd.R_drew)); exact HO_7.out⟩, ⟨by repeat (first | (with_reducible first | exact HB.out | apply below_alloc | apply pw_below_drewN | apply below_drew1) | exact HB.out)⟩⟩
                              · as_aux_lemma =>
                                rw [if_neg c75] at H
                                have c75b0 : (t841 != (t843 == 0)) = false := by simpa using c75
                                (try (have c75b1 : decide (t841 = (t843 == 0)) = true := by simpa using c75))
                                (try (have c75b2 : (t841 == (t843 == 0)) = true := by simpa using c75))
                                clear c75
                                (first | rw [c75b0] | (simp only [i64_w, i32_w]; rw [c75b0]) | skip)
                                replace H := Option.bind_eq_some_iff.mp H
                                obtain ⟨t844, A770, H⟩ := H
                                replace H : ((laws_wSum.f kj36 t792).bind fun t845 => ((laws_wSum.f kj36 t793).bind fun t846 => (laws_FnSandSettles.j5 kj36 t789 t792 t793 ((wrap64 (t844 - t845)) != t846)))) = some r := H
                                have A77 := Aside0.mk A770
                                clear A770
                                replace H := Option.bind_eq_some_iff.mp H
                                obtain ⟨t845, A780, H⟩ := H
                                replace H : ((laws_wSum.f kj36 t793).bind fun t846 => (laws_FnSandSettles.j5 kj36 t789 t792 t793 ((wrap64 (t844 - t845)) != t846))) = some r := H
                                have A78 := Aside0.mk A780
                                clear A780
                                replace H := Option.bind_eq_some_iff.mp H
                                obtain ⟨t846, A790, H⟩ := H
                                replace H : (laws_FnSandSettles.j5 kj36 t789 t792 t793 ((wrap64 (t844 - t845)) != t846)) = some r := H
                                have A79 := Aside0.mk A790
                                have Et846 := Aside0.mk (Option.some.inj (A74.out.symm.trans A79.out))
                                clear A790
                                have H' := Aside0.mk H
                                clear H
                                obtain ⟨Ao80, co80, eo80⟩ := Kd.R_slice HO_7.out
                                subst eo80
                                go_wp2_with (first | (go_at_call 52; (with_reducible refine (laws_wSum.calls kj36 _ _ t793 t843 _ ?side1 ?side2 A74.out).mono ?_); (case side1 => repeat (first | exact (Kd.R_reads' HO_7.out).2.2 | (with_reducible refine Kd.C_alloc ?_ _) | (with_reducible refine Kd.C_drewN ?_ _) | (with_reducible refine Kd.C_drew ?_))); (case side2 => exact (Kd.R_reads' HO_7.out).2.1); rintro e w' ⟨rfl, ⟨nd, rfl⟩⟩; (try first | exact ⟨rfl, _, World.drewN_drewN _ _ _⟩ | exact ⟨rfl, _, Eq.trans (World.drewN_drewN _ _ _) (congrArg (World.drewN _) (Nat.add_assoc _ _ _))⟩)) | (go_at_call 52; (with_reducible refine (laws_wSum.calls kj36 _ _ t789 t844 _ ?side1 ?side2 A77.out).mono ?_); (case side1 => repeat (first | exact (Kd.R_reads' HO_5.out).2.2 | (with_reducible refine Kd.C_alloc ?_ _) | (with_reducible refine Kd.C_drewN ?_ _) | (with_reducible refine Kd.C_drew ?_))); (case side2 => exact (Kd.R_reads' HO_5.out).2.1); rintro e w' ⟨rfl, ⟨nd, rfl⟩⟩; (try first | exact ⟨rfl, _, World.drewN_drewN _ _ _⟩ | exact ⟨rfl, _, Eq.trans (World.drewN_drewN _ _ _) (congrArg (World.drewN _) (Nat.add_assoc _ _ _))⟩)) | (go_at_call 52; (with_reducible refine (laws_wSum.calls kj36 _ _ t792 t845 _ ?side1 ?side2 A78.out).mono ?_); (case side1 => repeat (first | exact (Kd.R_reads' HO_6.out).2.2 | (with_reducible refine Kd.C_alloc ?_ _) | (with_reducible refine Kd.C_drewN ?_ _) | (with_reducible refine Kd.C_drew ?_))); (case side2 => exact (Kd.R_reads' HO_6.out).2.1); rintro e w' ⟨rfl, ⟨nd, rfl⟩⟩; (try first | exact ⟨rfl, _, World.drewN_drewN _ _ _⟩ | exact ⟨rfl, _, Eq.trans (World.drewN_drewN _ _ _) (congrArg (World.drewN _) (Nat.add_assoc _ _ _))⟩)) | (go_at_call 52; (with_reducible refine (laws_wSum.calls kj36 _ _ t793 t846 _ ?side1 ?side2 A79.out).mono ?_); (case side1 => repeat (first | exact (Kd.R_reads' HO_7.out).2.2 | (with_reducible refine Kd.C_alloc ?_ _) | (with_reducible refine Kd.C_drewN ?_ _) | (with_reducible refine Kd.C_drew ?_))); (case side2 => exact (Kd.R_reads' HO_7.out).2.1); rintro e w' ⟨rfl, ⟨nd, rfl⟩⟩; (try first | exact ⟨rfl, _, World.drewN_drewN _ _ _⟩ | exact ⟨rfl, _, Eq.trans (World.drewN_drewN _ _ _) (congrArg (World.drewN _) (Nat.add_assoc _ _ _))⟩)))
                                repeat (go_quiet (first | (go_at_call 52; (with_reducible refine (laws_wSum.calls kj36 _ _ t793 t843 _ ?side1 ?side2 A74.out).mono ?_); (case side1 => repeat (first | exact (Kd.R_reads' HO_7.out).2.2 | (with_reducible refine Kd.C_alloc ?_ _) | (with_reducible refine Kd.C_drewN ?_ _) | (with_reducible refine Kd.C_drew ?_))); (case side2 => exact (Kd.R_reads' HO_7.out).2.1); rintro e w' ⟨rfl, ⟨nd, rfl⟩⟩; (try first | exact ⟨rfl, _, World.drewN_drewN _ _ _⟩ | exact ⟨rfl, _, Eq.trans (World.drewN_drewN _ _ _) (congrArg (World.drewN _) (Nat.add_assoc _ _ _))⟩)) | (go_at_call 52; (with_reducible refine (laws_wSum.calls kj36 _ _ t789 t844 _ ?side1 ?side2 A77.out).mono ?_); (case side1 => repeat (first | exact (Kd.R_reads' HO_5.out).2.2 | (with_reducible refine Kd.C_alloc ?_ _) | (with_reducible refine Kd.C_drewN ?_ _) | (with_reducible refine Kd.C_drew ?_))); (case side2 => exact (Kd.R_reads' HO_5.out).2.1); rintro e w' ⟨rfl, ⟨nd, rfl⟩⟩; (try first | exact ⟨rfl, _, World.drewN_drewN _ _ _⟩ | exact ⟨rfl, _, Eq.trans (World.drewN_drewN _ _ _) (congrArg (World.drewN _) (Nat.add_assoc _ _ _))⟩)) | (go_at_call 52; (with_reducible refine (laws_wSum.calls kj36 _ _ t792 t845 _ ?side1 ?side2 A78.out).mono ?_); (case side1 => repeat (first | exact (Kd.R_reads' HO_6.out).2.2 | (with_reducible refine Kd.C_alloc ?_ _) | (with_reducible refine Kd.C_drewN ?_ _) | (with_reducible refine Kd.C_drew ?_))); (case side2 => exact (Kd.R_reads' HO_6.out).2.1); rintro e w' ⟨rfl, ⟨nd, rfl⟩⟩; (try first | exact ⟨rfl, _, World.drewN_drewN _ _ _⟩ | exact ⟨rfl, _, Eq.trans (World.drewN_drewN _ _ _) (congrArg (World.drewN _) (Nat.add_assoc _ _ _))⟩)) | (go_at_call 52; (with_reducible refine (laws_wSum.calls kj36 _ _ t793 t846 _ ?side1 ?side2 A79.out).mono ?_); (case side1 => repeat (first | exact (Kd.R_reads' HO_7.out).2.2 | (with_reducible refine Kd.C_alloc ?_ _) | (with_reducible refine Kd.C_drewN ?_ _) | (with_reducible refine Kd.C_drew ?_))); (case side2 => exact (Kd.R_reads' HO_7.out).2.1); rintro e w' ⟨rfl, ⟨nd, rfl⟩⟩; (try first | exact ⟨rfl, _, World.drewN_drewN _ _ _⟩ | exact ⟨rfl, _, Eq.trans (World.drewN_drewN _ _ _) (congrArg (World.drewN _) (Nat.add_assoc _ _ _))⟩))); try go_wp2_with (first | (go_at_call 52; (with_reducible refine (laws_wSum.calls kj36 _ _ t793 t843 _ ?side1 ?side2 A74.out).mono ?_); (case side1 => repeat (first | exact (Kd.R_reads' HO_7.out).2.2 | (with_reducible refine Kd.C_alloc ?_ _) | (with_reducible refine Kd.C_drewN ?_ _) | (with_reducible refine Kd.C_drew ?_))); (case side2 => exact (Kd.R_reads' HO_7.out).2.1); rintro e w' ⟨rfl, ⟨nd, rfl⟩⟩; (try first | exact ⟨rfl, _, World.drewN_drewN _ _ _⟩ | exact ⟨rfl, _, Eq.trans (World.drewN_drewN _ _ _) (congrArg (World.drewN _) (Nat.add_assoc _ _ _))⟩)) | (go_at_call 52; (with_reducible refine (laws_wSum.calls kj36 _ _ t789 t844 _ ?side1 ?side2 A77.out).mono ?_); (case side1 => repeat (first | exact (Kd.R_reads' HO_5.out).2.2 | (with_reducible refine Kd.C_alloc ?_ _) | (with_reducible refine Kd.C_drewN ?_ _) | (with_reducible refine Kd.C_drew ?_))); (case side2 => exact (Kd.R_reads' HO_5.out).2.1); rintro e w' ⟨rfl, ⟨nd, rfl⟩⟩; (try first | exact ⟨rfl, _, World.drewN_drewN _ _ _⟩ | exact ⟨rfl, _, Eq.trans (World.drewN_drewN _ _ _) (congrArg (World.drewN _) (Nat.add_assoc _ _ _))⟩)) | (go_at_call 52; (with_reducible refine (laws_wSum.calls kj36 _ _ t792 t845 _ ?side1 ?side2 A78.out).mono ?_); (case side1 => repeat (first | exact (Kd.R_reads' HO_6.out).2.2 | (with_reducible refine Kd.C_alloc ?_ _) | (with_reducible refine Kd.C_drewN ?_ _) | (with_reducible refine Kd.C_drew ?_))); (case side2 => exact (Kd.R_reads' HO_6.out).2.1); rintro e w' ⟨rfl, ⟨nd, rfl⟩⟩; (try first | exact ⟨rfl, _, World.drewN_drewN _ _ _⟩ | exact ⟨rfl, _, Eq.trans (World.drewN_drewN _ _ _) (congrArg (World.drewN _) (Nat.add_assoc _ _ _))⟩)) | (go_at_call 52; (with_reducible refine (laws_wSum.calls kj36 _ _ t793 t846 _ ?side1 ?side2 A79.out).mono ?_); (case side1 => repeat (first | exact (Kd.R_reads' HO_7.out).2.2 | (with_reducible refine Kd.C_alloc ?_ _) | (with_reducible refine Kd.C_drewN ?_ _) | (with_reducible refine Kd.C_drew ?_))); (case side2 => exact (Kd.R_reads' HO_7.out).2.1); rintro e w' ⟨rfl, ⟨nd, rfl⟩⟩; (try first | exact ⟨rfl, _, World.drewN_drewN _ _ _⟩ | exact ⟨rfl, _, Eq.trans (World.drewN_drewN _ _ _) (congrArg (World.drewN _) (Nat.add_assoc _ _ _))⟩))))
                                go_meet
                                case rel => exact ⟨_, (((wrap64 (t844 - t845)) != t846)), (by first | rfl | (simp; done) | (simp [*]; done) | (rw [Et846.out])), H', ⟨by have := HJ7.out; have := HJ26.out; have := HJ36.out; first | omega | exact Nat.le_refl _⟩, ⟨by (with_reducible repeat (first | apply Kd.R_alloc | apply Kd.R_drewN | apply Kd.R_drew)); exact HO_5.out⟩, ⟨by (with_reducible repeat (first | apply Kd.R_alloc | apply Kd.R_drewN | apply Kd.R_drew)); exact HO_6.out⟩, ⟨by (with_reducible repeat (first | apply Kd.R_alloc | apply Kd.R_drewN | apply Kd.R_drew)); exact HO_7.out⟩, ⟨by repeat (first | (with_reducible first | exact HB.out | apply below_alloc | apply pw_below_drewN | apply below_drew1) | exact HB.out)⟩⟩
                            · replace c73 := Bool.eq_false_iff.mpr c73
                              subst c73
                              have H1 : (laws_FnSandSettles.j5 kj36 t789 t792 t793 true) = some r := by rw [if_neg (show ¬ (false = true) by decide)] at H; exact H
                              clear H
                              have H := H1
                              clear H1
                              have H' := Aside0.mk H
                              clear H
                              go_wp2
                              repeat (go_quiet (fail); try go_wp2)
                              go_meet
                              case rel => exact ⟨_, (true), (by first | rfl | (simp; done) | (simp [*]; done)), H', ⟨by have := HJ7.out; have := HJ26.out; have := HJ36.out; first | omega | exact Nat.le_refl _⟩, ⟨by (with_reducible repeat (first | apply Kd.R_alloc | apply Kd.R_drewN | apply Kd.R_drew)); exact HO_5.out⟩, ⟨by (with_reducible repeat (first | apply Kd.R_alloc | apply Kd.R_drewN | apply Kd.R_drew)); exact HO_6.out⟩, ⟨by (with_reducible repeat (first | apply Kd.R_alloc | apply Kd.R_drewN | apply Kd.R_drew)); exact HO_7.out⟩, ⟨by repeat (first | (with_reducible first | exact HB.out | apply below_alloc | apply pw_below_drewN | apply below_drew1) | exact HB.out)⟩⟩
                          · replace c72 := Bool.eq_false_iff.mpr c72
                            subst c72
                            have H1 : (laws_FnSandSettles.j5 kj36 t789 t792 t793 true) = some r := by rw [if_neg (show ¬ (false = true) by decide)] at H; exact H
                            clear H
                            have H := H1
                            clear H1
                            have H' := Aside0.mk H
                            clear H
                            go_wp2
                            repeat (go_quiet (fail); try go_wp2)
                            go_meet
                            case rel => exact ⟨_, (true), (by first | rfl | (simp; done) | (simp [*]; done)), H', ⟨by have := HJ7.out; have := HJ26.out; have := HJ36.out; first | omega | exact Nat.le_refl _⟩, ⟨by (with_reducible repeat (first | apply Kd.R_alloc | apply Kd.R_drewN | apply Kd.R_drew)); exact HO_5.out⟩, ⟨by (with_reducible repeat (first | apply Kd.R_alloc | apply Kd.R_drewN | apply Kd.R_drew)); exact HO_6.out⟩, ⟨by (with_reducible repeat (first | apply Kd.R_alloc | apply Kd.R_drewN | apply Kd.R_drew)); exact HO_7.out⟩, ⟨by repeat (first | (with_reducible first | exact HB.out | apply below_alloc | apply pw_below_drewN | apply below_drew1) | exact HB.out)⟩⟩
                        · replace c71 := Bool.eq_false_iff.mpr c71
                          subst c71
                          have H1 : (laws_FnSandSettles.j5 kj36 t789 t792 t793 true) = some r := by rw [if_neg (show ¬ (false = true) by decide)] at H; exact H
                          clear H
                          have H := H1
                          clear H1
                          have H' := Aside0.mk H
                          clear H
                          go_wp2
                          repeat (go_quiet (fail); try go_wp2)
                          go_meet
                          case rel => exact ⟨_, (true), (by first | rfl | (simp; done) | (simp [*]; done)), H', ⟨by have := HJ7.out; have := HJ26.out; have := HJ36.out; first | omega | exact Nat.le_refl _⟩, ⟨by (with_reducible repeat (first | apply Kd.R_alloc | apply Kd.R_drewN | apply Kd.R_drew)); exact HO_5.out⟩, ⟨by (with_reducible repeat (first | apply Kd.R_alloc | apply Kd.R_drewN | apply Kd.R_drew)); exact HO_6.out⟩, ⟨by (with_reducible repeat (first | apply Kd.R_alloc | apply Kd.R_drewN | apply Kd.R_drew)); exact HO_7.out⟩, ⟨by repeat (first | (with_reducible first | exact HB.out | apply below_alloc | apply pw_below_drewN | apply below_drew1) | exact HB.out)⟩⟩
                      case rest =>
                        clear HC67
                        try clear c1
                        try clear c2
                        try clear p2
                        try clear c3
                        try clear c4
                        try clear c5
                        try clear c6
                        try clear p6
                        try clear c7
                        try clear p8
                        try clear q8
                        try clear hx8
                        try clear c12
                        try clear c13
                        try clear c13b0
                        try clear c13b1
                        try clear c13b2
                        try clear c15
                        try clear c23
                        try clear c32
                        try clear c32b0
                        try clear c32b1
                        try clear c32b2
                        try clear c36
                        try clear c38
                        try clear c45
                        try clear c46
                        try clear c50
                        try clear c52
                        try clear c52b0
                        try clear c53
                        try clear c53b0
                        try clear c54
                        try clear c54b0
                        try clear c55
                        try clear c55b0
                        try clear c55b1
                        try clear c56
                        try clear c56b0
                        try clear c57
                        try clear c57b0
                        try clear c57b1
                        try clear c60
                        try clear c60b0
                        try clear c61
                        try clear c61b0
                        try clear c61b1
                        try clear c64
                        try clear p64
                        try clear c71
                        try clear c72
                        try clear c73
                        try clear c75
                        try clear c75b0
                        try clear c75b1
                        try clear c75b2
                        try clear hx836_0
                        try clear hx837_0
                        try clear hx838_0
                        try clear p2
                        try clear p6
                        try clear p8
                        try clear p836
                        try clear p837
                        try clear p838
                        try clear q8
                        try clear q836
                        try clear q837
                        try clear q838
                        obtain ⟨kq, x175_66, rfl, HA, HJ66, HO_5, HO_6, HO_7, HB⟩ := hcut
                        cases kq with
                        | zero => exact absurd HA.out (by simp [laws_FnSandSettles.j5])
                        | succ kj66 =>
                          have H := HA.out
                          clear HA
                          simp only [laws_FnSandSettles.j5] at H
                          by_cases c81 : x175_66 = true
                          · subst c81
                            have H1 : (some false) = some r := by rw [if_pos rfl] at H; exact H
                            clear H
                            have H := H1
                            clear H1
                            obtain rfl := Option.some.inj H
                            go_wp2
                            repeat (go_quiet (fail); try go_wp2)
                            go_ret
                            exact ⟨by first | rfl | (simp [errW_none, errW_some] <;> rfl) | (simp [*, errW_none, errW_some] <;> rfl), by repeat (first | (with_reducible first | exact HB.out | apply below_alloc | apply pw_below_drewN | apply below_drew1) | exact HB.out)⟩
                          · as_aux_lemma =>
                            replace c81 := Bool.eq_false_iff.mpr c81
                            subst c81
                            have H1 : ((laws_wSum.f kj66 t793).bind fun t847 => (laws_FnSandSettles.l1 kj66 t789 t792 t793 t847 t789 (t789.length : Int) 0)) = some r := by rw [if_neg (show ¬ (false = true) by decide)] at H; exact H
                            clear H
                            have H := H1
                            clear H1
                            replace H := Option.bind_eq_some_iff.mp H
                            obtain ⟨t847, A820, H⟩ := H
                            replace H : (laws_FnSandSettles.l1 kj66 t789 t792 t793 t847 t789 (t789.length : Int) 0) = some r := H
                            have A82 := Aside0.mk A820
                            clear A820
                            have H' := Aside0.mk H
                            clear H
                            obtain ⟨Ao83, co83, eo83⟩ := Kd.R_slice HO_7.out
                            subst eo83
                            go_wp2_with (first | (go_at_call 52; (with_reducible refine (laws_wSum.calls kj66 _ _ t793 t847 _ ?side1 ?side2 A82.out).mono ?_); (case side1 => repeat (first | exact (Kd.R_reads' HO_7.out).2.2 | (with_reducible refine Kd.C_alloc ?_ _) | (with_reducible refine Kd.C_drewN ?_ _) | (with_reducible refine Kd.C_drew ?_))); (case side2 => exact (Kd.R_reads' HO_7.out).2.1); rintro e w' ⟨rfl, ⟨nd, rfl⟩⟩; (try first | exact ⟨rfl, _, World.drewN_drewN _ _ _⟩ | exact ⟨rfl, _, Eq.trans (World.drewN_drewN _ _ _) (congrArg (World.drewN _) (Nat.add_assoc _ _ _))⟩)))
                            repeat (go_quiet (first | (go_at_call 52; (with_reducible refine (laws_wSum.calls kj66 _ _ t793 t847 _ ?side1 ?side2 A82.out).mono ?_); (case side1 => repeat (first | exact (Kd.R_reads' HO_7.out).2.2 | (with_reducible refine Kd.C_alloc ?_ _) | (with_reducible refine Kd.C_drewN ?_ _) | (with_reducible refine Kd.C_drew ?_))); (case side2 => exact (Kd.R_reads' HO_7.out).2.1); rintro e w' ⟨rfl, ⟨nd, rfl⟩⟩; (try first | exact ⟨rfl, _, World.drewN_drewN _ _ _⟩ | exact ⟨rfl, _, Eq.trans (World.drewN_drewN _ _ _) (congrArg (World.drewN _) (Nat.add_assoc _ _ _))⟩))); try go_wp2_with (first | (go_at_call 52; (with_reducible refine (laws_wSum.calls kj66 _ _ t793 t847 _ ?side1 ?side2 A82.out).mono ?_); (case side1 => repeat (first | exact (Kd.R_reads' HO_7.out).2.2 | (with_reducible refine Kd.C_alloc ?_ _) | (with_reducible refine Kd.C_drewN ?_ _) | (with_reducible refine Kd.C_drew ?_))); (case side2 => exact (Kd.R_reads' HO_7.out).2.1); rintro e w' ⟨rfl, ⟨nd, rfl⟩⟩; (try first | exact ⟨rfl, _, World.drewN_drewN _ _ _⟩ | exact ⟨rfl, _, Eq.trans (World.drewN_drewN _ _ _) (congrArg (World.drewN _) (Nat.add_assoc _ _ _))⟩))))
                            go_loopg [180] kj66 (fun kq v180 w' => ∃ (x180_5 : Int), v180 = .int .i64 x180_5 ∧ Aside0 (laws_FnSandSettles.l1 kq t789 t792 t793 t847 t789 (t789.length : Int) x180_5 = some r) ∧ Aside0 (kq ≤ kj66) ∧ Aside0 (Kd.R (Kd.int .i64) 3 w' w.heap.size (fun k_ => some k_ ≠ ((.slice Ao68 t792.length co68) : Value).ownBlock ∧ some k_ ≠ ((.slice Ao83 t793.length co83) : Value).ownBlock) (.slice Ao10 t789.length co10) t789) ∧ Aside0 (Kd.R (Kd.int .i64) 3 w' w.heap.size (fun k_ => some k_ ≠ ((.slice Ao10 t789.length co10) : Value).ownBlock ∧ some k_ ≠ ((.slice Ao83 t793.length co83) : Value).ownBlock ∧ some k_ ≠ ((.slice Ao10 t789.length co10) : Value).ownBlock) (.slice Ao68 t792.length co68) t792) ∧ Aside0 (Kd.R (Kd.int .i64) 3 w' w.heap.size (fun k_ => some k_ ≠ ((.slice Ao10 t789.length co10) : Value).ownBlock ∧ some k_ ≠ ((.slice Ao68 t792.length co68) : Value).ownBlock ∧ some k_ ≠ ((.slice Ao10 t789.length co10) : Value).ownBlock) (.slice Ao83 t793.length co83) t793) ∧ Aside0 (Kd.R (Kd.int .i64) 3 w' w.heap.size (fun k_ => some k_ ≠ ((.slice Ao68 t792.length co68) : Value).ownBlock ∧ some k_ ≠ ((.slice Ao83 t793.length co83) : Value).ownBlock) (.slice Ao10 t789.length co10) t789) ∧ Aside0 (Below w.heap.size w w'))
                            case atStart => exact ⟨(0), (by first | rfl | (simp; done) | (simp [*]; done)), H', ⟨Nat.le_refl _⟩, ⟨by (with_reducible repeat (first | apply Kd.R_alloc | apply Kd.R_drewN | apply Kd.R_drew)); exact HO_5.out⟩, ⟨by (with_reducible repeat (first | apply Kd.R_alloc | apply Kd.R_drewN | apply Kd.R_drew)); exact Kd.R_mono HO_6.out (fun _ hk => ⟨hk.1, ⟨hk.2, hk.1⟩⟩)⟩, ⟨by (with_reducible repeat (first | apply Kd.R_alloc | apply Kd.R_drewN | apply Kd.R_drew)); exact Kd.R_mono HO_7.out (fun _ hk => ⟨hk.1, ⟨hk.2, hk.1⟩⟩)⟩, ⟨by (with_reducible repeat (first | apply Kd.R_alloc | apply Kd.R_drewN | apply Kd.R_drew)); exact HO_5.out⟩, ⟨by repeat (first | (with_reducible first | exact HB.out | apply below_alloc | apply pw_below_drewN | apply below_drew1) | exact HB.out)⟩⟩
                            case round =>
                              clear H'
                              try clear c1
                              try clear c2
                              try clear p2
                              try clear c3
                              try clear c4
                              try clear c5
                              try clear c6
                              try clear p6
                              try clear c7
                              try clear c8
                              try clear p8
                              try clear q8
                              try clear hx8
                              try clear c12
                              try clear c13
                              try clear c13b0
                              try clear c13b1
                              try clear c13b2
                              try clear c15
                              try clear c23
                              try clear c32
                              try clear c32b0
                              try clear c32b1
                              try clear c32b2
                              try clear c36
                              try clear c38
                              try clear c45
                              try clear c46
                              try clear c50
                              try clear c52
                              try clear c52b0
                              try clear c53
                              try clear c53b0
                              try clear c54
                              try clear c54b0
                              try clear c55
                              try clear c55b0
                              try clear c55b1
                              try clear c56
                              try clear c56b0
                              try clear c57
                              try clear c57b0
                              try clear c57b1
                              try clear c60
                              try clear c60b0
                              try clear c61
                              try clear c61b0
                              try clear c61b1
                              try clear c64
                              try clear p64
                              try clear c71
                              try clear c72
                              try clear c73
                              try clear c75
                              try clear c75b0
                              try clear c75b1
                              try clear c75b2
                              try clear c81
                              try clear p83
                              try clear q83
                              try clear hx83
                              try clear hx836_0
                              try clear hx837_0
                              try clear hx838_0
                              try clear p2
                              try clear p6
                              try clear p64
                              try clear p8
                              try clear p836
                              try clear p837
                              try clear p838
                              try clear q8
                              try clear q836
                              try clear q837
                              try clear q838
                              obtain ⟨x180_5, rfl, HA, HK5, HO_5, HO_6, HO_7, HO_178, HB⟩ := hrel
                              cases gk with
                              | zero => exact absurd HA.out (by simp [laws_FnSandSettles.l1])
                              | succ k5 =>
                                have H := HA.out
                                clear HA
                                simp only [laws_FnSandSettles.l1] at H
                                by_cases c84 : x180_5 < (t789.length : Int)
                                · as_aux_lemma =>
                                  rw [if_pos c84] at H
                                  have c84b0 : decide (x180_5 < (t789.length : Int)) = true := decide_eq_true c84
                                  clear c84
                                  by_cases c85 : 0 ≤ x180_5
                                  · as_aux_lemma =>
                                    rw [if_pos c85] at H
                                    have c85b0 : decide (0 ≤ x180_5) = true := decide_eq_true c85
                                    clear c85
                                    by_cases c86 : x180_5 < (t789.length : Int)
                                    · as_aux_lemma =>
                                      rw [if_pos c86] at H
                                      have c86b0 : decide (x180_5 < (t789.length : Int)) = true := decide_eq_true c86
                                      clear c86
                                      by_cases c87 : x180_5 < (t792.length : Int)
                                      · as_aux_lemma =>
                                        rw [if_pos c87] at H
                                        have c87b0 : decide (x180_5 < (t792.length : Int)) = true := decide_eq_true c87
                                        clear c87
                                        by_cases c88 : x180_5 < (t793.length : Int)
                                        · as_aux_lemma =>
                                          rw [if_pos c88] at H
                                          have c88b0 : decide (x180_5 < (t793.length : Int)) = true := decide_eq_true c88
                                          clear c88
                                          by_cases c89 : (rd t792 x180_5) = (wrap64 ((wrap64 ((rd t789 x180_5) - (wrap64 ((wrap64 ((t789.length : Int) + 1)) * (rd t793 x180_5))))) + t847))
                                          · rw [if_pos c89] at H
                                            have c89b0 : ((rd t792 x180_5) == (wrap64 ((wrap64 ((rd t789 x180_5) - (wrap64 ((wrap64 ((t789.length : Int) + 1)) * (rd t793 x180_5))))) + t847))) = true := beq_iff_eq.mpr c89
                                            have c89b1 : ((rd t792 x180_5) != (wrap64 ((wrap64 ((rd t789 x180_5) - (wrap64 ((wrap64 ((t789.length : Int) + 1)) * (rd t793 x180_5))))) + t847))) = false := bne_eq_false_iff_eq.mpr c89
                                            clear c89
                                            have H' := Aside0.mk H
                                            clear H
                                            have p848 : 0 ≤ (x180_5 : Int) := of_decide_eq_true (by first | (with_reducible assumption) | assumption)
                                            have q848 : x180_5 < (t789.length : Int) := of_decide_eq_true (by first | (with_reducible assumption) | assumption)
                                            obtain ⟨ad848, e848, hx848_0⟩ := Kd.at_int (Kd.R_reads' HO_178.out).2.2 x180_5 p848 q848
                                            cases e848
                                            replace p848 := eq_true p848
                                            replace q848 := eq_true q848
                                            have p849 : 0 ≤ (x180_5 : Int) := of_decide_eq_true (by first | (with_reducible assumption) | assumption)
                                            have q849 : x180_5 < (t792.length : Int) := of_decide_eq_true (by first | (with_reducible assumption) | assumption)
                                            obtain ⟨ad849, e849, hx849_0⟩ := Kd.at_int (Kd.R_reads' HO_6.out).2.2 x180_5 p849 q849
                                            cases e849
                                            replace p849 := eq_true p849
                                            replace q849 := eq_true q849
                                            have p850 : 0 ≤ (x180_5 : Int) := of_decide_eq_true (by first | (with_reducible assumption) | assumption)
                                            have q850 : x180_5 < (t793.length : Int) := of_decide_eq_true (by first | (with_reducible assumption) | assumption)
                                            obtain ⟨ad850, e850, hx850_0⟩ := Kd.at_int (Kd.R_reads' HO_7.out).2.2 x180_5 p850 q850
                                            cases e850
                                            replace p850 := eq_true p850
                                            replace q850 := eq_true q850
                                            go_wp2
                                            repeat (go_quiet (fail); try go_wp2)
                                            go_roundg k5
                                            case measure => have := HJ7.out; have := HJ26.out; have := HJ36.out; have := HJ66.out; have := HK5.out; omega
                                            case rel => exact ⟨(wrap64 (x180_5 + 1)), (by first | rfl | (simp; done) | (simp [*]; done)), H', ⟨by have := HJ7.out; have := HJ26.out; have := HJ36.out; have := HJ66.out; have := HK5.out; omega⟩, ⟨by (with_reducible repeat (first | apply Kd.R_alloc | apply Kd.R_drewN | apply Kd.R_drew)); exact HO_5.out⟩, ⟨by (with_reducible repeat (first | apply Kd.R_alloc | apply Kd.R_drewN | apply Kd.R_drew)); exact HO_6.out⟩, ⟨by (with_reducible repeat (first | apply Kd.R_alloc | apply Kd.R_drewN | apply Kd.R_drew)); exact HO_7.out⟩, ⟨by (with_reducible repeat (first | apply Kd.R_alloc | apply Kd.R_drewN | apply Kd.R_drew)); exact HO_178.out⟩, ⟨by repeat (first | (with_reducible first | exact HB.out | apply below_alloc | apply pw_below_drewN | apply below_drew1) | exact HB.out)⟩⟩
                                          · rw [if_neg c89] at H
                                            have c89b0 : ((rd t792 x180_5) == (wrap64 ((wrap64 ((rd t789 x180_5) - (wrap64 ((wrap64 ((t789.length : Int) + 1)) * (rd t793 x180_5))))) + t847))) = false := beq_eq_false_iff_ne.mpr c89
                                            have c89b1 : ((rd t792 x180_5) != (wrap64 ((wrap64 ((rd t789 x180_5) - (wrap64 ((wrap64 ((t789.length : Int) + 1)) * (rd t793 x180_5))))) + t847))) = true := bne_iff_ne.mpr c89
                                            obtain rfl := Option.some.inj H
                                            have p848 : 0 ≤ (x180_5 : Int) := of_decide_eq_true (by first | (with_reducible assumption) | assumption)
                                            have q848 : x180_5 < (t789.length : Int) := of_decide_eq_true (by first | (with_reducible assumption) | assumption)
                                            obtain ⟨ad848, e848, hx848_0⟩ := Kd.at_int (Kd.R_reads' HO_178.out).2.2 x180_5 p848 q848
                                            cases e848
                                            replace p848 := eq_true p848
                                            replace q848 := eq_true q848
                                            have p849 : 0 ≤ (x180_5 : Int) := of_decide_eq_true (by first | (with_reducible assumption) | assumption)
                                            have q849 : x180_5 < (t792.length : Int) := of_decide_eq_true (by first | (with_reducible assumption) | assumption)
                                            obtain ⟨ad849, e849, hx849_0⟩ := Kd.at_int (Kd.R_reads' HO_6.out).2.2 x180_5 p849 q849
                                            cases e849
                                            replace p849 := eq_true p849
                                            replace q849 := eq_true q849
                                            have p850 : 0 ≤ (x180_5 : Int) := of_decide_eq_true (by first | (with_reducible assumption) | assumption)
                                            have q850 : x180_5 < (t793.length : Int) := of_decide_eq_true (by first | (with_reducible assumption) | assumption)
                                            obtain ⟨ad850, e850, hx850_0⟩ := Kd.at_int (Kd.R_reads' HO_7.out).2.2 x180_5 p850 q850
                                            cases e850
                                            replace p850 := eq_true p850
                                            replace q850 := eq_true q850
                                            go_wp2
                                            repeat (go_quiet (fail); try go_wp2)
                                            go_ret
                                            exact ⟨by first | rfl | (simp [errW_none, errW_some] <;> rfl) | (simp [*, errW_none, errW_some] <;> rfl), by repeat (first | (with_reducible first | exact HB.out | apply below_alloc | apply pw_below_drewN | apply below_drew1) | exact HB.out)⟩
                                        · rw [if_neg c88] at H
                                          exact absurd H (by simp)
                                      · rw [if_neg c87] at H
                                        exact absurd H (by simp)
                                    · rw [if_neg c86] at H
                                      exact absurd H (by simp)
                                  · rw [if_neg c85] at H
                                    exact absurd H (by simp)
                                · rw [if_neg c84] at H
                                  have c84b0 : decide (x180_5 < (t789.length : Int)) = false := decide_eq_false c84
                                  clear c84
                                  obtain rfl := Option.some.inj H
                                  go_wp2
                                  repeat (go_quiet (fail); try go_wp2)
                                  go_ret
                                  exact ⟨by first | rfl | (simp [errW_none, errW_some] <;> rfl) | (simp [*, errW_none, errW_some] <;> rfl), by repeat (first | (with_reducible first | exact HB.out | apply below_alloc | apply pw_below_drewN | apply below_drew1) | exact HB.out)⟩
                    · replace c64 := Bool.eq_false_iff.mpr c64
                      subst c64
                      have H1 : (some true) = some r := by rw [if_neg (show ¬ (false = true) by decide)] at H; exact H
                      clear H
                      have H := H1
                      clear H1
                      obtain rfl := Option.some.inj H
                      go_wp2
                      repeat (go_quiet (fail); try go_wp2)
                      go_ret
                      exact ⟨by first | rfl | (simp [errW_none, errW_some] <;> rfl) | (simp [*, errW_none, errW_some] <;> rfl), by repeat (first | (with_reducible first | exact HB.out | apply below_alloc | apply pw_below_drewN | apply below_drew1) | exact HB.out)⟩

/-- THE ONE PURE STATEMENT of laws_FnSandSettles: yours. -/
def laws_FnSandSettles.Pure : Prop := ∀ (l0 : List Int) (l1 : List Int), l0.length ≤ maxLen → l0.length * 1 ≤ 140737488351232 → (∀ x ∈ l0, (Lit.int .u8 x).wf = true) → l1.length ≤ maxLen → l1.length * 1 ≤ 140737488351232 → (∀ x ∈ l1, (Lit.int .u8 x).wf = true) → ∃ k, laws_FnSandSettles.f k l0 l1 = some true
theorem laws_FnSandSettles.walk (P : laws_FnSandSettles.Pure) (a0 : Option Addr) (len0 cap0 : Nat) (z0 : List Int) (a1 : Option Addr) (len1 cap1 : Nat) (z1 : List Int) (w : World) (w0 : (a0 = none ∧ len0 = 0 ∧ cap0 = 0 ∧ z0 = []) ∨ ∃ x, a0 = some x ∧ len0 ≤ cap0 ∧ cap0 ≤ maxLen ∧ z0.length = cap0 ∧ (∀ i, i < z0.length → w.cell? (x.add i) = some (.int .u8 (z0.getD i 0))) ∧ ∀ n ∈ z0, (Lit.int .u8 n).wf = true) (y0 : len0 * 1 ≤ 140737488351232) (w1 : (a1 = none ∧ len1 = 0 ∧ cap1 = 0 ∧ z1 = []) ∨ ∃ x, a1 = some x ∧ len1 ≤ cap1 ∧ cap1 ≤ maxLen ∧ z1.length = cap1 ∧ (∀ i, i < z1.length → w.cell? (x.add i) = some (.int .u8 (z1.getD i 0))) ∧ ∀ n ∈ z1, (Lit.int .u8 n).wf = true) (y1 : len1 * 1 ≤ 140737488351232) :
    Calls Try.prog 12 #[.slice a0 len0 cap0, .slice a1 len1 cap1] w fun e w' => e = .returned (.bool true) ∧ Below w.heap.size w w' := by
  obtain ⟨l0, rfl, hr0, hm0, hw0, hc0⟩ := ReadsInt.ofRowC w0
  obtain ⟨l1, rfl, hr1, hm1, hw1, hc1⟩ := ReadsInt.ofRowC w1
  obtain ⟨k, h⟩ := P l0 l1 hm0 y0 hw0 hm1 y1 hw1
  refine (laws_FnSandSettles.calls k _ _ l0 _ _ l1 true w (Kd.C_of_reads (d := (0 : Int)) (h1 := fun _ => rfl) hr0) hc0 (Kd.C_of_reads (d := (0 : Int)) (h1 := fun _ => rfl) hr1) hc1 h).mono ?_
  rintro e w' ⟨rfl, hd⟩
  exact ⟨rfl, hd⟩
end Go.Proofs.Ytainmahlhhcklaa.G
namespace Go.Proofs.Ytainmahlhhcklaa.G
open Go.RowKit Go.Proofs.YtainmahlhhcklaaW.PrintWords Go.Proofs.YtainmahlhhcklaaW.PrintLast Go.Proofs.YtainmahlhhcklaaW.PrintMore
set_option linter.unusedVariables false
set_option linter.unusedSimpArgs false
theorem wrap_id {x : Int} (h1 : -9223372036854775808 ≤ x) (h2 : x ≤ 9223372036854775807) : wrap64 x = x := by unfold wrap64; omega
theorem wrap_next {i n : Nat} (h : i < n) (hn : n ≤ 4611686018427387904) : wrap64 ((i : Int) + 1) = ((i + 1 : Nat) : Int) := by rw [wrap_id (by omega) (by omega)]; rfl
theorem succ_of {d k : Nat} (h : d < k) : ∃ m, k = m + 1 := ⟨k - 1, by omega⟩
theorem rd_nat (l : List Int) (i : Nat) : rd l (i : Int) = l.getD i 0 := by unfold rd; rw [Int.toNat_natCast]
theorem take_succ_getD {l : List Int} {i : Nat} (h : i < l.length) : l.take (i + 1) = l.take i ++ [l.getD i 0] := by
  rw [List.take_succ_eq_append_getElem h, List.getD_eq_getElem?_getD, List.getElem?_eq_getElem h]; rfl
theorem drop_getD {l : List Int} {i : Nat} (h : i < l.length) : l.drop i = l.getD i 0 :: l.drop (i + 1) := by
  rw [List.drop_eq_getElem_cons h, List.getD_eq_getElem?_getD, List.getElem?_eq_getElem h]; rfl
theorem Ev.of_all {α : Type} {g : Nat → Option α} {r : α} (K : Nat) (h : ∀ k, K < k → g k = some r) : Ev g r := ⟨K + 1, fun k hk => h k (by omega)⟩
/-- A loop that counts up: its state at each count, what is left behind the last one. -/
theorem Ev.up {σ ρ : Type} (n : Nat) (S : Nat → σ) (L : Nat → σ → Int → Option ρ) (r : ρ)
    (hstep : ∀ i, i < n → Ev (fun k => L k (S (i + 1)) ((i + 1 : Nat) : Int)) r → Ev (fun k => L k (S i) (i : Int)) r)
    (hend : Ev (fun k => L k (S n) (n : Int)) r) : ∀ m, m ≤ n → Ev (fun k => L k (S m) (m : Int)) r := by
  intro m hm
  have key : ∀ d m, m + d = n → Ev (fun k => L k (S m) (m : Int)) r := by
    intro d
    induction d with
    | zero => intro m hd; obtain rfl : m = n := by omega
              exact hend
    | succ d ih => intro m hd; exact hstep m (by omega) (ih (m + 1) (by omega))
  exact key (n - m) m (by omega)
theorem Ev.up0 {σ ρ : Type} (n : Nat) (S : Nat → σ) (L : Nat → σ → Int → Option ρ) (r : ρ)
    (hstep : ∀ i, i < n → Ev (fun k => L k (S (i + 1)) ((i + 1 : Nat) : Int)) r → Ev (fun k => L k (S i) (i : Int)) r)
    (hend : Ev (fun k => L k (S n) (n : Int)) r) : Ev (fun k => L k (S 0) 0) r := Ev.up n S L r hstep hend 0 (Nat.zero_le _)
/-- A round that needs no rounds of others. -/
theorem Ev.one {α : Type} {g f : Nat → Option α} {r : α} (k : Ev f r) (h : ∀ k, g (k + 1) = f k) : Ev g r := Ev.step h k
theorem Ev.end_ {α : Type} {g : Nat → Option α} {r : α} (h : ∀ k, g (k + 1) = some r) : Ev g r := Ev.step h (Ev.now r)
/-- The first places of a list of known numbers. -/
theorem take_snoc {R : List Int} {i : Nat} (h : i < R.length) {x : Int} (hx : R.getD i 0 = x) : R.take i ++ [x] = R.take (i + 1) := by rw [take_succ_getD h, hx]
/-- Places that were written one by one: what is new, and what is still old. -/
def mixed (R o : List Int) (i : Nat) : List Int := R.take i ++ o.drop i
theorem mixed_zero (R o : List Int) : mixed R o 0 = o := by simp [mixed]
theorem mixed_full {R o : List Int} (h : R.length = o.length) : mixed R o o.length = R := by simp [mixed, ← h]
theorem length_mixed {R o : List Int} (h : R.length = o.length) (i : Nat) : (mixed R o i).length = o.length := by simp [mixed]; omega
theorem getD_mixed {R o : List Int} (h : R.length = o.length) {i : Nat} (hi : i < o.length) : (mixed R o i).getD i 0 = o.getD i 0 := by
  unfold mixed
  rw [List.getD_eq_getElem?_getD, List.getElem?_append_right (by simp; omega), List.length_take, Nat.min_eq_left (by omega), Nat.sub_self, List.getElem?_drop, List.getD_eq_getElem?_getD]; rfl
theorem set_mixed {R o : List Int} (h : R.length = o.length) {i : Nat} (hi : i < o.length) {x : Int} (hx : R.getD i 0 = x) : (mixed R o i).set i x = mixed R o (i + 1) := by
  unfold mixed
  rw [List.set_append_right _ _ (by simp; omega), List.length_take, Nat.min_eq_left (by omega), Nat.sub_self, drop_getD hi, List.set_cons_zero, take_succ_getD (l := R) (i := i) (by omega), hx]
  simp
theorem l1In_eq (a b c : Int) : spec_l1In.f a b c = some (decide (b ≤ a ∧ a ≤ c)) := by
  unfold spec_l1In.f
  split
  · rename_i h; congr 1; rw [Bool.eq_iff_iff]; simp; omega
  · rename_i h; congr 1; rw [Bool.eq_iff_iff]; simp; omega
theorem l1All_l0 (l : List Int) (lo hi : Int) (hn : l.length ≤ 4611686018427387904) : ∀ (d k i : Nat), i + d = l.length → d < k → spec_l1All.l0 k lo hi l (l.length : Int) i = some ((l.drop i).all fun x => decide (lo ≤ x ∧ x ≤ hi)) := by
  intro d
  induction d with
  | zero =>
    intro k i hd hk
    obtain ⟨k, rfl⟩ := succ_of hk
    rw [spec_l1All.l0, if_neg (by omega), List.drop_of_length_le (by omega)]; rfl
  | succ d ih =>
    intro k i hd hk
    obtain ⟨k, rfl⟩ := succ_of hk
    rw [spec_l1All.l0, if_pos (by omega), if_pos (by omega), if_pos (by omega), l1In_eq, Option.bind_some, rd_nat, wrap_next (n := l.length) (by omega) hn, ih k (i + 1) (by omega) (by omega), drop_getD (l := l) (i := i) (by omega), List.all_cons]
    split
    · rename_i h; rw [h, Bool.true_and]
    · rename_i h; rw [Bool.not_eq_true] at h; rw [h, Bool.false_and]
theorem l1All_ev (l : List Int) (lo hi : Int) (hn : l.length ≤ 4611686018427387904) : Ev (fun k => spec_l1All.f k l lo hi) (l.all fun x => decide (lo ≤ x ∧ x ≤ hi)) := by
  refine Ev.of_all l.length fun k hk => ?_
  have := l1All_l0 l lo hi hn l.length k 0 (by omega) hk
  simpa [spec_l1All.f] using this
end Go.Proofs.Ytainmahlhhcklaa.G
namespace SandT
theorem length_le_of_count_le : ∀ (l1 l2 : List Nat), (∀ a, l1.count a ≤ l2.count a) → l1.length ≤ l2.length
  | [], _, _ => by simp
  | a :: l1, l2, h => by
    have h1 : 0 < l2.count a := by have := h a; simp at this; omega
    have hm : a ∈ l2 := List.count_pos_iff.1 h1
    have := length_le_of_count_le l1 (l2.erase a) (fun b => by
      have hb := h b
      rw [List.count_cons] at hb
      rw [List.count_erase]
      by_cases e : a = b
      · subst e; simp at hb ⊢; omega
      · have e1 : (a == b) = false := by simpa using e
        simp [e1] at hb ⊢; omega)
    rw [List.length_erase_of_mem hm] at this
    have hp := List.length_pos_of_mem hm
    simp only [List.length_cons]
    omega
/-- Node i topples. -/
def topl (c : List Int) (i : Nat) : List Int := (c.map (· + 1)).set i (c.getD i 0 - c.length)
@[simp] theorem length_topl (c : List Int) (i : Nat) : (topl c i).length = c.length := by simp [topl]
theorem get_topl (c : List Int) (i j : Nat) (hj : j < c.length) : (topl c i).getD j 0 = if j = i then c.getD j 0 - c.length else c.getD j 0 + 1 := by
  unfold topl
  simp only [List.getD_eq_getElem?_getD, List.getElem?_set, List.getElem?_map, List.length_map]
  by_cases e : i = j
  · subst e; simp [hj]
  · simp only [e, if_false, Ne.symm e]
    rw [List.getElem?_eq_getElem hj]; simp
def run : List Int → List Nat → List Int
  | c, [] => c
  | c, i :: s => run (topl c i) s
@[simp] theorem length_run : ∀ (s : List Nat) (c : List Int), (run c s).length = c.length
  | [], _ => rfl
  | i :: s, c => by simp [run, length_run s]
theorem run_append : ∀ (s t : List Nat) (c : List Int), run c (s ++ t) = run (run c s) t
  | [], _, _ => rfl
  | i :: s, t, c => by simp [run, run_append s t]
theorem get_run : ∀ (s : List Nat) (c : List Int) (j : Nat), j < c.length → (run c s).getD j 0 = c.getD j 0 + s.length - (c.length + 1) * (s.count j : Int)
  | [], c, j, hj => by simp [run]
  | i :: s, c, j, hj => by
    rw [run, get_run s (topl c i) j (by simpa using hj), get_topl c i j hj, length_topl, List.count_cons, List.length_cons]
    by_cases e : j = i
    · subst e
      simp only [if_true, beq_self_eq_true]
      push_cast
      rw [Int.mul_add]
      omega
    · have e1 : (i == j) = false := by simpa using (Ne.symm e)
      simp only [e, if_false, e1, Bool.false_eq_true]
      push_cast
      simp
      omega
/-- Each toppling is of a node that may topple. -/
def Legal : List Int → List Nat → Prop
  | _, [] => True
  | c, i :: s => i < c.length ∧ (c.length : Int) ≤ c.getD i 0 ∧ Legal (topl c i) s
theorem legal_append : ∀ (s t : List Nat) (c : List Int), Legal c (s ++ t) ↔ Legal c s ∧ Legal (run c s) t
  | [], _, _ => by simp [Legal, run]
  | i :: s, t, c => by simp [Legal, run, legal_append s t, and_assoc]
def Stable (c : List Int) : Prop := ∀ j, j < c.length → c.getD j 0 < c.length
theorem legal_lt : ∀ (s : List Nat) (c : List Int), Legal c s → ∀ i ∈ s, i < c.length
  | [], _, _, i, h => by simp at h
  | k :: s, c, h, i, hi => by
    rcases List.mem_cons.1 hi with rfl | hi
    · exact h.1
    · simpa using legal_lt s _ h.2.2 i hi
/-- What is legal topples no node more often than what leads to stable sand. -/
theorem least (c : List Int) (t : List Nat) (ht : Stable (run c t)) : ∀ (s : List Nat), Legal c s → ∀ j, s.count j ≤ t.count j := by
  have key : ∀ (r s : List Nat), s = r.reverse → Legal c s → ∀ j, s.count j ≤ t.count j := by
    intro r
    induction r with
    | nil => intro s hs _ j; subst hs; simp
    | cons i r ih =>
      intro s hs hl j
      have hs' : s = r.reverse ++ [i] := by simpa using hs
      subst hs'
      rw [legal_append] at hl
      have h1 := ih r.reverse rfl hl.1
      rw [List.count_append]
      by_cases e : j = i
      · subst e
        have hlen := length_le_of_count_le _ _ h1
        have hj : j < c.length := by have := hl.2.1; simpa using this
        have hv := hl.2.2.1
        rw [length_run, get_run _ _ _ hj] at hv
        have hst := ht j (by simpa using hj)
        rw [length_run, get_run _ _ _ hj] at hst
        have h1j := h1 j
        simp only [List.count_cons_self, List.count_nil]
        rcases Nat.lt_or_ge (r.reverse.count j) (t.count j) with hlt | hge
        · omega
        · have heq : r.reverse.count j = t.count j := by omega
          rw [heq] at hv
          have : (r.reverse.length : Int) ≤ t.length := by omega
          omega
      · have e1 : (i == j) = false := by simpa using (Ne.symm e)
        have : [i].count j = 0 := by simp [List.count_cons, e1]
        have := h1 j
        omega
  intro s
  exact key s.reverse s (by simp)
theorem ext_getD {a b : List Int} (hl : a.length = b.length) (h : ∀ j, j < a.length → a.getD j 0 = b.getD j 0) : a = b := by
  apply List.ext_getElem hl
  intro i h1 h2
  have := h i h1
  rw [List.getD_eq_getElem?_getD, List.getD_eq_getElem?_getD, List.getElem?_eq_getElem h1, List.getElem?_eq_getElem h2] at this
  simpa using this
/-- Toppling ends alike in any order, each node as often. -/
theorem abelian {c : List Int} {s t : List Nat} (hs : Legal c s) (ht : Legal c t) (hs' : Stable (run c s)) (ht' : Stable (run c t)) : (∀ j, s.count j = t.count j) ∧ s.length = t.length ∧ run c s = run c t := by
  have h1 : ∀ j, s.count j = t.count j := fun j => Nat.le_antisymm (least c t ht' s hs j) (least c s hs' t ht j)
  have h2 : s.length = t.length := Nat.le_antisymm (length_le_of_count_le _ _ fun a => Nat.le_of_eq (h1 a)) (length_le_of_count_le _ _ fun a => Nat.le_of_eq (h1 a).symm)
  refine ⟨h1, h2, ext_getD (by simp) fun j hj => ?_⟩
  have hj' : j < c.length := by simpa using hj
  rw [get_run _ _ _ hj', get_run _ _ _ hj', h1 j, h2]
/-- The sum of two lists as long as the first one. -/
def plus (a b : List Int) : List Int := a.mapIdx fun i x => x + b.getD i 0
@[simp] theorem length_plus (a b : List Int) : (plus a b).length = a.length := by simp [plus]
theorem get_plus (a b : List Int) (j : Nat) (hj : j < a.length) : (plus a b).getD j 0 = a.getD j 0 + b.getD j 0 := by
  simp [plus, List.getD_eq_getElem?_getD, List.getElem?_mapIdx, List.getElem?_eq_getElem hj]
theorem plus_topl (a b : List Int) (i : Nat) : plus (topl a i) b = topl (plus a b) i := by
  apply ext_getD (by simp)
  intro j hj
  have hj' : j < a.length := by simpa using hj
  rw [get_plus _ _ _ (by simpa using hj'), get_topl _ _ _ hj', get_topl _ _ _ (by simpa using hj'), get_plus _ _ _ hj', length_plus]
  split <;> omega
theorem plus_run : ∀ (s : List Nat) (a b : List Int), plus (run a s) b = run (plus a b) s
  | [], _, _ => rfl
  | i :: s, a, b => by rw [run, run, plus_run s, plus_topl]
theorem legal_plus (b : List Int) (hb : ∀ j, 0 ≤ b.getD j 0) : ∀ (s : List Nat) (a : List Int), Legal a s → Legal (plus a b) s
  | [], _, _ => trivial
  | i :: s, a, h => by
    refine ⟨by simpa using h.1, ?_, ?_⟩
    · rw [length_plus, get_plus _ _ _ h.1]; have := hb i; have := h.2.1; omega
    · rw [← plus_topl]; exact legal_plus b hb s _ h.2.2
def first (c : List Int) : Option Nat := c.findIdx? fun x => decide ((c.length : Int) ≤ x)
theorem first_some {c : List Int} {i : Nat} (h : first c = some i) : i < c.length ∧ (c.length : Int) ≤ c.getD i 0 := by
  unfold first at h
  rw [List.findIdx?_eq_some_iff_getElem] at h
  obtain ⟨h1, h2, _⟩ := h
  refine ⟨h1, ?_⟩
  rw [List.getD_eq_getElem?_getD, List.getElem?_eq_getElem h1]
  simpa using h2
theorem first_none {c : List Int} (h : first c = none) : Stable c := by
  unfold first at h
  rw [List.findIdx?_eq_none_iff] at h
  intro j hj
  have := h c[j] (List.getElem_mem hj)
  rw [List.getD_eq_getElem?_getD, List.getElem?_eq_getElem hj]
  simpa using this
theorem first_of_stable {c : List Int} (h : Stable c) : first c = none := by
  cases e : first c with
  | none => rfl
  | some i => have := first_some e; have := h i this.1; omega
def settle : Nat → List Int → List Int × List Nat
  | 0, c => (c, [])
  | k + 1, c => match first c with
    | none => (c, [])
    | some i => ((settle k (topl c i)).1, i :: (settle k (topl c i)).2)
theorem settle_run : ∀ (k : Nat) (c : List Int), (settle k c).1 = run c (settle k c).2 ∧ Legal c (settle k c).2
  | 0, c => ⟨rfl, trivial⟩
  | k + 1, c => by
    unfold settle
    cases e : first c with
    | none => exact ⟨rfl, trivial⟩
    | some i => obtain ⟨h1, h2⟩ := settle_run k (topl c i); exact ⟨h1, (first_some e).1, (first_some e).2, h2⟩
theorem sum_map_one : ∀ (c : List Int), (c.map (· + 1)).sum = c.sum + c.length
  | [] => rfl
  | x :: c => by simp only [List.map_cons, List.sum_cons, sum_map_one c, List.length_cons]; push_cast; omega
theorem sum_set : ∀ (c : List Int) (i : Nat) (x : Int), i < c.length → (c.set i x).sum = c.sum - c.getD i 0 + x
  | [], i, x, h => by simp at h
  | y :: c, 0, x, h => by simp; omega
  | y :: c, i + 1, x, h => by simp only [List.set_cons_succ, List.sum_cons, sum_set c i x (by simpa using h), List.getD_cons_succ]; omega
theorem sum_topl (c : List Int) (i : Nat) (h : i < c.length) : (topl c i).sum = c.sum - 1 := by
  unfold topl
  rw [sum_set _ _ _ (by simpa using h), sum_map_one]
  rw [List.getD_eq_getElem?_getD, List.getD_eq_getElem?_getD, List.getElem?_map, List.getElem?_eq_getElem h]
  simp; omega
def Nonneg (c : List Int) : Prop := ∀ j, 0 ≤ c.getD j 0
theorem nn_topl {c : List Int} (h : Nonneg c) {i : Nat} (hi : (c.length : Int) ≤ c.getD i 0) : Nonneg (topl c i) := by
  intro j
  by_cases hj : j < c.length
  · rw [get_topl _ _ _ hj]; have := h j; split
    · subst_vars; omega
    · omega
  · rw [List.getD_eq_getElem?_getD, List.getElem?_eq_none (by simpa using hj)]; simp
theorem nn_sum : ∀ {c : List Int}, Nonneg c → 0 ≤ c.sum
  | [], _ => by simp
  | x :: c, h => by
    have h0 := h 0
    have := nn_sum (c := c) (fun j => by simpa using h (j + 1))
    simp at h0 ⊢; omega
theorem settle_stable : ∀ (k : Nat) (c : List Int), Nonneg c → c.sum < k → Stable (settle k c).1
  | 0, c, h, hk => by have := nn_sum h; omega
  | k + 1, c, h, hk => by
    unfold settle
    cases e : first c with
    | none => exact first_none e
    | some i =>
      have hi := first_some e
      exact settle_stable k _ (nn_topl h hi.2) (by rw [sum_topl _ _ hi.1]; omega)
/-- The stable sand, and the nodes in order. -/
def stab (c : List Int) : List Int × List Nat := settle (c.sum.toNat + 1) c
theorem stab_run (c : List Int) : (stab c).1 = run c (stab c).2 := (settle_run _ c).1
theorem stab_legal (c : List Int) : Legal c (stab c).2 := (settle_run _ c).2
theorem stab_stable {c : List Int} (h : Nonneg c) : Stable (stab c).1 := settle_stable _ c h (by have := nn_sum h; omega)
theorem settle_eq : ∀ (k k' : Nat) (c : List Int), Nonneg c → c.sum < k → c.sum < k' → settle k c = settle k' c
  | 0, _, c, h, hk, _ => by have := nn_sum h; omega
  | _, 0, c, h, _, hk => by have := nn_sum h; omega
  | k + 1, k' + 1, c, h, hk, hk' => by
    unfold settle
    cases e : first c with
    | none => rfl
    | some i =>
      have hi := first_some e
      have hs := sum_topl _ _ hi.1
      have := settle_eq k k' (topl c i) (nn_topl h hi.2) (by omega) (by omega)
      simp only [this]
theorem stab_step {c : List Int} (h : Nonneg c) {i : Nat} (e : first c = some i) : stab c = ((stab (topl c i)).1, i :: (stab (topl c i)).2) := by
  have hi := first_some e
  have hs := sum_topl _ _ hi.1
  have h0 := nn_sum h
  have h1 := nn_sum (nn_topl h hi.2)
  unfold stab
  rw [settle, e]
  simp only
  rw [settle_eq c.sum.toNat ((topl c i).sum.toNat + 1) (topl c i) (nn_topl h hi.2) (by omega) (by omega)]
theorem stab_end {c : List Int} (e : first c = none) : stab c = (c, []) := by unfold stab; rw [settle, e]
/-- What is stable and comes of c by legal topplings is what c settles in. -/
theorem stab_unique {c : List Int} (h : Nonneg c) {s : List Nat} (hl : Legal c s) (hs : Stable (run c s)) : (stab c).1 = run c s ∧ (stab c).2.length = s.length ∧ ∀ j, (stab c).2.count j = s.count j := by
  have hst := stab_stable h
  rw [stab_run] at hst ⊢
  obtain ⟨h1, h2, h3⟩ := abelian (stab_legal c) hl hst hs
  exact ⟨h3, h2, h1⟩
theorem stab_fix {c : List Int} (h : Stable c) : (stab c).1 = c := by rw [stab_end (first_of_stable h)]
theorem nn_run : ∀ {s : List Nat} {c : List Int}, Nonneg c → Legal c s → Nonneg (run c s)
  | [], _, h, _ => h
  | i :: s, c, h, hl => by
    rw [run]
    exact nn_run (nn_topl h hl.2.1) hl.2.2
theorem nn_stab {c : List Int} (h : Nonneg c) : Nonneg (stab c).1 := by rw [stab_run]; exact nn_run h (stab_legal c)
theorem nn_plus {a b : List Int} (ha : Nonneg a) (hb : Nonneg b) : Nonneg (plus a b) := by
  intro j
  by_cases hj : j < a.length
  · rw [get_plus _ _ _ hj]; have := ha j; have := hb j; omega
  · rw [List.getD_eq_getElem?_getD, List.getElem?_eq_none (by simpa using hj)]; simp
@[simp] theorem length_stab (c : List Int) : (stab c).1.length = c.length := by rw [stab_run]; simp
/-- Legal topplings first: it settles alike. -/
theorem stab_of_run {c : List Int} (h : Nonneg c) {s : List Nat} (hl : Legal c s) : (stab c).1 = (stab (run c s)).1 := by
  have hn := nn_run h hl
  have := stab_unique h (s := s ++ (stab (run c s)).2) ((legal_append _ _ _).2 ⟨hl, stab_legal _⟩) (by rw [run_append, ← stab_run]; exact stab_stable hn)
  rw [this.1, run_append, ← stab_run]
end SandT
