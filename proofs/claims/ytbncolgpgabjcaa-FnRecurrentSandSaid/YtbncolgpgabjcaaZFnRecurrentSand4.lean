/- The law FnRecurrentSand: part 4 of the printed functions and the facts on them that its row leans on (merged by this session's slim.py). -/
import Derived.Test.YtbncolgpgabjcaaZFnRecurrentSand3
namespace Go.Proofs.Ytbncolgpgabjcaa.G
open Go.RowKit Go.Proofs.YtbncolgpgabjcaaW.PrintWords Go.Proofs.YtbncolgpgabjcaaW.PrintLast Go.Proofs.YtbncolgpgabjcaaW.PrintMore
attribute [local go_sem] max2_int min2_int max_two min_two max_three min_three max_four min_four   -- for this text's walks alone
set_option linter.unusedVariables false
set_option linter.unusedSimpArgs false
/-! ### laws_FnRecurrentSand: function 3 -/
mutual
def laws_FnRecurrentSand.j0 : Nat → List Int → List Int → Bool → List Int → Bool → List Int → Bool → Option (Bool)
  | 0, _, _, _, _, _, _, _ => none
  | k + 1, x1, x5, x6, x10, x11, x14, x111 => if x111 = true then (some false) else ((spec_DrawSandOfParking.f k x1).bind fun t443 => ((impl_SandOfParking.f k t443).bind fun bt446 => ((spec_SandOfParking.f k t443).bind fun bt450 => (if (bt446.2 != bt450.2) = true then (laws_FnRecurrentSand.j1 k x5 x6 x10 x11 x14 t443 bt446.1 bt446.2 true) else ((laws_wSame.f k bt446.1 bt450.1).bind fun t454 => (laws_FnRecurrentSand.j1 k x5 x6 x10 x11 x14 t443 bt446.1 bt446.2 (!t454)))))))
def laws_FnRecurrentSand.j1 : Nat → List Int → Bool → List Int → Bool → List Int → List Int → List Int → Bool → Bool → Option (Bool)
  | 0, _, _, _, _, _, _, _, _, _ => none
  | k + 1, x5, x6, x10, x11, x14, x18, x19, x20, x132 => if x132 = true then (some false) else (if x20 = true then ((impl_ParkingOfSand.f k x19).bind fun bt455 => (if bt455.2 = true then ((laws_wSame.f k bt455.1 x18).bind fun t459 => (if t459 = true then (laws_FnRecurrentSand.j2 k x5 x6 x10 x11 x14) else (some false))) else (some false))) else (laws_FnRecurrentSand.j2 k x5 x6 x10 x11 x14))
def laws_FnRecurrentSand.j2 : Nat → List Int → Bool → List Int → Bool → List Int → Option (Bool)
  | 0, _, _, _, _, _ => none
  | k + 1, x5, x6, x10, x11, x14 => (impl_IsStable.f x5).bind fun bt460 => (if bt460.2 = true then (laws_FnRecurrentSand.j3 k x5 x6 x10 x11 x14 bt460.1) else (laws_FnRecurrentSand.j3 k x5 x6 x10 x11 x14 false))
def laws_FnRecurrentSand.j3 : Nat → List Int → Bool → List Int → Bool → List Int → Bool → Option (Bool)
  | 0, _, _, _, _, _, _ => none
  | k + 1, x5, x6, x10, x11, x14, x155 => if x155 = true then (laws_FnRecurrentSand.l0 k x5 x6 x10 x11 x14 ([] : List Int) x5 (x5.length : Int) 0) else (laws_FnRecurrentSand.j5 k x5 x10 x11 x14)
def laws_FnRecurrentSand.j5 : Nat → List Int → List Int → Bool → List Int → Option (Bool)
  | 0, _, _, _, _ => none
  | k + 1, x5, x10, x11, x14 => if x11 = true then ((impl_SandOfParking.f k x10).bind fun bt467 => (if bt467.2 = true then ((laws_wSame.f k bt467.1 x5).bind fun t471 => (if t471 = true then (laws_FnRecurrentSand.j6 k x14 ((x14.length : Int) != (x5.length : Int))) else (laws_FnRecurrentSand.j6 k x14 true))) else (laws_FnRecurrentSand.j6 k x14 true))) else (some true)
def laws_FnRecurrentSand.j6 : Nat → List Int → Bool → Option (Bool)
  | 0, _, _ => none
  | k + 1, x14, x196 => if x196 = true then (some false) else (laws_FnRecurrentSand.l1 k x14 x14 (x14.length : Int) 0)
def laws_FnRecurrentSand.l1 : Nat → List Int → List Int → Int → Int → Option (Bool)
  | 0, _, _, _, _ => none
  | k + 1, x14, x197, x198, x199 => if x199 < x198 then (if 0 ≤ x199 then (if x199 < (x197.length : Int) then (if x199 ≤ (x14.length : Int) then ((laws_wHas.f k (x14.take (x199 : Int).toNat) (rd x197 x199)).bind fun t477 => (if t477 = true then (some false) else (laws_FnRecurrentSand.l1 k x14 x197 x198 (wrap64 (x199 + 1))))) else (none)) else (none)) else (none)) else (some true)
def laws_FnRecurrentSand.l0 : Nat → List Int → Bool → List Int → Bool → List Int → List Int → List Int → Int → Int → Option (Bool)
  | 0, _, _, _, _, _, _, _, _, _ => none
  | k + 1, x5, x6, x10, x11, x14, x27, x156, x157, x158 => if x158 < x157 then (if 0 ≤ x158 then (if x158 < (x156.length : Int) then (if x27.length < 17592186044416 then (laws_FnRecurrentSand.l0 k x5 x6 x10 x11 x14 (x27 ++ [wrap64 ((wrap64 ((x5.length : Int) - 1)) - (rd x156 x158))]) x156 x157 (wrap64 (x158 + 1))) else (none)) else (none)) else (none)) else ((laws_wParking.f k x27).bind fun t466 => (if (x6 != t466) = true then (some false) else (laws_FnRecurrentSand.j5 k x5 x10 x11 x14)))
end
def laws_FnRecurrentSand.f (k : Nat) (l0 : List Int) (l1 : List Int) : Option (Bool) := (laws_big.f l0 l1).bind fun t417 => (if t417 = true then (some true) else ((spec_DrawIsRecurrent.f k l0).bind fun t418 => ((impl_IsRecurrent.f k t418).bind fun bt421 => ((spec_IsRecurrent.f k t418).bind fun bt423 => ((impl_ParkingOfSand.f k t418).bind fun bt425 => ((spec_ParkingOfSand.f k t418).bind fun bt429 => ((impl_FireOrder.f k t418).bind fun bt433 => ((spec_FireOrder.f k t418).bind fun bt437 => (if (bt421.2 != bt423.2) = true then (laws_FnRecurrentSand.j0 k l1 t418 bt421.1 bt425.1 bt425.2 bt433.1 true) else (if (bt421.1 != bt423.1) = true then (laws_FnRecurrentSand.j0 k l1 t418 bt421.1 bt425.1 bt425.2 bt433.1 true) else (if (bt425.2 != bt429.2) = true then (laws_FnRecurrentSand.j0 k l1 t418 bt421.1 bt425.1 bt425.2 bt433.1 true) else ((laws_wSame.f k bt425.1 bt429.1).bind fun t441 => (if t441 = true then (if (bt433.2 != bt437.2) = true then (laws_FnRecurrentSand.j0 k l1 t418 bt421.1 bt425.1 bt425.2 bt433.1 true) else ((laws_wSame.f k bt433.1 bt437.1).bind fun t442 => (if t442 = true then (if bt421.2 = true then (if (bt425.2 != bt421.1) = true then (laws_FnRecurrentSand.j0 k l1 t418 bt421.1 bt425.1 bt425.2 bt433.1 true) else (laws_FnRecurrentSand.j0 k l1 t418 bt421.1 bt425.1 bt425.2 bt433.1 (bt433.2 != bt425.2))) else (if (bt425.2 != false) = true then (laws_FnRecurrentSand.j0 k l1 t418 bt421.1 bt425.1 bt425.2 bt433.1 true) else (laws_FnRecurrentSand.j0 k l1 t418 bt421.1 bt425.1 bt425.2 bt433.1 (bt433.2 != bt425.2)))) else (laws_FnRecurrentSand.j0 k l1 t418 bt421.1 bt425.1 bt425.2 bt433.1 true)))) else (laws_FnRecurrentSand.j0 k l1 t418 bt421.1 bt425.1 bt425.2 bt433.1 true))))))))))))))
theorem laws_FnRecurrentSand.mono_l : ∀ k, (∀ y0 y1 y2 y3 y4 y5 y6, LeO (laws_FnRecurrentSand.j0 k y0 y1 y2 y3 y4 y5 y6) (laws_FnRecurrentSand.j0 (k + 1) y0 y1 y2 y3 y4 y5 y6)) ∧ (∀ y0 y1 y2 y3 y4 y5 y6 y7 y8, LeO (laws_FnRecurrentSand.j1 k y0 y1 y2 y3 y4 y5 y6 y7 y8) (laws_FnRecurrentSand.j1 (k + 1) y0 y1 y2 y3 y4 y5 y6 y7 y8)) ∧ (∀ y0 y1 y2 y3 y4, LeO (laws_FnRecurrentSand.j2 k y0 y1 y2 y3 y4) (laws_FnRecurrentSand.j2 (k + 1) y0 y1 y2 y3 y4)) ∧ (∀ y0 y1 y2 y3 y4 y5, LeO (laws_FnRecurrentSand.j3 k y0 y1 y2 y3 y4 y5) (laws_FnRecurrentSand.j3 (k + 1) y0 y1 y2 y3 y4 y5)) ∧ (∀ y0 y1 y2 y3, LeO (laws_FnRecurrentSand.j5 k y0 y1 y2 y3) (laws_FnRecurrentSand.j5 (k + 1) y0 y1 y2 y3)) ∧ (∀ y0 y1, LeO (laws_FnRecurrentSand.j6 k y0 y1) (laws_FnRecurrentSand.j6 (k + 1) y0 y1)) ∧ (∀ y0 y1 y2 y3, LeO (laws_FnRecurrentSand.l1 k y0 y1 y2 y3) (laws_FnRecurrentSand.l1 (k + 1) y0 y1 y2 y3)) ∧ (∀ y0 y1 y2 y3 y4 y5 y6 y7 y8, LeO (laws_FnRecurrentSand.l0 k y0 y1 y2 y3 y4 y5 y6 y7 y8) (laws_FnRecurrentSand.l0 (k + 1) y0 y1 y2 y3 y4 y5 y6 y7 y8))
  | 0 => ⟨fun _ _ _ _ _ _ _ r h => by simp [laws_FnRecurrentSand.j0] at h, fun _ _ _ _ _ _ _ _ _ r h => by simp [laws_FnRecurrentSand.j1] at h, fun _ _ _ _ _ r h => by simp [laws_FnRecurrentSand.j2] at h, fun _ _ _ _ _ _ r h => by simp [laws_FnRecurrentSand.j3] at h, fun _ _ _ _ r h => by simp [laws_FnRecurrentSand.j5] at h, fun _ _ r h => by simp [laws_FnRecurrentSand.j6] at h, fun _ _ _ _ r h => by simp [laws_FnRecurrentSand.l1] at h, fun _ _ _ _ _ _ _ _ _ r h => by simp [laws_FnRecurrentSand.l0] at h⟩
  | k + 1 => by
    obtain ⟨ih0, ih1, ih2, ih3, ih4, ih5, ih6, ih7⟩ := laws_FnRecurrentSand.mono_l k
    refine ⟨?_, ?_, ?_, ?_, ?_, ?_, ?_, ?_⟩
    · intro y0 y1 y2 y3 y4 y5 y6
      unfold laws_FnRecurrentSand.j0
      repeat' first
      | (with_reducible exact ih0 _ _ _ _ _ _ _)
      | (with_reducible exact ih1 _ _ _ _ _ _ _ _ _)
      | (with_reducible exact ih2 _ _ _ _ _)
      | (with_reducible exact ih3 _ _ _ _ _ _)
      | (with_reducible exact ih4 _ _ _ _)
      | (with_reducible exact ih5 _ _)
      | (with_reducible exact ih6 _ _ _ _)
      | (with_reducible exact ih7 _ _ _ _ _ _ _ _ _)
      | (with_reducible exact impl_FireOrder.mono _ _)
      | (with_reducible exact impl_IsRecurrent.mono _ _)
      | (with_reducible exact impl_ParkingOfSand.mono _ _)
      | (with_reducible exact impl_SandOfParking.mono _ _)
      | (with_reducible exact laws_wHas.mono _ _ _)
      | (with_reducible exact laws_wParking.mono _ _)
      | (with_reducible exact laws_wSame.mono _ _ _)
      | (with_reducible exact spec_DrawIsRecurrent.mono _ _)
      | (with_reducible exact spec_DrawSandOfParking.mono _ _)
      | (with_reducible exact spec_FireOrder.mono _ _)
      | (with_reducible exact spec_IsRecurrent.mono _ _)
      | (with_reducible exact spec_ParkingOfSand.mono _ _)
      | (with_reducible exact spec_SandOfParking.mono _ _)
      | (with_reducible exact LeO.refl _)
      | (with_reducible exact LeO.none _)
      | (with_reducible refine LeO.ite ?_ ?_)
      | (with_reducible refine LeO.bind ?_ (fun _ => ?_))
      | exact ih0 _ _ _ _ _ _ _
      | exact ih1 _ _ _ _ _ _ _ _ _
      | exact ih2 _ _ _ _ _
      | exact ih3 _ _ _ _ _ _
      | exact ih4 _ _ _ _
      | exact ih5 _ _
      | exact ih6 _ _ _ _
      | exact ih7 _ _ _ _ _ _ _ _ _
      | exact impl_FireOrder.mono _ _
      | exact impl_IsRecurrent.mono _ _
      | exact impl_ParkingOfSand.mono _ _
      | exact impl_SandOfParking.mono _ _
      | exact laws_wHas.mono _ _ _
      | exact laws_wParking.mono _ _
      | exact laws_wSame.mono _ _ _
      | exact spec_DrawIsRecurrent.mono _ _
      | exact spec_DrawSandOfParking.mono _ _
      | exact spec_FireOrder.mono _ _
      | exact spec_IsRecurrent.mono _ _
      | exact spec_ParkingOfSand.mono _ _
      | exact spec_SandOfParking.mono _ _
      | exact LeO.none _
      | refine LeO.ite ?_ ?_
      | refine LeO.bind ?_ (fun _ => ?_)
    · intro y0 y1 y2 y3 y4 y5 y6 y7 y8
      unfold laws_FnRecurrentSand.j1
      repeat' first
      | (with_reducible exact ih0 _ _ _ _ _ _ _)
      | (with_reducible exact ih1 _ _ _ _ _ _ _ _ _)
      | (with_reducible exact ih2 _ _ _ _ _)
      | (with_reducible exact ih3 _ _ _ _ _ _)
      | (with_reducible exact ih4 _ _ _ _)
      | (with_reducible exact ih5 _ _)
      | (with_reducible exact ih6 _ _ _ _)
      | (with_reducible exact ih7 _ _ _ _ _ _ _ _ _)
      | (with_reducible exact impl_FireOrder.mono _ _)
      | (with_reducible exact impl_IsRecurrent.mono _ _)
      | (with_reducible exact impl_ParkingOfSand.mono _ _)
      | (with_reducible exact impl_SandOfParking.mono _ _)
      | (with_reducible exact laws_wHas.mono _ _ _)
      | (with_reducible exact laws_wParking.mono _ _)
      | (with_reducible exact laws_wSame.mono _ _ _)
      | (with_reducible exact spec_DrawIsRecurrent.mono _ _)
      | (with_reducible exact spec_DrawSandOfParking.mono _ _)
      | (with_reducible exact spec_FireOrder.mono _ _)
      | (with_reducible exact spec_IsRecurrent.mono _ _)
      | (with_reducible exact spec_ParkingOfSand.mono _ _)
      | (with_reducible exact spec_SandOfParking.mono _ _)
      | (with_reducible exact LeO.refl _)
      | (with_reducible exact LeO.none _)
      | (with_reducible refine LeO.ite ?_ ?_)
      | (with_reducible refine LeO.bind ?_ (fun _ => ?_))
      | exact ih0 _ _ _ _ _ _ _
      | exact ih1 _ _ _ _ _ _ _ _ _
      | exact ih2 _ _ _ _ _
      | exact ih3 _ _ _ _ _ _
      | exact ih4 _ _ _ _
      | exact ih5 _ _
      | exact ih6 _ _ _ _
      | exact ih7 _ _ _ _ _ _ _ _ _
      | exact impl_FireOrder.mono _ _
      | exact impl_IsRecurrent.mono _ _
      | exact impl_ParkingOfSand.mono _ _
      | exact impl_SandOfParking.mono _ _
      | exact laws_wHas.mono _ _ _
      | exact laws_wParking.mono _ _
      | exact laws_wSame.mono _ _ _
      | exact spec_DrawIsRecurrent.mono _ _
      | exact spec_DrawSandOfParking.mono _ _
      | exact spec_FireOrder.mono _ _
      | exact spec_IsRecurrent.mono _ _
      | exact spec_ParkingOfSand.mono _ _
      | exact spec_SandOfParking.mono _ _
      | exact LeO.none _
      | refine LeO.ite ?_ ?_
      | refine LeO.bind ?_ (fun _ => ?_)
    · intro y0 y1 y2 y3 y4
      unfold laws_FnRecurrentSand.j2
      repeat' first
      | (with_reducible exact ih0 _ _ _ _ _ _ _)
      | (with_reducible exact ih1 _ _ _ _ _ _ _ _ _)
      | (with_reducible exact ih2 _ _ _ _ _)
      | (with_reducible exact ih3 _ _ _ _ _ _)
      | (with_reducible exact ih4 _ _ _ _)
      | (with_reducible exact ih5 _ _)
      | (with_reducible exact ih6 _ _ _ _)
      | (with_reducible exact ih7 _ _ _ _ _ _ _ _ _)
      | (with_reducible exact impl_FireOrder.mono _ _)
      | (with_reducible exact impl_IsRecurrent.mono _ _)
      | (with_reducible exact impl_ParkingOfSand.mono _ _)
      | (with_reducible exact impl_SandOfParking.mono _ _)
      | (with_reducible exact laws_wHas.mono _ _ _)
      | (with_reducible exact laws_wParking.mono _ _)
      | (with_reducible exact laws_wSame.mono _ _ _)
      | (with_reducible exact spec_DrawIsRecurrent.mono _ _)
      | (with_reducible exact spec_DrawSandOfParking.mono _ _)
      | (with_reducible exact spec_FireOrder.mono _ _)
      | (with_reducible exact spec_IsRecurrent.mono _ _)
      | (with_reducible exact spec_ParkingOfSand.mono _ _)
      | (with_reducible exact spec_SandOfParking.mono _ _)
      | (with_reducible exact LeO.refl _)
      | (with_reducible exact LeO.none _)
      | (with_reducible refine LeO.ite ?_ ?_)
      | (with_reducible refine LeO.bind ?_ (fun _ => ?_))
      | exact ih0 _ _ _ _ _ _ _
      | exact ih1 _ _ _ _ _ _ _ _ _
      | exact ih2 _ _ _ _ _
      | exact ih3 _ _ _ _ _ _
      | exact ih4 _ _ _ _
      | exact ih5 _ _
      | exact ih6 _ _ _ _
      | exact ih7 _ _ _ _ _ _ _ _ _
      | exact impl_FireOrder.mono _ _
      | exact impl_IsRecurrent.mono _ _
      | exact impl_ParkingOfSand.mono _ _
      | exact impl_SandOfParking.mono _ _
      | exact laws_wHas.mono _ _ _
      | exact laws_wParking.mono _ _
      | exact laws_wSame.mono _ _ _
      | exact spec_DrawIsRecurrent.mono _ _
      | exact spec_DrawSandOfParking.mono _ _
      | exact spec_FireOrder.mono _ _
      | exact spec_IsRecurrent.mono _ _
      | exact spec_ParkingOfSand.mono _ _
      | exact spec_SandOfParking.mono _ _
      | exact LeO.none _
      | refine LeO.ite ?_ ?_
      | refine LeO.bind ?_ (fun _ => ?_)
    · intro y0 y1 y2 y3 y4 y5
      unfold laws_FnRecurrentSand.j3
      repeat' first
      | (with_reducible exact ih0 _ _ _ _ _ _ _)
      | (with_reducible exact ih1 _ _ _ _ _ _ _ _ _)
      | (with_reducible exact ih2 _ _ _ _ _)
      | (with_reducible exact ih3 _ _ _ _ _ _)
      | (with_reducible exact ih4 _ _ _ _)
      | (with_reducible exact ih5 _ _)
      | (with_reducible exact ih6 _ _ _ _)
      | (with_reducible exact ih7 _ _ _ _ _ _ _ _ _)
      | (with_reducible exact impl_FireOrder.mono _ _)
      | (with_reducible exact impl_IsRecurrent.mono _ _)
      | (with_reducible exact impl_ParkingOfSand.mono _ _)
      | (with_reducible exact impl_SandOfParking.mono _ _)
      | (with_reducible exact laws_wHas.mono _ _ _)
      | (with_reducible exact laws_wParking.mono _ _)
      | (with_reducible exact laws_wSame.mono _ _ _)
      | (with_reducible exact spec_DrawIsRecurrent.mono _ _)
      | (with_reducible exact spec_DrawSandOfParking.mono _ _)
      | (with_reducible exact spec_FireOrder.mono _ _)
      | (with_reducible exact spec_IsRecurrent.mono _ _)
      | (with_reducible exact spec_ParkingOfSand.mono _ _)
      | (with_reducible exact spec_SandOfParking.mono _ _)
      | (with_reducible exact LeO.refl _)
      | (with_reducible exact LeO.none _)
      | (with_reducible refine LeO.ite ?_ ?_)
      | (with_reducible refine LeO.bind ?_ (fun _ => ?_))
      | exact ih0 _ _ _ _ _ _ _
      | exact ih1 _ _ _ _ _ _ _ _ _
      | exact ih2 _ _ _ _ _
      | exact ih3 _ _ _ _ _ _
      | exact ih4 _ _ _ _
      | exact ih5 _ _
      | exact ih6 _ _ _ _
      | exact ih7 _ _ _ _ _ _ _ _ _
      | exact impl_FireOrder.mono _ _
      | exact impl_IsRecurrent.mono _ _
      | exact impl_ParkingOfSand.mono _ _
      | exact impl_SandOfParking.mono _ _
      | exact laws_wHas.mono _ _ _
      | exact laws_wParking.mono _ _
      | exact laws_wSame.mono _ _ _
      | exact spec_DrawIsRecurrent.mono _ _
      | exact spec_DrawSandOfParking.mono _ _
      | exact spec_FireOrder.mono _ _
      | exact spec_IsRecurrent.mono _ _
      | exact spec_ParkingOfSand.mono _ _
      | exact spec_SandOfParking.mono _ _
      | exact LeO.none _
      | refine LeO.ite ?_ ?_
      | refine LeO.bind ?_ (fun _ => ?_)
    · intro y0 y1 y2 y3
      unfold laws_FnRecurrentSand.j5
      repeat' first
      | (with_reducible exact ih0 _ _ _ _ _ _ _)
      | (with_reducible exact ih1 _ _ _ _ _ _ _ _ _)
      | (with_reducible exact ih2 _ _ _ _ _)
      | (with_reducible exact ih3 _ _ _ _ _ _)
      | (with_reducible exact ih4 _ _ _ _)
      | (with_reducible exact ih5 _ _)
      | (with_reducible exact ih6 _ _ _ _)
      | (with_reducible exact ih7 _ _ _ _ _ _ _ _ _)
      | (with_reducible exact impl_FireOrder.mono _ _)
      | (with_reducible exact impl_IsRecurrent.mono _ _)
      | (with_reducible exact impl_ParkingOfSand.mono _ _)
      | (with_reducible exact impl_SandOfParking.mono _ _)
      | (with_reducible exact laws_wHas.mono _ _ _)
      | (with_reducible exact laws_wParking.mono _ _)
      | (with_reducible exact laws_wSame.mono _ _ _)
      | (with_reducible exact spec_DrawIsRecurrent.mono _ _)
      | (with_reducible exact spec_DrawSandOfParking.mono _ _)
      | (with_reducible exact spec_FireOrder.mono _ _)
      | (with_reducible exact spec_IsRecurrent.mono _ _)
      | (with_reducible exact spec_ParkingOfSand.mono _ _)
      | (with_reducible exact spec_SandOfParking.mono _ _)
      | (with_reducible exact LeO.refl _)
      | (with_reducible exact LeO.none _)
      | (with_reducible refine LeO.ite ?_ ?_)
      | (with_reducible refine LeO.bind ?_ (fun _ => ?_))
      | exact ih0 _ _ _ _ _ _ _
      | exact ih1 _ _ _ _ _ _ _ _ _
      | exact ih2 _ _ _ _ _
      | exact ih3 _ _ _ _ _ _
      | exact ih4 _ _ _ _
      | exact ih5 _ _
      | exact ih6 _ _ _ _
      | exact ih7 _ _ _ _ _ _ _ _ _
      | exact impl_FireOrder.mono _ _
      | exact impl_IsRecurrent.mono _ _
      | exact impl_ParkingOfSand.mono _ _
      | exact impl_SandOfParking.mono _ _
      | exact laws_wHas.mono _ _ _
      | exact laws_wParking.mono _ _
      | exact laws_wSame.mono _ _ _
      | exact spec_DrawIsRecurrent.mono _ _
      | exact spec_DrawSandOfParking.mono _ _
      | exact spec_FireOrder.mono _ _
      | exact spec_IsRecurrent.mono _ _
      | exact spec_ParkingOfSand.mono _ _
      | exact spec_SandOfParking.mono _ _
      | exact LeO.none _
      | refine LeO.ite ?_ ?_
      | refine LeO.bind ?_ (fun _ => ?_)
    · intro y0 y1
      unfold laws_FnRecurrentSand.j6
      repeat' first
      | (with_reducible exact ih0 _ _ _ _ _ _ _)
      | (with_reducible exact ih1 _ _ _ _ _ _ _ _ _)
      | (with_reducible exact ih2 _ _ _ _ _)
      | (with_reducible exact ih3 _ _ _ _ _ _)
      | (with_reducible exact ih4 _ _ _ _)
      | (with_reducible exact ih5 _ _)
      | (with_reducible exact ih6 _ _ _ _)
      | (with_reducible exact ih7 _ _ _ _ _ _ _ _ _)
      | (with_reducible exact impl_FireOrder.mono _ _)
      | (with_reducible exact impl_IsRecurrent.mono _ _)
      | (with_reducible exact impl_ParkingOfSand.mono _ _)
      | (with_reducible exact impl_SandOfParking.mono _ _)
      | (with_reducible exact laws_wHas.mono _ _ _)
      | (with_reducible exact laws_wParking.mono _ _)
      | (with_reducible exact laws_wSame.mono _ _ _)
      | (with_reducible exact spec_DrawIsRecurrent.mono _ _)
      | (with_reducible exact spec_DrawSandOfParking.mono _ _)
      | (with_reducible exact spec_FireOrder.mono _ _)
      | (with_reducible exact spec_IsRecurrent.mono _ _)
      | (with_reducible exact spec_ParkingOfSand.mono _ _)
      | (with_reducible exact spec_SandOfParking.mono _ _)
      | (with_reducible exact LeO.refl _)
      | (with_reducible exact LeO.none _)
      | (with_reducible refine LeO.ite ?_ ?_)
      | (with_reducible refine LeO.bind ?_ (fun _ => ?_))
      | exact ih0 _ _ _ _ _ _ _
      | exact ih1 _ _ _ _ _ _ _ _ _
      | exact ih2 _ _ _ _ _
      | exact ih3 _ _ _ _ _ _
      | exact ih4 _ _ _ _
      | exact ih5 _ _
      | exact ih6 _ _ _ _
      | exact ih7 _ _ _ _ _ _ _ _ _
      | exact impl_FireOrder.mono _ _
      | exact impl_IsRecurrent.mono _ _
      | exact impl_ParkingOfSand.mono _ _
      | exact impl_SandOfParking.mono _ _
      | exact laws_wHas.mono _ _ _
      | exact laws_wParking.mono _ _
      | exact laws_wSame.mono _ _ _
      | exact spec_DrawIsRecurrent.mono _ _
      | exact spec_DrawSandOfParking.mono _ _
      | exact spec_FireOrder.mono _ _
      | exact spec_IsRecurrent.mono _ _
      | exact spec_ParkingOfSand.mono _ _
      | exact spec_SandOfParking.mono _ _
      | exact LeO.none _
      | refine LeO.ite ?_ ?_
      | refine LeO.bind ?_ (fun _ => ?_)
    · intro y0 y1 y2 y3
      unfold laws_FnRecurrentSand.l1
      repeat' first
      | (with_reducible exact ih0 _ _ _ _ _ _ _)
      | (with_reducible exact ih1 _ _ _ _ _ _ _ _ _)
      | (with_reducible exact ih2 _ _ _ _ _)
      | (with_reducible exact ih3 _ _ _ _ _ _)
      | (with_reducible exact ih4 _ _ _ _)
      | (with_reducible exact ih5 _ _)
      | (with_reducible exact ih6 _ _ _ _)
      | (with_reducible exact ih7 _ _ _ _ _ _ _ _ _)
      | (with_reducible exact impl_FireOrder.mono _ _)
      | (with_reducible exact impl_IsRecurrent.mono _ _)
      | (with_reducible exact impl_ParkingOfSand.mono _ _)
      | (with_reducible exact impl_SandOfParking.mono _ _)
      | (with_reducible exact laws_wHas.mono _ _ _)
      | (with_reducible exact laws_wParking.mono _ _)
      | (with_reducible exact laws_wSame.mono _ _ _)
      | (with_reducible exact spec_DrawIsRecurrent.mono _ _)
      | (with_reducible exact spec_DrawSandOfParking.mono _ _)
      | (with_reducible exact spec_FireOrder.mono _ _)
      | (with_reducible exact spec_IsRecurrent.mono _ _)
      | (with_reducible exact spec_ParkingOfSand.mono _ _)
      | (with_reducible exact spec_SandOfParking.mono _ _)
      | (with_reducible exact LeO.refl _)
      | (with_reducible exact LeO.none _)
      | (with_reducible refine LeO.ite ?_ ?_)
      | (with_reducible refine LeO.bind ?_ (fun _ => ?_))
      | exact ih0 _ _ _ _ _ _ _
      | exact ih1 _ _ _ _ _ _ _ _ _
      | exact ih2 _ _ _ _ _
      | exact ih3 _ _ _ _ _ _
      | exact ih4 _ _ _ _
      | exact ih5 _ _
      | exact ih6 _ _ _ _
      | exact ih7 _ _ _ _ _ _ _ _ _
      | exact impl_FireOrder.mono _ _
      | exact impl_IsRecurrent.mono _ _
      | exact impl_ParkingOfSand.mono _ _
      | exact impl_SandOfParking.mono _ _
      | exact laws_wHas.mono _ _ _
      | exact laws_wParking.mono _ _
      | exact laws_wSame.mono _ _ _
      | exact spec_DrawIsRecurrent.mono _ _
      | exact spec_DrawSandOfParking.mono _ _
      | exact spec_FireOrder.mono _ _
      | exact spec_IsRecurrent.mono _ _
      | exact spec_ParkingOfSand.mono _ _
      | exact spec_SandOfParking.mono _ _
      | exact LeO.none _
      | refine LeO.ite ?_ ?_
      | refine LeO.bind ?_ (fun _ => ?_)
    · intro y0 y1 y2 y3 y4 y5 y6 y7 y8
      unfold laws_FnRecurrentSand.l0
      repeat' first
      | (with_reducible exact ih0 _ _ _ _ _ _ _)
      | (with_reducible exact ih1 _ _ _ _ _ _ _ _ _)
      | (with_reducible exact ih2 _ _ _ _ _)
      | (with_reducible exact ih3 _ _ _ _ _ _)
      | (with_reducible exact ih4 _ _ _ _)
      | (with_reducible exact ih5 _ _)
      | (with_reducible exact ih6 _ _ _ _)
      | (with_reducible exact ih7 _ _ _ _ _ _ _ _ _)
      | (with_reducible exact impl_FireOrder.mono _ _)
      | (with_reducible exact impl_IsRecurrent.mono _ _)
      | (with_reducible exact impl_ParkingOfSand.mono _ _)
      | (with_reducible exact impl_SandOfParking.mono _ _)
      | (with_reducible exact laws_wHas.mono _ _ _)
      | (with_reducible exact laws_wParking.mono _ _)
      | (with_reducible exact laws_wSame.mono _ _ _)
      | (with_reducible exact spec_DrawIsRecurrent.mono _ _)
      | (with_reducible exact spec_DrawSandOfParking.mono _ _)
      | (with_reducible exact spec_FireOrder.mono _ _)
      | (with_reducible exact spec_IsRecurrent.mono _ _)
      | (with_reducible exact spec_ParkingOfSand.mono _ _)
      | (with_reducible exact spec_SandOfParking.mono _ _)
      | (with_reducible exact LeO.refl _)
      | (with_reducible exact LeO.none _)
      | (with_reducible refine LeO.ite ?_ ?_)
      | (with_reducible refine LeO.bind ?_ (fun _ => ?_))
      | exact ih0 _ _ _ _ _ _ _
      | exact ih1 _ _ _ _ _ _ _ _ _
      | exact ih2 _ _ _ _ _
      | exact ih3 _ _ _ _ _ _
      | exact ih4 _ _ _ _
      | exact ih5 _ _
      | exact ih6 _ _ _ _
      | exact ih7 _ _ _ _ _ _ _ _ _
      | exact impl_FireOrder.mono _ _
      | exact impl_IsRecurrent.mono _ _
      | exact impl_ParkingOfSand.mono _ _
      | exact impl_SandOfParking.mono _ _
      | exact laws_wHas.mono _ _ _
      | exact laws_wParking.mono _ _
      | exact laws_wSame.mono _ _ _
      | exact spec_DrawIsRecurrent.mono _ _
      | exact spec_DrawSandOfParking.mono _ _
      | exact spec_FireOrder.mono _ _
      | exact spec_IsRecurrent.mono _ _
      | exact spec_ParkingOfSand.mono _ _
      | exact spec_SandOfParking.mono _ _
      | exact LeO.none _
      | refine LeO.ite ?_ ?_
      | refine LeO.bind ?_ (fun _ => ?_)
theorem laws_FnRecurrentSand.mono : ∀ a0 a1 k, LeO (laws_FnRecurrentSand.f k a0 a1) (laws_FnRecurrentSand.f (k + 1) a0 a1) := by
  intro a0 a1 k
  obtain ⟨ih0, ih1, ih2, ih3, ih4, ih5, ih6, ih7⟩ := laws_FnRecurrentSand.mono_l k
  unfold laws_FnRecurrentSand.f
  repeat' first
      | (with_reducible exact ih0 _ _ _ _ _ _ _)
      | (with_reducible exact ih1 _ _ _ _ _ _ _ _ _)
      | (with_reducible exact ih2 _ _ _ _ _)
      | (with_reducible exact ih3 _ _ _ _ _ _)
      | (with_reducible exact ih4 _ _ _ _)
      | (with_reducible exact ih5 _ _)
      | (with_reducible exact ih6 _ _ _ _)
      | (with_reducible exact ih7 _ _ _ _ _ _ _ _ _)
      | (with_reducible exact impl_FireOrder.mono _ _)
      | (with_reducible exact impl_IsRecurrent.mono _ _)
      | (with_reducible exact impl_ParkingOfSand.mono _ _)
      | (with_reducible exact impl_SandOfParking.mono _ _)
      | (with_reducible exact laws_wHas.mono _ _ _)
      | (with_reducible exact laws_wParking.mono _ _)
      | (with_reducible exact laws_wSame.mono _ _ _)
      | (with_reducible exact spec_DrawIsRecurrent.mono _ _)
      | (with_reducible exact spec_DrawSandOfParking.mono _ _)
      | (with_reducible exact spec_FireOrder.mono _ _)
      | (with_reducible exact spec_IsRecurrent.mono _ _)
      | (with_reducible exact spec_ParkingOfSand.mono _ _)
      | (with_reducible exact spec_SandOfParking.mono _ _)
      | (with_reducible exact LeO.refl _)
      | (with_reducible exact LeO.none _)
      | (with_reducible refine LeO.ite ?_ ?_)
      | (with_reducible refine LeO.bind ?_ (fun _ => ?_))
      | exact ih0 _ _ _ _ _ _ _
      | exact ih1 _ _ _ _ _ _ _ _ _
      | exact ih2 _ _ _ _ _
      | exact ih3 _ _ _ _ _ _
      | exact ih4 _ _ _ _
      | exact ih5 _ _
      | exact ih6 _ _ _ _
      | exact ih7 _ _ _ _ _ _ _ _ _
      | exact impl_FireOrder.mono _ _
      | exact impl_IsRecurrent.mono _ _
      | exact impl_ParkingOfSand.mono _ _
      | exact impl_SandOfParking.mono _ _
      | exact laws_wHas.mono _ _ _
      | exact laws_wParking.mono _ _
      | exact laws_wSame.mono _ _ _
      | exact spec_DrawIsRecurrent.mono _ _
      | exact spec_DrawSandOfParking.mono _ _
      | exact spec_FireOrder.mono _ _
      | exact spec_IsRecurrent.mono _ _
      | exact spec_ParkingOfSand.mono _ _
      | exact spec_SandOfParking.mono _ _
      | exact LeO.none _
      | refine LeO.ite ?_ ?_
      | refine LeO.bind ?_ (fun _ => ?_)
set_option maxHeartbeats 8000000 in
set_option maxRecDepth 100000 in
theorem laws_FnRecurrentSand.calls (k : Nat) (A0 : Option Addr) (c0 : Nat) (l0 : List Int) (A1 : Option Addr) (c1 : Nat) (l1 : List Int) (r : Bool) (w : World) (hr0 : Kd.C (Kd.int .u8) w A0 l0.length l0) (hc0 : l0.length ≤ c0) (hr1 : Kd.C (Kd.int .u8) w A1 l1.length l1) (hc1 : l1.length ≤ c1) (h : laws_FnRecurrentSand.f k l0 l1 = some r) :
    Calls Try.prog 3 #[.slice A0 l0.length c0, .slice A1 l1.length c1] w fun e w' => e = .returned (.bool r) ∧ Below w.heap.size w w' := by
  have HR0 := Aside0.mk hr0
  have HC0 := Aside0.mk hc0
  clear hr0 hc0
  have HR1 := Aside0.mk hr1
  have HC1 := Aside0.mk hc1
  clear hr1 hc1
  have HB := Aside0.mk (Below.refl w.heap.size w)
  have H : ((laws_big.f l0 l1).bind fun t417 => (if t417 = true then (some true) else ((spec_DrawIsRecurrent.f k l0).bind fun t418 => ((impl_IsRecurrent.f k t418).bind fun bt421 => ((spec_IsRecurrent.f k t418).bind fun bt423 => ((impl_ParkingOfSand.f k t418).bind fun bt425 => ((spec_ParkingOfSand.f k t418).bind fun bt429 => ((impl_FireOrder.f k t418).bind fun bt433 => ((spec_FireOrder.f k t418).bind fun bt437 => (if (bt421.2 != bt423.2) = true then (laws_FnRecurrentSand.j0 k l1 t418 bt421.1 bt425.1 bt425.2 bt433.1 true) else (if (bt421.1 != bt423.1) = true then (laws_FnRecurrentSand.j0 k l1 t418 bt421.1 bt425.1 bt425.2 bt433.1 true) else (if (bt425.2 != bt429.2) = true then (laws_FnRecurrentSand.j0 k l1 t418 bt421.1 bt425.1 bt425.2 bt433.1 true) else ((laws_wSame.f k bt425.1 bt429.1).bind fun t441 => (if t441 = true then (if (bt433.2 != bt437.2) = true then (laws_FnRecurrentSand.j0 k l1 t418 bt421.1 bt425.1 bt425.2 bt433.1 true) else ((laws_wSame.f k bt433.1 bt437.1).bind fun t442 => (if t442 = true then (if bt421.2 = true then (if (bt425.2 != bt421.1) = true then (laws_FnRecurrentSand.j0 k l1 t418 bt421.1 bt425.1 bt425.2 bt433.1 true) else (laws_FnRecurrentSand.j0 k l1 t418 bt421.1 bt425.1 bt425.2 bt433.1 (bt433.2 != bt425.2))) else (if (bt425.2 != false) = true then (laws_FnRecurrentSand.j0 k l1 t418 bt421.1 bt425.1 bt425.2 bt433.1 true) else (laws_FnRecurrentSand.j0 k l1 t418 bt421.1 bt425.1 bt425.2 bt433.1 (bt433.2 != bt425.2)))) else (laws_FnRecurrentSand.j0 k l1 t418 bt421.1 bt425.1 bt425.2 bt433.1 true)))) else (laws_FnRecurrentSand.j0 k l1 t418 bt421.1 bt425.1 bt425.2 bt433.1 true))))))))))))))) = some r := h
  clear h
  replace H := Option.bind_eq_some_iff.mp H
  obtain ⟨t417, A30, H⟩ := H
  replace H : (if t417 = true then (some true) else ((spec_DrawIsRecurrent.f k l0).bind fun t418 => ((impl_IsRecurrent.f k t418).bind fun bt421 => ((spec_IsRecurrent.f k t418).bind fun bt423 => ((impl_ParkingOfSand.f k t418).bind fun bt425 => ((spec_ParkingOfSand.f k t418).bind fun bt429 => ((impl_FireOrder.f k t418).bind fun bt433 => ((spec_FireOrder.f k t418).bind fun bt437 => (if (bt421.2 != bt423.2) = true then (laws_FnRecurrentSand.j0 k l1 t418 bt421.1 bt425.1 bt425.2 bt433.1 true) else (if (bt421.1 != bt423.1) = true then (laws_FnRecurrentSand.j0 k l1 t418 bt421.1 bt425.1 bt425.2 bt433.1 true) else (if (bt425.2 != bt429.2) = true then (laws_FnRecurrentSand.j0 k l1 t418 bt421.1 bt425.1 bt425.2 bt433.1 true) else ((laws_wSame.f k bt425.1 bt429.1).bind fun t441 => (if t441 = true then (if (bt433.2 != bt437.2) = true then (laws_FnRecurrentSand.j0 k l1 t418 bt421.1 bt425.1 bt425.2 bt433.1 true) else ((laws_wSame.f k bt433.1 bt437.1).bind fun t442 => (if t442 = true then (if bt421.2 = true then (if (bt425.2 != bt421.1) = true then (laws_FnRecurrentSand.j0 k l1 t418 bt421.1 bt425.1 bt425.2 bt433.1 true) else (laws_FnRecurrentSand.j0 k l1 t418 bt421.1 bt425.1 bt425.2 bt433.1 (bt433.2 != bt425.2))) else (if (bt425.2 != false) = true then (laws_FnRecurrentSand.j0 k l1 t418 bt421.1 bt425.1 bt425.2 bt433.1 true) else (laws_FnRecurrentSand.j0 k l1 t418 bt421.1 bt425.1 bt425.2 bt433.1 (bt433.2 != bt425.2)))) else (laws_FnRecurrentSand.j0 k l1 t418 bt421.1 bt425.1 bt425.2 bt433.1 true)))) else (laws_FnRecurrentSand.j0 k l1 t418 bt421.1 bt425.1 bt425.2 bt433.1 true)))))))))))))) = some r := H
  have A3 := Aside0.mk A30
  clear A30
  by_cases c4 : t417 = true
  · subst c4
    have H1 : (some true) = some r := by rw [if_pos rfl] at H; exact H
    clear H
    have H := H1
    clear H1
    obtain rfl := Option.some.inj H
    go_enter Try.func3, Try.ntmps3
    go_wp2_with (first | ((with_reducible refine gate_callee (f := 4) rfl ?_); refine goesL_ (some 36) rfl rfl Try.func4 (by kernel_rfl) rfl #[.slice A0 l0.length c0, .slice A1 l1.length c1] rfl (by (try simp only [List.map_toArray, List.map_cons, List.map_nil]); first | done | rfl | (simp only [List.length_drop, List.length_take]; rfl)) ?_; (with_reducible refine (laws_big.calls _ _ l0 _ _ l1 true _ ?side1 ?side2 ?side3 ?side4 A3.out).mono ?_); (case side1 => repeat (first | exact HR0.out | (with_reducible refine Kd.C_alloc ?_ _) | (with_reducible refine Kd.C_drewN ?_ _) | (with_reducible refine Kd.C_drew ?_))); (case side2 => exact HC0.out); (case side3 => repeat (first | exact HR1.out | (with_reducible refine Kd.C_alloc ?_ _) | (with_reducible refine Kd.C_drewN ?_ _) | (with_reducible refine Kd.C_drew ?_))); (case side4 => exact HC1.out); rintro e w' ⟨rfl, ⟨nd, rfl⟩⟩; refine ⟨_, rfl, ?_⟩))
    go_ret
    exact ⟨by first | rfl | (simp [errW_none, errW_some] <;> rfl) | (simp [*, errW_none, errW_some] <;> rfl), by repeat (first | (with_reducible first | exact HB.out | apply below_alloc | apply pw_below_drewN | apply below_drew1) | exact HB.out)⟩
  · as_aux_lemma =>
    replace c4 := Bool.eq_false_iff.mpr c4
    subst c4
    have H1 : ((spec_DrawIsRecurrent.f k l0).bind fun t418 => ((impl_IsRecurrent.f k t418).bind fun bt421 => ((spec_IsRecurrent.f k t418).bind fun bt423 => ((impl_ParkingOfSand.f k t418).bind fun bt425 => ((spec_ParkingOfSand.f k t418).bind fun bt429 => ((impl_FireOrder.f k t418).bind fun bt433 => ((spec_FireOrder.f k t418).bind fun bt437 => (if (bt421.2 != bt423.2) = true then (laws_FnRecurrentSand.j0 k l1 t418 bt421.1 bt425.1 bt425.2 bt433.1 true) else (if (bt421.1 != bt423.1) = true then (laws_FnRecurrentSand.j0 k l1 t418 bt421.1 bt425.1 bt425.2 bt433.1 true) else (if (bt425.2 != bt429.2) = true then (laws_FnRecurrentSand.j0 k l1 t418 bt421.1 bt425.1 bt425.2 bt433.1 true) else ((laws_wSame.f k bt425.1 bt429.1).bind fun t441 => (if t441 = true then (if (bt433.2 != bt437.2) = true then (laws_FnRecurrentSand.j0 k l1 t418 bt421.1 bt425.1 bt425.2 bt433.1 true) else ((laws_wSame.f k bt433.1 bt437.1).bind fun t442 => (if t442 = true then (if bt421.2 = true then (if (bt425.2 != bt421.1) = true then (laws_FnRecurrentSand.j0 k l1 t418 bt421.1 bt425.1 bt425.2 bt433.1 true) else (laws_FnRecurrentSand.j0 k l1 t418 bt421.1 bt425.1 bt425.2 bt433.1 (bt433.2 != bt425.2))) else (if (bt425.2 != false) = true then (laws_FnRecurrentSand.j0 k l1 t418 bt421.1 bt425.1 bt425.2 bt433.1 true) else (laws_FnRecurrentSand.j0 k l1 t418 bt421.1 bt425.1 bt425.2 bt433.1 (bt433.2 != bt425.2)))) else (laws_FnRecurrentSand.j0 k l1 t418 bt421.1 bt425.1 bt425.2 bt433.1 true)))) else (laws_FnRecurrentSand.j0 k l1 t418 bt421.1 bt425.1 bt425.2 bt433.1 true))))))))))))) = some r := by rw [if_neg (show ¬ (false = true) by decide)] at H; exact H
    clear H
    have H := H1
    clear H1
    replace H := Option.bind_eq_some_iff.mp H
    obtain ⟨t418, A50, H⟩ := H
    replace H : ((impl_IsRecurrent.f k t418).bind fun bt421 => ((spec_IsRecurrent.f k t418).bind fun bt423 => ((impl_ParkingOfSand.f k t418).bind fun bt425 => ((spec_ParkingOfSand.f k t418).bind fun bt429 => ((impl_FireOrder.f k t418).bind fun bt433 => ((spec_FireOrder.f k t418).bind fun bt437 => (if (bt421.2 != bt423.2) = true then (laws_FnRecurrentSand.j0 k l1 t418 bt421.1 bt425.1 bt425.2 bt433.1 true) else (if (bt421.1 != bt423.1) = true then (laws_FnRecurrentSand.j0 k l1 t418 bt421.1 bt425.1 bt425.2 bt433.1 true) else (if (bt425.2 != bt429.2) = true then (laws_FnRecurrentSand.j0 k l1 t418 bt421.1 bt425.1 bt425.2 bt433.1 true) else ((laws_wSame.f k bt425.1 bt429.1).bind fun t441 => (if t441 = true then (if (bt433.2 != bt437.2) = true then (laws_FnRecurrentSand.j0 k l1 t418 bt421.1 bt425.1 bt425.2 bt433.1 true) else ((laws_wSame.f k bt433.1 bt437.1).bind fun t442 => (if t442 = true then (if bt421.2 = true then (if (bt425.2 != bt421.1) = true then (laws_FnRecurrentSand.j0 k l1 t418 bt421.1 bt425.1 bt425.2 bt433.1 true) else (laws_FnRecurrentSand.j0 k l1 t418 bt421.1 bt425.1 bt425.2 bt433.1 (bt433.2 != bt425.2))) else (if (bt425.2 != false) = true then (laws_FnRecurrentSand.j0 k l1 t418 bt421.1 bt425.1 bt425.2 bt433.1 true) else (laws_FnRecurrentSand.j0 k l1 t418 bt421.1 bt425.1 bt425.2 bt433.1 (bt433.2 != bt425.2)))) else (laws_FnRecurrentSand.j0 k l1 t418 bt421.1 bt425.1 bt425.2 bt433.1 true)))) else (laws_FnRecurrentSand.j0 k l1 t418 bt421.1 bt425.1 bt425.2 bt433.1 true)))))))))))) = some r := H
    have A5 := Aside0.mk A50
    clear A50
    replace H := Option.bind_eq_some_iff.mp H
    obtain ⟨⟨t421, t422⟩, A60, H⟩ := H
    replace H : ((spec_IsRecurrent.f k t418).bind fun bt423 => ((impl_ParkingOfSand.f k t418).bind fun bt425 => ((spec_ParkingOfSand.f k t418).bind fun bt429 => ((impl_FireOrder.f k t418).bind fun bt433 => ((spec_FireOrder.f k t418).bind fun bt437 => (if (t422 != bt423.2) = true then (laws_FnRecurrentSand.j0 k l1 t418 t421 bt425.1 bt425.2 bt433.1 true) else (if (t421 != bt423.1) = true then (laws_FnRecurrentSand.j0 k l1 t418 t421 bt425.1 bt425.2 bt433.1 true) else (if (bt425.2 != bt429.2) = true then (laws_FnRecurrentSand.j0 k l1 t418 t421 bt425.1 bt425.2 bt433.1 true) else ((laws_wSame.f k bt425.1 bt429.1).bind fun t441 => (if t441 = true then (if (bt433.2 != bt437.2) = true then (laws_FnRecurrentSand.j0 k l1 t418 t421 bt425.1 bt425.2 bt433.1 true) else ((laws_wSame.f k bt433.1 bt437.1).bind fun t442 => (if t442 = true then (if t422 = true then (if (bt425.2 != t421) = true then (laws_FnRecurrentSand.j0 k l1 t418 t421 bt425.1 bt425.2 bt433.1 true) else (laws_FnRecurrentSand.j0 k l1 t418 t421 bt425.1 bt425.2 bt433.1 (bt433.2 != bt425.2))) else (if (bt425.2 != false) = true then (laws_FnRecurrentSand.j0 k l1 t418 t421 bt425.1 bt425.2 bt433.1 true) else (laws_FnRecurrentSand.j0 k l1 t418 t421 bt425.1 bt425.2 bt433.1 (bt433.2 != bt425.2)))) else (laws_FnRecurrentSand.j0 k l1 t418 t421 bt425.1 bt425.2 bt433.1 true)))) else (laws_FnRecurrentSand.j0 k l1 t418 t421 bt425.1 bt425.2 bt433.1 true))))))))))) = some r := H
    have A6 := Aside0.mk A60
    clear A60
    replace H := Option.bind_eq_some_iff.mp H
    obtain ⟨⟨t423, t424⟩, A70, H⟩ := H
    replace H : ((impl_ParkingOfSand.f k t418).bind fun bt425 => ((spec_ParkingOfSand.f k t418).bind fun bt429 => ((impl_FireOrder.f k t418).bind fun bt433 => ((spec_FireOrder.f k t418).bind fun bt437 => (if (t422 != t424) = true then (laws_FnRecurrentSand.j0 k l1 t418 t421 bt425.1 bt425.2 bt433.1 true) else (if (t421 != t423) = true then (laws_FnRecurrentSand.j0 k l1 t418 t421 bt425.1 bt425.2 bt433.1 true) else (if (bt425.2 != bt429.2) = true then (laws_FnRecurrentSand.j0 k l1 t418 t421 bt425.1 bt425.2 bt433.1 true) else ((laws_wSame.f k bt425.1 bt429.1).bind fun t441 => (if t441 = true then (if (bt433.2 != bt437.2) = true then (laws_FnRecurrentSand.j0 k l1 t418 t421 bt425.1 bt425.2 bt433.1 true) else ((laws_wSame.f k bt433.1 bt437.1).bind fun t442 => (if t442 = true then (if t422 = true then (if (bt425.2 != t421) = true then (laws_FnRecurrentSand.j0 k l1 t418 t421 bt425.1 bt425.2 bt433.1 true) else (laws_FnRecurrentSand.j0 k l1 t418 t421 bt425.1 bt425.2 bt433.1 (bt433.2 != bt425.2))) else (if (bt425.2 != false) = true then (laws_FnRecurrentSand.j0 k l1 t418 t421 bt425.1 bt425.2 bt433.1 true) else (laws_FnRecurrentSand.j0 k l1 t418 t421 bt425.1 bt425.2 bt433.1 (bt433.2 != bt425.2)))) else (laws_FnRecurrentSand.j0 k l1 t418 t421 bt425.1 bt425.2 bt433.1 true)))) else (laws_FnRecurrentSand.j0 k l1 t418 t421 bt425.1 bt425.2 bt433.1 true)))))))))) = some r := H
    have A7 := Aside0.mk A70
    clear A70
    replace H := Option.bind_eq_some_iff.mp H
    obtain ⟨⟨t425, t426⟩, A80, H⟩ := H
    replace H : ((spec_ParkingOfSand.f k t418).bind fun bt429 => ((impl_FireOrder.f k t418).bind fun bt433 => ((spec_FireOrder.f k t418).bind fun bt437 => (if (t422 != t424) = true then (laws_FnRecurrentSand.j0 k l1 t418 t421 t425 t426 bt433.1 true) else (if (t421 != t423) = true then (laws_FnRecurrentSand.j0 k l1 t418 t421 t425 t426 bt433.1 true) else (if (t426 != bt429.2) = true then (laws_FnRecurrentSand.j0 k l1 t418 t421 t425 t426 bt433.1 true) else ((laws_wSame.f k t425 bt429.1).bind fun t441 => (if t441 = true then (if (bt433.2 != bt437.2) = true then (laws_FnRecurrentSand.j0 k l1 t418 t421 t425 t426 bt433.1 true) else ((laws_wSame.f k bt433.1 bt437.1).bind fun t442 => (if t442 = true then (if t422 = true then (if (t426 != t421) = true then (laws_FnRecurrentSand.j0 k l1 t418 t421 t425 t426 bt433.1 true) else (laws_FnRecurrentSand.j0 k l1 t418 t421 t425 t426 bt433.1 (bt433.2 != t426))) else (if (t426 != false) = true then (laws_FnRecurrentSand.j0 k l1 t418 t421 t425 t426 bt433.1 true) else (laws_FnRecurrentSand.j0 k l1 t418 t421 t425 t426 bt433.1 (bt433.2 != t426)))) else (laws_FnRecurrentSand.j0 k l1 t418 t421 t425 t426 bt433.1 true)))) else (laws_FnRecurrentSand.j0 k l1 t418 t421 t425 t426 bt433.1 true))))))))) = some r := H
    have A8 := Aside0.mk A80
    clear A80
    replace H := Option.bind_eq_some_iff.mp H
    obtain ⟨⟨t429, t430⟩, A90, H⟩ := H
    replace H : ((impl_FireOrder.f k t418).bind fun bt433 => ((spec_FireOrder.f k t418).bind fun bt437 => (if (t422 != t424) = true then (laws_FnRecurrentSand.j0 k l1 t418 t421 t425 t426 bt433.1 true) else (if (t421 != t423) = true then (laws_FnRecurrentSand.j0 k l1 t418 t421 t425 t426 bt433.1 true) else (if (t426 != t430) = true then (laws_FnRecurrentSand.j0 k l1 t418 t421 t425 t426 bt433.1 true) else ((laws_wSame.f k t425 t429).bind fun t441 => (if t441 = true then (if (bt433.2 != bt437.2) = true then (laws_FnRecurrentSand.j0 k l1 t418 t421 t425 t426 bt433.1 true) else ((laws_wSame.f k bt433.1 bt437.1).bind fun t442 => (if t442 = true then (if t422 = true then (if (t426 != t421) = true then (laws_FnRecurrentSand.j0 k l1 t418 t421 t425 t426 bt433.1 true) else (laws_FnRecurrentSand.j0 k l1 t418 t421 t425 t426 bt433.1 (bt433.2 != t426))) else (if (t426 != false) = true then (laws_FnRecurrentSand.j0 k l1 t418 t421 t425 t426 bt433.1 true) else (laws_FnRecurrentSand.j0 k l1 t418 t421 t425 t426 bt433.1 (bt433.2 != t426)))) else (laws_FnRecurrentSand.j0 k l1 t418 t421 t425 t426 bt433.1 true)))) else (laws_FnRecurrentSand.j0 k l1 t418 t421 t425 t426 bt433.1 true)))))))) = some r := H
    have A9 := Aside0.mk A90
    clear A90
    replace H := Option.bind_eq_some_iff.mp H
    obtain ⟨⟨t433, t434⟩, A100, H⟩ := H
    replace H : ((spec_FireOrder.f k t418).bind fun bt437 => (if (t422 != t424) = true then (laws_FnRecurrentSand.j0 k l1 t418 t421 t425 t426 t433 true) else (if (t421 != t423) = true then (laws_FnRecurrentSand.j0 k l1 t418 t421 t425 t426 t433 true) else (if (t426 != t430) = true then (laws_FnRecurrentSand.j0 k l1 t418 t421 t425 t426 t433 true) else ((laws_wSame.f k t425 t429).bind fun t441 => (if t441 = true then (if (t434 != bt437.2) = true then (laws_FnRecurrentSand.j0 k l1 t418 t421 t425 t426 t433 true) else ((laws_wSame.f k t433 bt437.1).bind fun t442 => (if t442 = true then (if t422 = true then (if (t426 != t421) = true then (laws_FnRecurrentSand.j0 k l1 t418 t421 t425 t426 t433 true) else (laws_FnRecurrentSand.j0 k l1 t418 t421 t425 t426 t433 (t434 != t426))) else (if (t426 != false) = true then (laws_FnRecurrentSand.j0 k l1 t418 t421 t425 t426 t433 true) else (laws_FnRecurrentSand.j0 k l1 t418 t421 t425 t426 t433 (t434 != t426)))) else (laws_FnRecurrentSand.j0 k l1 t418 t421 t425 t426 t433 true)))) else (laws_FnRecurrentSand.j0 k l1 t418 t421 t425 t426 t433 true))))))) = some r := H
    have A10 := Aside0.mk A100
    clear A100
    replace H := Option.bind_eq_some_iff.mp H
    obtain ⟨⟨t437, t438⟩, A110, H⟩ := H
    replace H : (if (t422 != t424) = true then (laws_FnRecurrentSand.j0 k l1 t418 t421 t425 t426 t433 true) else (if (t421 != t423) = true then (laws_FnRecurrentSand.j0 k l1 t418 t421 t425 t426 t433 true) else (if (t426 != t430) = true then (laws_FnRecurrentSand.j0 k l1 t418 t421 t425 t426 t433 true) else ((laws_wSame.f k t425 t429).bind fun t441 => (if t441 = true then (if (t434 != t438) = true then (laws_FnRecurrentSand.j0 k l1 t418 t421 t425 t426 t433 true) else ((laws_wSame.f k t433 t437).bind fun t442 => (if t442 = true then (if t422 = true then (if (t426 != t421) = true then (laws_FnRecurrentSand.j0 k l1 t418 t421 t425 t426 t433 true) else (laws_FnRecurrentSand.j0 k l1 t418 t421 t425 t426 t433 (t434 != t426))) else (if (t426 != false) = true then (laws_FnRecurrentSand.j0 k l1 t418 t421 t425 t426 t433 true) else (laws_FnRecurrentSand.j0 k l1 t418 t421 t425 t426 t433 (t434 != t426)))) else (laws_FnRecurrentSand.j0 k l1 t418 t421 t425 t426 t433 true)))) else (laws_FnRecurrentSand.j0 k l1 t418 t421 t425 t426 t433 true)))))) = some r := H
    have A11 := Aside0.mk A110
    clear A110
    have HC12 := Aside0.mk H
    clear H
    go_enter Try.func3, Try.ntmps3
    go_upto_region 10 with (first | ((with_reducible refine gate_callee (f := 4) rfl ?_); refine goesL_ (some 36) rfl rfl Try.func4 (by kernel_rfl) rfl #[.slice A0 l0.length c0, .slice A1 l1.length c1] rfl (by (try simp only [List.map_toArray, List.map_cons, List.map_nil]); first | done | rfl | (simp only [List.length_drop, List.length_take]; rfl)) ?_; (with_reducible refine (laws_big.calls _ _ l0 _ _ l1 false _ ?side1 ?side2 ?side3 ?side4 A3.out).mono ?_); (case side1 => repeat (first | exact HR0.out | (with_reducible refine Kd.C_alloc ?_ _) | (with_reducible refine Kd.C_drewN ?_ _) | (with_reducible refine Kd.C_drew ?_))); (case side2 => exact HC0.out); (case side3 => repeat (first | exact HR1.out | (with_reducible refine Kd.C_alloc ?_ _) | (with_reducible refine Kd.C_drewN ?_ _) | (with_reducible refine Kd.C_drew ?_))); (case side4 => exact HC1.out); rintro e w' ⟨rfl, ⟨nd, rfl⟩⟩; refine ⟨_, rfl, ?_⟩) | ((with_reducible refine gate_callee (f := 5) rfl ?_); refine goesL_ (some 38) rfl rfl Try.func5 (by kernel_rfl) rfl #[.slice A0 l0.length c0] rfl (by (try simp only [List.map_toArray, List.map_cons, List.map_nil]); first | done | rfl | (simp only [List.length_drop, List.length_take]; rfl)) ?_; (with_reducible refine (spec_DrawIsRecurrent.calls k _ _ l0 t418 _ ?side1 ?side2 A5.out).mono ?_); (case side1 => repeat (first | exact HR0.out | (with_reducible refine Kd.C_alloc ?_ _) | (with_reducible refine Kd.C_drewN ?_ _) | (with_reducible refine Kd.C_drew ?_))); (case side2 => exact HC0.out); rintro e w13 ⟨v419, rfl, ho0, hb⟩; refine ⟨_, rfl, ?_⟩; have n0_ := Aside0.mk (Kd.R_lower ho0 (below_size (by repeat (first | (with_reducible first | exact HB.out | apply below_alloc | apply pw_below_drewN | apply below_drew1) | exact HB.out)))); have n1_ := Aside0.mk (below_step (by repeat (first | (with_reducible first | exact HB.out | apply below_alloc | apply pw_below_drewN | apply below_drew1) | exact HB.out)) hb); clear HB; have HO420 := n0_; have HB := n1_; clear n0_ n1_; (try clear hb); (try clear hb2); (try clear hk); (try clear hi); (try clear ho0); obtain ⟨Ao14, co14, eo14⟩ := Kd.R_slice HO420.out; subst eo14) | ((with_reducible refine gate_callee (f := 6) rfl ?_); refine goesL_ (some 41) rfl rfl Try.func6 (by kernel_rfl) rfl #[.slice Ao14 t418.length co14] rfl (by (try simp only [List.map_toArray, List.map_cons, List.map_nil]); first | done | rfl | (simp only [List.length_drop, List.length_take]; rfl)) ?_; (with_reducible refine (impl_IsRecurrent.calls k _ _ t418 t421 t422 _ ?side1 ?side2 A6.out).mono ?_); (case side1 => repeat (first | exact (Kd.R_reads' HO420.out).2.2 | (with_reducible refine Kd.C_alloc ?_ _) | (with_reducible refine Kd.C_drewN ?_ _) | (with_reducible refine Kd.C_drew ?_))); (case side2 => exact (Kd.R_reads' HO420.out).2.1); rintro e w15 ⟨rfl, hb⟩; refine ⟨_, rfl, ?_⟩; have n0_ := Aside0.mk (Kd.R_below (by (with_reducible repeat (first | apply Kd.R_alloc | apply Kd.R_drewN | apply Kd.R_drew)); exact HO420.out) hb); have n1_ := Aside0.mk (below_step (by repeat (first | (with_reducible first | exact HB.out | apply below_alloc | apply pw_below_drewN | apply below_drew1) | exact HB.out)) hb); clear HO420; clear HB; have HO420 := n0_; have HB := n1_; clear n0_ n1_; (try clear hb); (try clear hb2); (try clear hk); (try clear hi)) | ((with_reducible refine gate_callee (f := 7) rfl ?_); refine goesL_ (some 46) rfl rfl Try.func7 (by kernel_rfl) rfl #[.slice Ao14 t418.length co14] rfl (by (try simp only [List.map_toArray, List.map_cons, List.map_nil]); first | done | rfl | (simp only [List.length_drop, List.length_take]; rfl)) ?_; (with_reducible refine (spec_IsRecurrent.calls k _ _ t418 t423 t424 _ ?side1 ?side2 A7.out).mono ?_); (case side1 => repeat (first | exact (Kd.R_reads' HO420.out).2.2 | (with_reducible refine Kd.C_alloc ?_ _) | (with_reducible refine Kd.C_drewN ?_ _) | (with_reducible refine Kd.C_drew ?_))); (case side2 => exact (Kd.R_reads' HO420.out).2.1); rintro e w16 ⟨rfl, hb⟩; refine ⟨_, rfl, ?_⟩; have n0_ := Aside0.mk (Kd.R_below (by (with_reducible repeat (first | apply Kd.R_alloc | apply Kd.R_drewN | apply Kd.R_drew)); exact HO420.out) hb); have n1_ := Aside0.mk (below_step (by repeat (first | (with_reducible first | exact HB.out | apply below_alloc | apply pw_below_drewN | apply below_drew1) | exact HB.out)) hb); clear HO420; clear HB; have HO420 := n0_; have HB := n1_; clear n0_ n1_; (try clear hb); (try clear hb2); (try clear hk); (try clear hi)) | ((with_reducible refine gate_callee (f := 8) rfl ?_); refine goesL_ (some 51) rfl rfl Try.func8 (by kernel_rfl) rfl #[.slice Ao14 t418.length co14] rfl (by (try simp only [List.map_toArray, List.map_cons, List.map_nil]); first | done | rfl | (simp only [List.length_drop, List.length_take]; rfl)) ?_; (with_reducible refine (impl_ParkingOfSand.calls k _ _ t418 t425 t426 _ ?side1 ?side2 A8.out).mono ?_); (case side1 => repeat (first | exact (Kd.R_reads' HO420.out).2.2 | (with_reducible refine Kd.C_alloc ?_ _) | (with_reducible refine Kd.C_drewN ?_ _) | (with_reducible refine Kd.C_drew ?_))); (case side2 => exact (Kd.R_reads' HO420.out).2.1); rintro e w17 ⟨v427, rfl, ho0, hb⟩; refine ⟨_, rfl, ?_⟩; have n0_ := Aside0.mk (Kd.R_elder' (by (with_reducible repeat (first | apply Kd.R_alloc | apply Kd.R_drewN | apply Kd.R_drew)); exact HO420.out) (Kd.R_base ho0) hb); have n1_ := Aside0.mk (Kd.R_lower (Kd.R_new' ho0 (Kd.R_lt (by (with_reducible repeat (first | apply Kd.R_alloc | apply Kd.R_drewN | apply Kd.R_drew)); exact HO420.out))) (below_size (by repeat (first | (with_reducible first | exact HB.out | apply below_alloc | apply pw_below_drewN | apply below_drew1) | exact HB.out)))); have n2_ := Aside0.mk (below_step (by repeat (first | (with_reducible first | exact HB.out | apply below_alloc | apply pw_below_drewN | apply below_drew1) | exact HB.out)) hb); clear HO420; clear HB; have HO420 := n0_; have HO428 := n1_; have HB := n2_; clear n0_ n1_ n2_; (try clear hb); (try clear hb2); (try clear hk); (try clear hi); (try clear ho0)) | ((with_reducible refine gate_callee (f := 9) rfl ?_); refine goesL_ (some 56) rfl rfl Try.func9 (by kernel_rfl) rfl #[.slice Ao14 t418.length co14] rfl (by (try simp only [List.map_toArray, List.map_cons, List.map_nil]); first | done | rfl | (simp only [List.length_drop, List.length_take]; rfl)) ?_; (with_reducible refine (spec_ParkingOfSand.calls k _ _ t418 t429 t430 _ ?side1 ?side2 A9.out).mono ?_); (case side1 => repeat (first | exact (Kd.R_reads' HO420.out).2.2 | (with_reducible refine Kd.C_alloc ?_ _) | (with_reducible refine Kd.C_drewN ?_ _) | (with_reducible refine Kd.C_drew ?_))); (case side2 => exact (Kd.R_reads' HO420.out).2.1); rintro e w18 ⟨v431, rfl, ho0, hb⟩; refine ⟨_, rfl, ?_⟩; have n0_ := Aside0.mk (Kd.R_elder' (by (with_reducible repeat (first | apply Kd.R_alloc | apply Kd.R_drewN | apply Kd.R_drew)); exact HO420.out) (Kd.R_base ho0) hb); have n1_ := Aside0.mk (Kd.R_elder' (by (with_reducible repeat (first | apply Kd.R_alloc | apply Kd.R_drewN | apply Kd.R_drew)); exact HO428.out) (Kd.R_base ho0) hb); have n2_ := Aside0.mk (Kd.R_lower (Kd.R_new' (Kd.R_new' ho0 (Kd.R_lt (by (with_reducible repeat (first | apply Kd.R_alloc | apply Kd.R_drewN | apply Kd.R_drew)); exact HO420.out))) (Kd.R_lt (by (with_reducible repeat (first | apply Kd.R_alloc | apply Kd.R_drewN | apply Kd.R_drew)); exact HO428.out))) (below_size (by repeat (first | (with_reducible first | exact HB.out | apply below_alloc | apply pw_below_drewN | apply below_drew1) | exact HB.out)))); have n3_ := Aside0.mk (below_step (by repeat (first | (with_reducible first | exact HB.out | apply below_alloc | apply pw_below_drewN | apply below_drew1) | exact HB.out)) hb); clear HO420; clear HO428; clear HB; have HO420 := n0_; have HO428 := n1_; have HO432 := n2_; have HB := n3_; clear n0_ n1_ n2_ n3_; (try clear hb); (try clear hb2); (try clear hk); (try clear hi); (try clear ho0)) | ((with_reducible refine gate_callee (f := 10) rfl ?_); refine goesL_ (some 61) rfl rfl Try.func10 (by kernel_rfl) rfl #[.slice Ao14 t418.length co14] rfl (by (try simp only [List.map_toArray, List.map_cons, List.map_nil]); first | done | rfl | (simp only [List.length_drop, List.length_take]; rfl)) ?_; (with_reducible refine (impl_FireOrder.calls k _ _ t418 t433 t434 _ ?side1 ?side2 A10.out).mono ?_); (case side1 => repeat (first | exact (Kd.R_reads' HO420.out).2.2 | (with_reducible refine Kd.C_alloc ?_ _) | (with_reducible refine Kd.C_drewN ?_ _) | (with_reducible refine Kd.C_drew ?_))); (case side2 => exact (Kd.R_reads' HO420.out).2.1); rintro e w19 ⟨v435, rfl, ho0, hb⟩; refine ⟨_, rfl, ?_⟩; have n0_ := Aside0.mk (Kd.R_elder' (by (with_reducible repeat (first | apply Kd.R_alloc | apply Kd.R_drewN | apply Kd.R_drew)); exact HO420.out) (Kd.R_base ho0) hb); have n1_ := Aside0.mk (Kd.R_elder' (by (with_reducible repeat (first | apply Kd.R_alloc | apply Kd.R_drewN | apply Kd.R_drew)); exact HO428.out) (Kd.R_base ho0) hb); have n2_ := Aside0.mk (Kd.R_elder' (by (with_reducible repeat (first | apply Kd.R_alloc | apply Kd.R_drewN | apply Kd.R_drew)); exact HO432.out) (Kd.R_base ho0) hb); have n3_ := Aside0.mk (Kd.R_lower (Kd.R_new' (Kd.R_new' (Kd.R_new' ho0 (Kd.R_lt (by (with_reducible repeat (first | apply Kd.R_alloc | apply Kd.R_drewN | apply Kd.R_drew)); exact HO420.out))) (Kd.R_lt (by (with_reducible repeat (first | apply Kd.R_alloc | apply Kd.R_drewN | apply Kd.R_drew)); exact HO428.out))) (Kd.R_lt (by (with_reducible repeat (first | apply Kd.R_alloc | apply Kd.R_drewN | apply Kd.R_drew)); exact HO432.out))) (below_size (by repeat (first | (with_reducible first | exact HB.out | apply below_alloc | apply pw_below_drewN | apply below_drew1) | exact HB.out)))); have n4_ := Aside0.mk (below_step (by repeat (first | (with_reducible first | exact HB.out | apply below_alloc | apply pw_below_drewN | apply below_drew1) | exact HB.out)) hb); clear HO420; clear HO428; clear HO432; clear HB; have HO420 := n0_; have HO428 := n1_; have HO432 := n2_; have HO436 := n3_; have HB := n4_; clear n0_ n1_ n2_ n3_ n4_; (try clear hb); (try clear hb2); (try clear hk); (try clear hi); (try clear ho0)) | ((with_reducible refine gate_callee (f := 11) rfl ?_); refine goesL_ (some 66) rfl rfl Try.func11 (by kernel_rfl) rfl #[.slice Ao14 t418.length co14] rfl (by (try simp only [List.map_toArray, List.map_cons, List.map_nil]); first | done | rfl | (simp only [List.length_drop, List.length_take]; rfl)) ?_; (with_reducible refine (spec_FireOrder.calls k _ _ t418 t437 t438 _ ?side1 ?side2 A11.out).mono ?_); (case side1 => repeat (first | exact (Kd.R_reads' HO420.out).2.2 | (with_reducible refine Kd.C_alloc ?_ _) | (with_reducible refine Kd.C_drewN ?_ _) | (with_reducible refine Kd.C_drew ?_))); (case side2 => exact (Kd.R_reads' HO420.out).2.1); rintro e w20 ⟨v439, rfl, ho0, hb⟩; refine ⟨_, rfl, ?_⟩; have n0_ := Aside0.mk (Kd.R_elder' (by (with_reducible repeat (first | apply Kd.R_alloc | apply Kd.R_drewN | apply Kd.R_drew)); exact HO420.out) (Kd.R_base ho0) hb); have n1_ := Aside0.mk (Kd.R_elder' (by (with_reducible repeat (first | apply Kd.R_alloc | apply Kd.R_drewN | apply Kd.R_drew)); exact HO428.out) (Kd.R_base ho0) hb); have n2_ := Aside0.mk (Kd.R_elder' (by (with_reducible repeat (first | apply Kd.R_alloc | apply Kd.R_drewN | apply Kd.R_drew)); exact HO432.out) (Kd.R_base ho0) hb); have n3_ := Aside0.mk (Kd.R_elder' (by (with_reducible repeat (first | apply Kd.R_alloc | apply Kd.R_drewN | apply Kd.R_drew)); exact HO436.out) (Kd.R_base ho0) hb); have n4_ := Aside0.mk (Kd.R_lower (Kd.R_new' (Kd.R_new' (Kd.R_new' (Kd.R_new' ho0 (Kd.R_lt (by (with_reducible repeat (first | apply Kd.R_alloc | apply Kd.R_drewN | apply Kd.R_drew)); exact HO420.out))) (Kd.R_lt (by (with_reducible repeat (first | apply Kd.R_alloc | apply Kd.R_drewN | apply Kd.R_drew)); exact HO428.out))) (Kd.R_lt (by (with_reducible repeat (first | apply Kd.R_alloc | apply Kd.R_drewN | apply Kd.R_drew)); exact HO432.out))) (Kd.R_lt (by (with_reducible repeat (first | apply Kd.R_alloc | apply Kd.R_drewN | apply Kd.R_drew)); exact HO436.out))) (below_size (by repeat (first | (with_reducible first | exact HB.out | apply below_alloc | apply pw_below_drewN | apply below_drew1) | exact HB.out)))); have n5_ := Aside0.mk (below_step (by repeat (first | (with_reducible first | exact HB.out | apply below_alloc | apply pw_below_drewN | apply below_drew1) | exact HB.out)) hb); clear HO420; clear HO428; clear HO432; clear HO436; clear HB; have HO420 := n0_; have HO428 := n1_; have HO432 := n2_; have HO436 := n3_; have HO440 := n4_; have HB := n5_; clear n0_ n1_ n2_ n3_ n4_ n5_; (try clear hb); (try clear hb2); (try clear hk); (try clear hi); (try clear ho0)))
    (try simp only [Act.put, List.setIfInBounds_toArray, List.set_cons_zero, List.set_cons_succ])
    go_cut [111] (fun v111 wc => ∃ (kq : Nat) (x111_11 : Bool), v111 = .bool x111_11 ∧ Aside0 (laws_FnRecurrentSand.j0 kq l1 t418 t421 t425 t426 t433 x111_11 = some r) ∧ Aside0 (kq ≤ k) ∧ Aside0 (Kd.R (Kd.int .i64) 3 wc w.heap.size (fun k_ => some k_ ≠ (v427 : Value).ownBlock ∧ some k_ ≠ (v435 : Value).ownBlock) (.slice Ao14 t418.length co14) t418) ∧ Aside0 (Kd.R (Kd.int .i64) 3 wc w.heap.size (fun k_ => some k_ ≠ ((.slice Ao14 t418.length co14) : Value).ownBlock ∧ some k_ ≠ (v435 : Value).ownBlock) v427 t425) ∧ Aside0 (Kd.R (Kd.int .i64) 3 wc w.heap.size (fun k_ => some k_ ≠ ((.slice Ao14 t418.length co14) : Value).ownBlock ∧ some k_ ≠ (v427 : Value).ownBlock) v435 t433) ∧ Aside0 (Below w.heap.size w wc))
    case first =>
      have H := HC12.out
      clear HC12
      by_cases c21 : (t422 != t424) = true
      · rw [if_pos c21] at H
        have c21b0 : (t422 != t424) = true := c21
        (try (have c21b1 : decide (t422 = t424) = false := by simpa using c21))
        (try (have c21b2 : (t422 == t424) = false := by simpa using c21))
        (try (have c21b3 : ¬ (t422 = t424) := by simpa using c21))
        clear c21
        (first | rw [c21b0] | (simp only [i64_w, i32_w]; rw [c21b0]) | skip)
        have H' := Aside0.mk H
        clear H
        go_wp2
        go_meet
        case rel => exact ⟨_, (true), (by first | rfl | (simp; done) | (simp [*]; done)), H', ⟨by first | omega | exact Nat.le_refl _⟩, ⟨by (with_reducible repeat (first | apply Kd.R_alloc | apply Kd.R_drewN | apply Kd.R_drew)); exact Kd.R_mono HO420.out (fun _ hk => ⟨hk.1.1.1.2, hk.1.2⟩)⟩, ⟨by (with_reducible repeat (first | apply Kd.R_alloc | apply Kd.R_drewN | apply Kd.R_drew)); exact Kd.R_mono HO428.out (fun _ hk => ⟨hk.1.1.1.2, hk.1.2⟩)⟩, ⟨by (with_reducible repeat (first | apply Kd.R_alloc | apply Kd.R_drewN | apply Kd.R_drew)); exact Kd.R_mono HO436.out (fun _ hk => ⟨hk.1.1.1.2, hk.1.1.2⟩)⟩, ⟨by repeat (first | (with_reducible first | exact HB.out | apply below_alloc | apply pw_below_drewN | apply below_drew1) | exact HB.out)⟩⟩
      · as_aux_lemma =>
        rw [if_neg c21] at H
        have c21b0 : (t422 != t424) = false := by simpa using c21
        (try (have c21b1 : decide (t422 = t424) = true := by simpa using c21))
        (try (have c21b2 : (t422 == t424) = true := by simpa using c21))
        clear c21
        (first | rw [c21b0] | (simp only [i64_w, i32_w]; rw [c21b0]) | skip)
        by_cases c22 : (t421 != t423) = true
        · rw [if_pos c22] at H
          have c22b0 : (t421 != t423) = true := c22
          (try (have c22b1 : decide (t421 = t423) = false := by simpa using c22))
          (try (have c22b2 : (t421 == t423) = false := by simpa using c22))
          (try (have c22b3 : ¬ (t421 = t423) := by simpa using c22))
          clear c22
          have H' := Aside0.mk H
          clear H
          go_wp2
          go_meet
          case rel => exact ⟨_, (true), (by first | rfl | (simp; done) | (simp [*]; done)), H', ⟨by first | omega | exact Nat.le_refl _⟩, ⟨by (with_reducible repeat (first | apply Kd.R_alloc | apply Kd.R_drewN | apply Kd.R_drew)); exact Kd.R_mono HO420.out (fun _ hk => ⟨hk.1.1.1.2, hk.1.2⟩)⟩, ⟨by (with_reducible repeat (first | apply Kd.R_alloc | apply Kd.R_drewN | apply Kd.R_drew)); exact Kd.R_mono HO428.out (fun _ hk => ⟨hk.1.1.1.2, hk.1.2⟩)⟩, ⟨by (with_reducible repeat (first | apply Kd.R_alloc | apply Kd.R_drewN | apply Kd.R_drew)); exact Kd.R_mono HO436.out (fun _ hk => ⟨hk.1.1.1.2, hk.1.1.2⟩)⟩, ⟨by repeat (first | (with_reducible first | exact HB.out | apply below_alloc | apply pw_below_drewN | apply below_drew1) | exact HB.out)⟩⟩
        · as_aux_lemma =>
          rw [if_neg c22] at H
          have c22b0 : (t421 != t423) = false := by simpa using c22
          (try (have c22b1 : decide (t421 = t423) = true := by simpa using c22))
          (try (have c22b2 : (t421 == t423) = true := by simpa using c22))
          clear c22
          by_cases c23 : (t426 != t430) = true
          · rw [if_pos c23] at H
            have c23b0 : (t426 != t430) = true := c23
            (try (have c23b1 : decide (t426 = t430) = false := by simpa using c23))
            (try (have c23b2 : (t426 == t430) = false := by simpa using c23))
            (try (have c23b3 : ¬ (t426 = t430) := by simpa using c23))
            clear c23
            have H' := Aside0.mk H
            clear H
            go_wp2
            go_meet
            case rel => exact ⟨_, (true), (by first | rfl | (simp; done) | (simp [*]; done)), H', ⟨by first | omega | exact Nat.le_refl _⟩, ⟨by (with_reducible repeat (first | apply Kd.R_alloc | apply Kd.R_drewN | apply Kd.R_drew)); exact Kd.R_mono HO420.out (fun _ hk => ⟨hk.1.1.1.2, hk.1.2⟩)⟩, ⟨by (with_reducible repeat (first | apply Kd.R_alloc | apply Kd.R_drewN | apply Kd.R_drew)); exact Kd.R_mono HO428.out (fun _ hk => ⟨hk.1.1.1.2, hk.1.2⟩)⟩, ⟨by (with_reducible repeat (first | apply Kd.R_alloc | apply Kd.R_drewN | apply Kd.R_drew)); exact Kd.R_mono HO436.out (fun _ hk => ⟨hk.1.1.1.2, hk.1.1.2⟩)⟩, ⟨by repeat (first | (with_reducible first | exact HB.out | apply below_alloc | apply pw_below_drewN | apply below_drew1) | exact HB.out)⟩⟩
          · as_aux_lemma =>
            rw [if_neg c23] at H
            have c23b0 : (t426 != t430) = false := by simpa using c23
            (try (have c23b1 : decide (t426 = t430) = true := by simpa using c23))
            (try (have c23b2 : (t426 == t430) = true := by simpa using c23))
            clear c23
            replace H := Option.bind_eq_some_iff.mp H
            obtain ⟨t441, A240, H⟩ := H
            replace H : (if t441 = true then (if (t434 != t438) = true then (laws_FnRecurrentSand.j0 k l1 t418 t421 t425 t426 t433 true) else ((laws_wSame.f k t433 t437).bind fun t442 => (if t442 = true then (if t422 = true then (if (t426 != t421) = true then (laws_FnRecurrentSand.j0 k l1 t418 t421 t425 t426 t433 true) else (laws_FnRecurrentSand.j0 k l1 t418 t421 t425 t426 t433 (t434 != t426))) else (if (t426 != false) = true then (laws_FnRecurrentSand.j0 k l1 t418 t421 t425 t426 t433 true) else (laws_FnRecurrentSand.j0 k l1 t418 t421 t425 t426 t433 (t434 != t426)))) else (laws_FnRecurrentSand.j0 k l1 t418 t421 t425 t426 t433 true)))) else (laws_FnRecurrentSand.j0 k l1 t418 t421 t425 t426 t433 true)) = some r := H
            have A24 := Aside0.mk A240
            clear A240
            by_cases c25 : t441 = true
            · as_aux_lemma =>
              subst c25
              have H1 : (if (t434 != t438) = true then (laws_FnRecurrentSand.j0 k l1 t418 t421 t425 t426 t433 true) else ((laws_wSame.f k t433 t437).bind fun t442 => (if t442 = true then (if t422 = true then (if (t426 != t421) = true then (laws_FnRecurrentSand.j0 k l1 t418 t421 t425 t426 t433 true) else (laws_FnRecurrentSand.j0 k l1 t418 t421 t425 t426 t433 (t434 != t426))) else (if (t426 != false) = true then (laws_FnRecurrentSand.j0 k l1 t418 t421 t425 t426 t433 true) else (laws_FnRecurrentSand.j0 k l1 t418 t421 t425 t426 t433 (t434 != t426)))) else (laws_FnRecurrentSand.j0 k l1 t418 t421 t425 t426 t433 true)))) = some r := by rw [if_pos rfl] at H; exact H
              clear H
              have H := H1
              clear H1
              by_cases c26 : (t434 != t438) = true
              · rw [if_pos c26] at H
                have c26b0 : (t434 != t438) = true := c26
                (try (have c26b1 : decide (t434 = t438) = false := by simpa using c26))
                (try (have c26b2 : (t434 == t438) = false := by simpa using c26))
                (try (have c26b3 : ¬ (t434 = t438) := by simpa using c26))
                clear c26
                have H' := Aside0.mk H
                clear H
                obtain ⟨Ao27, co27, eo27⟩ := Kd.R_slice HO428.out
                subst eo27
                obtain ⟨Ao28, co28, eo28⟩ := Kd.R_slice HO432.out
                subst eo28
                go_wp2_with (first | (go_at_call 12; (with_reducible refine (laws_wSame.calls k _ _ t425 _ _ t429 true _ ?side1 ?side2 ?side3 ?side4 A24.out).mono ?_); (case side1 => repeat (first | exact (Kd.R_reads' HO428.out).2.2 | (with_reducible refine Kd.C_alloc ?_ _) | (with_reducible refine Kd.C_drewN ?_ _) | (with_reducible refine Kd.C_drew ?_))); (case side2 => exact (Kd.R_reads' HO428.out).2.1); (case side3 => repeat (first | exact (Kd.R_reads' HO432.out).2.2 | (with_reducible refine Kd.C_alloc ?_ _) | (with_reducible refine Kd.C_drewN ?_ _) | (with_reducible refine Kd.C_drew ?_))); (case side4 => exact (Kd.R_reads' HO432.out).2.1); rintro e w' ⟨rfl, ⟨nd, rfl⟩⟩))
                go_meet
                case rel => exact ⟨_, (true), (by first | rfl | (simp; done) | (simp [*]; done)), H', ⟨by first | omega | exact Nat.le_refl _⟩, ⟨by (with_reducible repeat (first | apply Kd.R_alloc | apply Kd.R_drewN | apply Kd.R_drew)); exact Kd.R_mono HO420.out (fun _ hk => ⟨hk.1.1.1.2, hk.1.2⟩)⟩, ⟨by (with_reducible repeat (first | apply Kd.R_alloc | apply Kd.R_drewN | apply Kd.R_drew)); exact Kd.R_mono HO428.out (fun _ hk => ⟨hk.1.1.1.2, hk.1.2⟩)⟩, ⟨by (with_reducible repeat (first | apply Kd.R_alloc | apply Kd.R_drewN | apply Kd.R_drew)); exact Kd.R_mono HO436.out (fun _ hk => ⟨hk.1.1.1.2, hk.1.1.2⟩)⟩, ⟨by repeat (first | (with_reducible first | exact HB.out | apply below_alloc | apply pw_below_drewN | apply below_drew1) | exact HB.out)⟩⟩
              · as_aux_lemma =>
                rw [if_neg c26] at H
                have c26b0 : (t434 != t438) = false := by simpa using c26
                (try (have c26b1 : decide (t434 = t438) = true := by simpa using c26))
                (try (have c26b2 : (t434 == t438) = true := by simpa using c26))
                clear c26
                replace H := Option.bind_eq_some_iff.mp H
                obtain ⟨t442, A290, H⟩ := H
                replace H : (if t442 = true then (if t422 = true then (if (t426 != t421) = true then (laws_FnRecurrentSand.j0 k l1 t418 t421 t425 t426 t433 true) else (laws_FnRecurrentSand.j0 k l1 t418 t421 t425 t426 t433 (t434 != t426))) else (if (t426 != false) = true then (laws_FnRecurrentSand.j0 k l1 t418 t421 t425 t426 t433 true) else (laws_FnRecurrentSand.j0 k l1 t418 t421 t425 t426 t433 (t434 != t426)))) else (laws_FnRecurrentSand.j0 k l1 t418 t421 t425 t426 t433 true)) = some r := H
                have A29 := Aside0.mk A290
                clear A290
                by_cases c30 : t442 = true
                · as_aux_lemma =>
                  subst c30
                  have H1 : (if t422 = true then (if (t426 != t421) = true then (laws_FnRecurrentSand.j0 k l1 t418 t421 t425 t426 t433 true) else (laws_FnRecurrentSand.j0 k l1 t418 t421 t425 t426 t433 (t434 != t426))) else (if (t426 != false) = true then (laws_FnRecurrentSand.j0 k l1 t418 t421 t425 t426 t433 true) else (laws_FnRecurrentSand.j0 k l1 t418 t421 t425 t426 t433 (t434 != t426)))) = some r := by rw [if_pos rfl] at H; exact H
                  clear H
                  have H := H1
                  clear H1
                  by_cases c31 : t422 = true
                  · as_aux_lemma =>
                    subst c31
                    have H1 : (if (t426 != t421) = true then (laws_FnRecurrentSand.j0 k l1 t418 t421 t425 t426 t433 true) else (laws_FnRecurrentSand.j0 k l1 t418 t421 t425 t426 t433 (t434 != t426))) = some r := by rw [if_pos rfl] at H; exact H
                    clear H
                    have H := H1
                    clear H1
                    by_cases c32 : (t426 != t421) = true
                    · rw [if_pos c32] at H
                      have c32b0 : (t426 != t421) = true := c32
                      (try (have c32b1 : decide (t426 = t421) = false := by simpa using c32))
                      (try (have c32b2 : (t426 == t421) = false := by simpa using c32))
                      (try (have c32b3 : ¬ (t426 = t421) := by simpa using c32))
                      clear c32
                      have H' := Aside0.mk H
                      clear H
                      obtain ⟨Ao33, co33, eo33⟩ := Kd.R_slice HO428.out
                      subst eo33
                      obtain ⟨Ao34, co34, eo34⟩ := Kd.R_slice HO432.out
                      subst eo34
                      go_wp2_with (first | (go_at_call 12; (with_reducible refine (laws_wSame.calls k _ _ t425 _ _ t429 true _ ?side1 ?side2 ?side3 ?side4 A24.out).mono ?_); (case side1 => repeat (first | exact (Kd.R_reads' HO428.out).2.2 | (with_reducible refine Kd.C_alloc ?_ _) | (with_reducible refine Kd.C_drewN ?_ _) | (with_reducible refine Kd.C_drew ?_))); (case side2 => exact (Kd.R_reads' HO428.out).2.1); (case side3 => repeat (first | exact (Kd.R_reads' HO432.out).2.2 | (with_reducible refine Kd.C_alloc ?_ _) | (with_reducible refine Kd.C_drewN ?_ _) | (with_reducible refine Kd.C_drew ?_))); (case side4 => exact (Kd.R_reads' HO432.out).2.1); rintro e w' ⟨rfl, ⟨nd, rfl⟩⟩; obtain ⟨Ao35, co35, eo35⟩ := Kd.R_slice HO436.out; subst eo35; obtain ⟨Ao36, co36, eo36⟩ := Kd.R_slice HO440.out; subst eo36) | (go_at_call 12; (with_reducible refine (laws_wSame.calls k _ _ t433 _ _ t437 true _ ?side1 ?side2 ?side3 ?side4 A29.out).mono ?_); (case side1 => repeat (first | exact (Kd.R_reads' HO436.out).2.2 | (with_reducible refine Kd.C_alloc ?_ _) | (with_reducible refine Kd.C_drewN ?_ _) | (with_reducible refine Kd.C_drew ?_))); (case side2 => exact (Kd.R_reads' HO436.out).2.1); (case side3 => repeat (first | exact (Kd.R_reads' HO440.out).2.2 | (with_reducible refine Kd.C_alloc ?_ _) | (with_reducible refine Kd.C_drewN ?_ _) | (with_reducible refine Kd.C_drew ?_))); (case side4 => exact (Kd.R_reads' HO440.out).2.1); rintro e w' ⟨rfl, ⟨nd, rfl⟩⟩))
                      go_meet
                      case rel => exact ⟨_, (true), (by first | rfl | (simp; done) | (simp [*]; done)), H', ⟨by first | omega | exact Nat.le_refl _⟩, ⟨by (with_reducible repeat (first | apply Kd.R_alloc | apply Kd.R_drewN | apply Kd.R_drew)); exact Kd.R_mono HO420.out (fun _ hk => ⟨hk.1.1.1.2, hk.1.2⟩)⟩, ⟨by (with_reducible repeat (first | apply Kd.R_alloc | apply Kd.R_drewN | apply Kd.R_drew)); exact Kd.R_mono HO428.out (fun _ hk => ⟨hk.1.1.1.2, hk.1.2⟩)⟩, ⟨by (with_reducible repeat (first | apply Kd.R_alloc | apply Kd.R_drewN | apply Kd.R_drew)); exact Kd.R_mono HO436.out (fun _ hk => ⟨hk.1.1.1.2, hk.1.1.2⟩)⟩, ⟨by repeat (first | (with_reducible first | exact HB.out | apply below_alloc | apply pw_below_drewN | apply below_drew1) | exact HB.out)⟩⟩
                    · rw [if_neg c32] at H
                      have c32b0 : (t426 != t421) = false := by simpa using c32
                      (try (have c32b1 : decide (t426 = t421) = true := by simpa using c32))
                      (try (have c32b2 : (t426 == t421) = true := by simpa using c32))
                      clear c32
                      have H' := Aside0.mk H
                      clear H
                      obtain ⟨Ao37, co37, eo37⟩ := Kd.R_slice HO428.out
                      subst eo37
                      obtain ⟨Ao38, co38, eo38⟩ := Kd.R_slice HO432.out
                      subst eo38
                      go_wp2_with (first | (go_at_call 12; (with_reducible refine (laws_wSame.calls k _ _ t425 _ _ t429 true _ ?side1 ?side2 ?side3 ?side4 A24.out).mono ?_); (case side1 => repeat (first | exact (Kd.R_reads' HO428.out).2.2 | (with_reducible refine Kd.C_alloc ?_ _) | (with_reducible refine Kd.C_drewN ?_ _) | (with_reducible refine Kd.C_drew ?_))); (case side2 => exact (Kd.R_reads' HO428.out).2.1); (case side3 => repeat (first | exact (Kd.R_reads' HO432.out).2.2 | (with_reducible refine Kd.C_alloc ?_ _) | (with_reducible refine Kd.C_drewN ?_ _) | (with_reducible refine Kd.C_drew ?_))); (case side4 => exact (Kd.R_reads' HO432.out).2.1); rintro e w' ⟨rfl, ⟨nd, rfl⟩⟩; obtain ⟨Ao39, co39, eo39⟩ := Kd.R_slice HO436.out; subst eo39; obtain ⟨Ao40, co40, eo40⟩ := Kd.R_slice HO440.out; subst eo40) | (go_at_call 12; (with_reducible refine (laws_wSame.calls k _ _ t433 _ _ t437 true _ ?side1 ?side2 ?side3 ?side4 A29.out).mono ?_); (case side1 => repeat (first | exact (Kd.R_reads' HO436.out).2.2 | (with_reducible refine Kd.C_alloc ?_ _) | (with_reducible refine Kd.C_drewN ?_ _) | (with_reducible refine Kd.C_drew ?_))); (case side2 => exact (Kd.R_reads' HO436.out).2.1); (case side3 => repeat (first | exact (Kd.R_reads' HO440.out).2.2 | (with_reducible refine Kd.C_alloc ?_ _) | (with_reducible refine Kd.C_drewN ?_ _) | (with_reducible refine Kd.C_drew ?_))); (case side4 => exact (Kd.R_reads' HO440.out).2.1); rintro e w' ⟨rfl, ⟨nd, rfl⟩⟩))
                      go_meet
                      case rel => exact ⟨_, ((t434 != t426)), (by first | rfl | (simp; done) | (simp [*]; done)), H', ⟨by first | omega | exact Nat.le_refl _⟩, ⟨by (with_reducible repeat (first | apply Kd.R_alloc | apply Kd.R_drewN | apply Kd.R_drew)); exact Kd.R_mono HO420.out (fun _ hk => ⟨hk.1.1.1.2, hk.1.2⟩)⟩, ⟨by (with_reducible repeat (first | apply Kd.R_alloc | apply Kd.R_drewN | apply Kd.R_drew)); exact Kd.R_mono HO428.out (fun _ hk => ⟨hk.1.1.1.2, hk.1.2⟩)⟩, ⟨by (with_reducible repeat (first | apply Kd.R_alloc | apply Kd.R_drewN | apply Kd.R_drew)); exact Kd.R_mono HO436.out (fun _ hk => ⟨hk.1.1.1.2, hk.1.1.2⟩)⟩, ⟨by repeat (first | (with_reducible first | exact HB.out | apply below_alloc | apply pw_below_drewN | apply below_drew1) | exact HB.out)⟩⟩
                  · as_aux_lemma =>
                    replace c31 := Bool.eq_false_iff.mpr c31
                    subst c31
                    have H1 : (if (t426 != false) = true then (laws_FnRecurrentSand.j0 k l1 t418 t421 t425 t426 t433 true) else (laws_FnRecurrentSand.j0 k l1 t418 t421 t425 t426 t433 (t434 != t426))) = some r := by rw [if_neg (show ¬ (false = true) by decide)] at H; exact H
                    clear H
                    have H := H1
                    clear H1
                    by_cases c41 : (t426 != false) = true
                    · rw [if_pos c41] at H
                      have c41b0 : (t426 != false) = true := c41
                      (try (have c41b1 : decide (t426 = false) = false := by simpa using c41))
                      (try (have c41b2 : (t426 == false) = false := by simpa using c41))
                      (try (have c41b3 : ¬ (t426 = false) := by simpa using c41))
                      have Eb1 := Aside0.mk (show t426 = true by simpa using c41)
                      have Eb2 := Aside0.mk (show t430 = true by have eb_ := c23b0; rw [Eb1.out] at eb_; simpa using eb_)
                      clear c41
                      have H' := Aside0.mk H
                      clear H
                      obtain ⟨Ao42, co42, eo42⟩ := Kd.R_slice HO428.out
                      subst eo42
                      obtain ⟨Ao43, co43, eo43⟩ := Kd.R_slice HO432.out
                      subst eo43
                      go_wp2_with (first | (go_at_call 12; (with_reducible refine (laws_wSame.calls k _ _ t425 _ _ t429 true _ ?side1 ?side2 ?side3 ?side4 A24.out).mono ?_); (case side1 => repeat (first | exact (Kd.R_reads' HO428.out).2.2 | (with_reducible refine Kd.C_alloc ?_ _) | (with_reducible refine Kd.C_drewN ?_ _) | (with_reducible refine Kd.C_drew ?_))); (case side2 => exact (Kd.R_reads' HO428.out).2.1); (case side3 => repeat (first | exact (Kd.R_reads' HO432.out).2.2 | (with_reducible refine Kd.C_alloc ?_ _) | (with_reducible refine Kd.C_drewN ?_ _) | (with_reducible refine Kd.C_drew ?_))); (case side4 => exact (Kd.R_reads' HO432.out).2.1); rintro e w' ⟨rfl, ⟨nd, rfl⟩⟩; obtain ⟨Ao44, co44, eo44⟩ := Kd.R_slice HO436.out; subst eo44; obtain ⟨Ao45, co45, eo45⟩ := Kd.R_slice HO440.out; subst eo45) | (go_at_call 12; (with_reducible refine (laws_wSame.calls k _ _ t433 _ _ t437 true _ ?side1 ?side2 ?side3 ?side4 A29.out).mono ?_); (case side1 => repeat (first | exact (Kd.R_reads' HO436.out).2.2 | (with_reducible refine Kd.C_alloc ?_ _) | (with_reducible refine Kd.C_drewN ?_ _) | (with_reducible refine Kd.C_drew ?_))); (case side2 => exact (Kd.R_reads' HO436.out).2.1); (case side3 => repeat (first | exact (Kd.R_reads' HO440.out).2.2 | (with_reducible refine Kd.C_alloc ?_ _) | (with_reducible refine Kd.C_drewN ?_ _) | (with_reducible refine Kd.C_drew ?_))); (case side4 => exact (Kd.R_reads' HO440.out).2.1); rintro e w' ⟨rfl, ⟨nd, rfl⟩⟩))
                      all_goals (try exact absurd Eb2.out (by assumption))
                      have eb1_ := Eb1.out
                      have eb2_ := Eb2.out
                      subst eb1_
                      subst eb2_
                      go_meet
                      case rel => exact ⟨_, (true), (by first | rfl | (simp; done) | (simp [*]; done)), H', ⟨by first | omega | exact Nat.le_refl _⟩, ⟨by (with_reducible repeat (first | apply Kd.R_alloc | apply Kd.R_drewN | apply Kd.R_drew)); exact Kd.R_mono HO420.out (fun _ hk => ⟨hk.1.1.1.2, hk.1.2⟩)⟩, ⟨by (with_reducible repeat (first | apply Kd.R_alloc | apply Kd.R_drewN | apply Kd.R_drew)); exact Kd.R_mono HO428.out (fun _ hk => ⟨hk.1.1.1.2, hk.1.2⟩)⟩, ⟨by (with_reducible repeat (first | apply Kd.R_alloc | apply Kd.R_drewN | apply Kd.R_drew)); exact Kd.R_mono HO436.out (fun _ hk => ⟨hk.1.1.1.2, hk.1.1.2⟩)⟩, ⟨by repeat (first | (with_reducible first | exact HB.out | apply below_alloc | apply pw_below_drewN | apply below_drew1) | exact HB.out)⟩⟩
                    · rw [if_neg c41] at H
                      have c41b0 : (t426 != false) = false := by simpa using c41
                      (try (have c41b1 : decide (t426 = false) = true := by simpa using c41))
                      (try (have c41b2 : (t426 == false) = true := by simpa using c41))
                      clear c41
                      have H' := Aside0.mk H
                      clear H
                      obtain ⟨Ao46, co46, eo46⟩ := Kd.R_slice HO428.out
                      subst eo46
                      obtain ⟨Ao47, co47, eo47⟩ := Kd.R_slice HO432.out
                      subst eo47
                      go_wp2_with (first | (go_at_call 12; (with_reducible refine (laws_wSame.calls k _ _ t425 _ _ t429 true _ ?side1 ?side2 ?side3 ?side4 A24.out).mono ?_); (case side1 => repeat (first | exact (Kd.R_reads' HO428.out).2.2 | (with_reducible refine Kd.C_alloc ?_ _) | (with_reducible refine Kd.C_drewN ?_ _) | (with_reducible refine Kd.C_drew ?_))); (case side2 => exact (Kd.R_reads' HO428.out).2.1); (case side3 => repeat (first | exact (Kd.R_reads' HO432.out).2.2 | (with_reducible refine Kd.C_alloc ?_ _) | (with_reducible refine Kd.C_drewN ?_ _) | (with_reducible refine Kd.C_drew ?_))); (case side4 => exact (Kd.R_reads' HO432.out).2.1); rintro e w' ⟨rfl, ⟨nd, rfl⟩⟩; obtain ⟨Ao48, co48, eo48⟩ := Kd.R_slice HO436.out; subst eo48; obtain ⟨Ao49, co49, eo49⟩ := Kd.R_slice HO440.out; subst eo49) | (go_at_call 12; (with_reducible refine (laws_wSame.calls k _ _ t433 _ _ t437 true _ ?side1 ?side2 ?side3 ?side4 A29.out).mono ?_); (case side1 => repeat (first | exact (Kd.R_reads' HO436.out).2.2 | (with_reducible refine Kd.C_alloc ?_ _) | (with_reducible refine Kd.C_drewN ?_ _) | (with_reducible refine Kd.C_drew ?_))); (case side2 => exact (Kd.R_reads' HO436.out).2.1); (case side3 => repeat (first | exact (Kd.R_reads' HO440.out).2.2 | (with_reducible refine Kd.C_alloc ?_ _) | (with_reducible refine Kd.C_drewN ?_ _) | (with_reducible refine Kd.C_drew ?_))); (case side4 => exact (Kd.R_reads' HO440.out).2.1); rintro e w' ⟨rfl, ⟨nd, rfl⟩⟩))
                      go_meet
                      case rel => exact ⟨_, ((t434 != t426)), (by first | rfl | (simp; done) | (simp [*]; done)), H', ⟨by first | omega | exact Nat.le_refl _⟩, ⟨by (with_reducible repeat (first | apply Kd.R_alloc | apply Kd.R_drewN | apply Kd.R_drew)); exact Kd.R_mono HO420.out (fun _ hk => ⟨hk.1.1.1.2, hk.1.2⟩)⟩, ⟨by (with_reducible repeat (first | apply Kd.R_alloc | apply Kd.R_drewN | apply Kd.R_drew)); exact Kd.R_mono HO428.out (fun _ hk => ⟨hk.1.1.1.2, hk.1.2⟩)⟩, ⟨by (with_reducible repeat (first | apply Kd.R_alloc | apply Kd.R_drewN | apply Kd.R_drew)); exact Kd.R_mono HO436.out (fun _ hk => ⟨hk.1.1.1.2, hk.1.1.2⟩)⟩, ⟨by repeat (first | (with_reducible first | exact HB.out | apply below_alloc | apply pw_below_drewN | apply below_drew1) | exact HB.out)⟩⟩
                · replace c30 := Bool.eq_false_iff.mpr c30
                  subst c30
                  have H1 : (laws_FnRecurrentSand.j0 k l1 t418 t421 t425 t426 t433 true) = some r := by rw [if_neg (show ¬ (false = true) by decide)] at H; exact H
                  clear H
                  have H := H1
                  clear H1
                  have H' := Aside0.mk H
                  clear H
                  obtain ⟨Ao50, co50, eo50⟩ := Kd.R_slice HO428.out
                  subst eo50
                  obtain ⟨Ao51, co51, eo51⟩ := Kd.R_slice HO432.out
                  subst eo51
                  go_wp2_with (first | (go_at_call 12; (with_reducible refine (laws_wSame.calls k _ _ t425 _ _ t429 true _ ?side1 ?side2 ?side3 ?side4 A24.out).mono ?_); (case side1 => repeat (first | exact (Kd.R_reads' HO428.out).2.2 | (with_reducible refine Kd.C_alloc ?_ _) | (with_reducible refine Kd.C_drewN ?_ _) | (with_reducible refine Kd.C_drew ?_))); (case side2 => exact (Kd.R_reads' HO428.out).2.1); (case side3 => repeat (first | exact (Kd.R_reads' HO432.out).2.2 | (with_reducible refine Kd.C_alloc ?_ _) | (with_reducible refine Kd.C_drewN ?_ _) | (with_reducible refine Kd.C_drew ?_))); (case side4 => exact (Kd.R_reads' HO432.out).2.1); rintro e w' ⟨rfl, ⟨nd, rfl⟩⟩; obtain ⟨Ao52, co52, eo52⟩ := Kd.R_slice HO436.out; subst eo52; obtain ⟨Ao53, co53, eo53⟩ := Kd.R_slice HO440.out; subst eo53) | (go_at_call 12; (with_reducible refine (laws_wSame.calls k _ _ t433 _ _ t437 false _ ?side1 ?side2 ?side3 ?side4 A29.out).mono ?_); (case side1 => repeat (first | exact (Kd.R_reads' HO436.out).2.2 | (with_reducible refine Kd.C_alloc ?_ _) | (with_reducible refine Kd.C_drewN ?_ _) | (with_reducible refine Kd.C_drew ?_))); (case side2 => exact (Kd.R_reads' HO436.out).2.1); (case side3 => repeat (first | exact (Kd.R_reads' HO440.out).2.2 | (with_reducible refine Kd.C_alloc ?_ _) | (with_reducible refine Kd.C_drewN ?_ _) | (with_reducible refine Kd.C_drew ?_))); (case side4 => exact (Kd.R_reads' HO440.out).2.1); rintro e w' ⟨rfl, ⟨nd, rfl⟩⟩))
                  go_meet
                  case rel => exact ⟨_, (true), (by first | rfl | (simp; done) | (simp [*]; done)), H', ⟨by first | omega | exact Nat.le_refl _⟩, ⟨by (with_reducible repeat (first | apply Kd.R_alloc | apply Kd.R_drewN | apply Kd.R_drew)); exact Kd.R_mono HO420.out (fun _ hk => ⟨hk.1.1.1.2, hk.1.2⟩)⟩, ⟨by (with_reducible repeat (first | apply Kd.R_alloc | apply Kd.R_drewN | apply Kd.R_drew)); exact Kd.R_mono HO428.out (fun _ hk => ⟨hk.1.1.1.2, hk.1.2⟩)⟩, ⟨by (with_reducible repeat (first | apply Kd.R_alloc | apply Kd.R_drewN | apply Kd.R_drew)); exact Kd.R_mono HO436.out (fun _ hk => ⟨hk.1.1.1.2, hk.1.1.2⟩)⟩, ⟨by repeat (first | (with_reducible first | exact HB.out | apply below_alloc | apply pw_below_drewN | apply below_drew1) | exact HB.out)⟩⟩
            · replace c25 := Bool.eq_false_iff.mpr c25
              subst c25
              have H1 : (laws_FnRecurrentSand.j0 k l1 t418 t421 t425 t426 t433 true) = some r := by rw [if_neg (show ¬ (false = true) by decide)] at H; exact H
              clear H
              have H := H1
              clear H1
              have H' := Aside0.mk H
              clear H
              obtain ⟨Ao54, co54, eo54⟩ := Kd.R_slice HO428.out
              subst eo54
              obtain ⟨Ao55, co55, eo55⟩ := Kd.R_slice HO432.out
              subst eo55
              go_wp2_with (first | (go_at_call 12; (with_reducible refine (laws_wSame.calls k _ _ t425 _ _ t429 false _ ?side1 ?side2 ?side3 ?side4 A24.out).mono ?_); (case side1 => repeat (first | exact (Kd.R_reads' HO428.out).2.2 | (with_reducible refine Kd.C_alloc ?_ _) | (with_reducible refine Kd.C_drewN ?_ _) | (with_reducible refine Kd.C_drew ?_))); (case side2 => exact (Kd.R_reads' HO428.out).2.1); (case side3 => repeat (first | exact (Kd.R_reads' HO432.out).2.2 | (with_reducible refine Kd.C_alloc ?_ _) | (with_reducible refine Kd.C_drewN ?_ _) | (with_reducible refine Kd.C_drew ?_))); (case side4 => exact (Kd.R_reads' HO432.out).2.1); rintro e w' ⟨rfl, ⟨nd, rfl⟩⟩))
              go_meet
              case rel => exact ⟨_, (true), (by first | rfl | (simp; done) | (simp [*]; done)), H', ⟨by first | omega | exact Nat.le_refl _⟩, ⟨by (with_reducible repeat (first | apply Kd.R_alloc | apply Kd.R_drewN | apply Kd.R_drew)); exact Kd.R_mono HO420.out (fun _ hk => ⟨hk.1.1.1.2, hk.1.2⟩)⟩, ⟨by (with_reducible repeat (first | apply Kd.R_alloc | apply Kd.R_drewN | apply Kd.R_drew)); exact Kd.R_mono HO428.out (fun _ hk => ⟨hk.1.1.1.2, hk.1.2⟩)⟩, ⟨by (with_reducible repeat (first | apply Kd.R_alloc | apply Kd.R_drewN | apply Kd.R_drew)); exact Kd.R_mono HO436.out (fun _ hk => ⟨hk.1.1.1.2, hk.1.1.2⟩)⟩, ⟨by repeat (first | (with_reducible first | exact HB.out | apply below_alloc | apply pw_below_drewN | apply below_drew1) | exact HB.out)⟩⟩
    case rest =>
      clear HC12
      try clear c1
      try clear c2
      try clear p2
      try clear c3
      try clear c4
      try clear c5
      try clear c6
      try clear c7
      try clear c8
      try clear c9
      try clear c10
      try clear c11
      try clear c21
      try clear c21b0
      try clear c21b1
      try clear c21b2
      try clear c22
      try clear c22b0
      try clear c22b1
      try clear c22b2
      try clear c23
      try clear c23b0
      try clear c23b1
      try clear c23b2
      try clear c25
      try clear c26
      try clear c26b0
      try clear c26b1
      try clear c26b2
      try clear c30
      try clear c31
      try clear c32
      try clear c32b0
      try clear c32b1
      try clear c32b2
      try clear c41
      try clear c41b0
      try clear c41b1
      try clear c41b2
      obtain ⟨kq, x111_11, rfl, HA, HJ11, HO_5, HO_10, HO_14, HB⟩ := hcut
      cases kq with
      | zero => exact absurd HA.out (by simp [laws_FnRecurrentSand.j0])
      | succ kj11 =>
        have H := HA.out
        clear HA
        simp only [laws_FnRecurrentSand.j0] at H
        by_cases c56 : x111_11 = true
        · subst c56
          have H1 : (some false) = some r := by rw [if_pos rfl] at H; exact H
          clear H
          have H := H1
          clear H1
          obtain rfl := Option.some.inj H
          go_wp2
          go_ret
          exact ⟨by first | rfl | (simp [errW_none, errW_some] <;> rfl) | (simp [*, errW_none, errW_some] <;> rfl), by repeat (first | (with_reducible first | exact HB.out | apply below_alloc | apply pw_below_drewN | apply below_drew1) | exact HB.out)⟩
        · as_aux_lemma =>
          replace c56 := Bool.eq_false_iff.mpr c56
          subst c56
          have H1 : ((spec_DrawSandOfParking.f kj11 l1).bind fun t443 => ((impl_SandOfParking.f kj11 t443).bind fun bt446 => ((spec_SandOfParking.f kj11 t443).bind fun bt450 => (if (bt446.2 != bt450.2) = true then (laws_FnRecurrentSand.j1 kj11 t418 t421 t425 t426 t433 t443 bt446.1 bt446.2 true) else ((laws_wSame.f kj11 bt446.1 bt450.1).bind fun t454 => (laws_FnRecurrentSand.j1 kj11 t418 t421 t425 t426 t433 t443 bt446.1 bt446.2 (!t454))))))) = some r := by rw [if_neg (show ¬ (false = true) by decide)] at H; exact H
          clear H
          have H := H1
          clear H1
          replace H := Option.bind_eq_some_iff.mp H
          obtain ⟨t443, A570, H⟩ := H
          replace H : ((impl_SandOfParking.f kj11 t443).bind fun bt446 => ((spec_SandOfParking.f kj11 t443).bind fun bt450 => (if (bt446.2 != bt450.2) = true then (laws_FnRecurrentSand.j1 kj11 t418 t421 t425 t426 t433 t443 bt446.1 bt446.2 true) else ((laws_wSame.f kj11 bt446.1 bt450.1).bind fun t454 => (laws_FnRecurrentSand.j1 kj11 t418 t421 t425 t426 t433 t443 bt446.1 bt446.2 (!t454)))))) = some r := H
          have A57 := Aside0.mk A570
          clear A570
          replace H := Option.bind_eq_some_iff.mp H
          obtain ⟨⟨t446, t447⟩, A580, H⟩ := H
          replace H : ((spec_SandOfParking.f kj11 t443).bind fun bt450 => (if (t447 != bt450.2) = true then (laws_FnRecurrentSand.j1 kj11 t418 t421 t425 t426 t433 t443 t446 t447 true) else ((laws_wSame.f kj11 t446 bt450.1).bind fun t454 => (laws_FnRecurrentSand.j1 kj11 t418 t421 t425 t426 t433 t443 t446 t447 (!t454))))) = some r := H
          have A58 := Aside0.mk A580
          clear A580
          replace H := Option.bind_eq_some_iff.mp H
          obtain ⟨⟨t450, t451⟩, A590, H⟩ := H
          replace H : (if (t447 != t451) = true then (laws_FnRecurrentSand.j1 kj11 t418 t421 t425 t426 t433 t443 t446 t447 true) else ((laws_wSame.f kj11 t446 t450).bind fun t454 => (laws_FnRecurrentSand.j1 kj11 t418 t421 t425 t426 t433 t443 t446 t447 (!t454)))) = some r := H
          have A59 := Aside0.mk A590
          clear A590
          have HC60 := Aside0.mk H
          clear H
          go_upto_region 15 with (first | ((with_reducible refine gate_callee (f := 13) rfl ?_); refine goesL_ (some 113) rfl rfl Try.func13 (by kernel_rfl) rfl #[.slice A1 l1.length c1] rfl (by (try simp only [List.map_toArray, List.map_cons, List.map_nil]); first | done | rfl | (simp only [List.length_drop, List.length_take]; rfl)) ?_; (with_reducible refine (spec_DrawSandOfParking.calls kj11 _ _ l1 t443 _ ?side1 ?side2 A57.out).mono ?_); (case side1 => repeat (first | exact (Kd.C_below HR1.out HB.out) | (with_reducible refine Kd.C_alloc ?_ _) | (with_reducible refine Kd.C_drewN ?_ _) | (with_reducible refine Kd.C_drew ?_))); (case side2 => exact HC1.out); rintro e w61 ⟨v444, rfl, ho0, hb⟩; refine ⟨_, rfl, ?_⟩; have n0_ := Aside0.mk (Kd.R_elder' (by (with_reducible repeat (first | apply Kd.R_alloc | apply Kd.R_drewN | apply Kd.R_drew)); exact HO_5.out) (Kd.R_base ho0) hb); have n1_ := Aside0.mk (Kd.R_elder' (by (with_reducible repeat (first | apply Kd.R_alloc | apply Kd.R_drewN | apply Kd.R_drew)); exact HO_10.out) (Kd.R_base ho0) hb); have n2_ := Aside0.mk (Kd.R_elder' (by (with_reducible repeat (first | apply Kd.R_alloc | apply Kd.R_drewN | apply Kd.R_drew)); exact HO_14.out) (Kd.R_base ho0) hb); have n3_ := Aside0.mk (Kd.R_lower (Kd.R_new' (Kd.R_new' (Kd.R_new' ho0 (Kd.R_lt (by (with_reducible repeat (first | apply Kd.R_alloc | apply Kd.R_drewN | apply Kd.R_drew)); exact HO_5.out))) (Kd.R_lt (by (with_reducible repeat (first | apply Kd.R_alloc | apply Kd.R_drewN | apply Kd.R_drew)); exact HO_10.out))) (Kd.R_lt (by (with_reducible repeat (first | apply Kd.R_alloc | apply Kd.R_drewN | apply Kd.R_drew)); exact HO_14.out))) (below_size (by repeat (first | (with_reducible first | exact HB.out | apply below_alloc | apply pw_below_drewN | apply below_drew1) | exact HB.out)))); have n4_ := Aside0.mk (below_step (by repeat (first | (with_reducible first | exact HB.out | apply below_alloc | apply pw_below_drewN | apply below_drew1) | exact HB.out)) hb); clear HO_5; clear HO_10; clear HO_14; clear HB; have HO_5 := n0_; have HO_10 := n1_; have HO_14 := n2_; have HO445 := n3_; have HB := n4_; clear n0_ n1_ n2_ n3_ n4_; (try clear hb); (try clear hb2); (try clear hk); (try clear hi); (try clear ho0); obtain ⟨Ao62, co62, eo62⟩ := Kd.R_slice HO445.out; subst eo62) | ((with_reducible refine gate_callee (f := 14) rfl ?_); refine goesL_ (some 116) rfl rfl Try.func14 (by kernel_rfl) rfl #[.slice Ao62 t443.length co62] rfl (by (try simp only [List.map_toArray, List.map_cons, List.map_nil]); first | done | rfl | (simp only [List.length_drop, List.length_take]; rfl)) ?_; (with_reducible refine (impl_SandOfParking.calls kj11 _ _ t443 t446 t447 _ ?side1 ?side2 A58.out).mono ?_); (case side1 => repeat (first | exact (Kd.R_reads' HO445.out).2.2 | (with_reducible refine Kd.C_alloc ?_ _) | (with_reducible refine Kd.C_drewN ?_ _) | (with_reducible refine Kd.C_drew ?_))); (case side2 => exact (Kd.R_reads' HO445.out).2.1); rintro e w63 ⟨v448, rfl, ho0, hb⟩; refine ⟨_, rfl, ?_⟩; have n0_ := Aside0.mk (Kd.R_elder' (by (with_reducible repeat (first | apply Kd.R_alloc | apply Kd.R_drewN | apply Kd.R_drew)); exact HO_5.out) (Kd.R_base ho0) hb); have n1_ := Aside0.mk (Kd.R_elder' (by (with_reducible repeat (first | apply Kd.R_alloc | apply Kd.R_drewN | apply Kd.R_drew)); exact HO_10.out) (Kd.R_base ho0) hb); have n2_ := Aside0.mk (Kd.R_elder' (by (with_reducible repeat (first | apply Kd.R_alloc | apply Kd.R_drewN | apply Kd.R_drew)); exact HO_14.out) (Kd.R_base ho0) hb); have n3_ := Aside0.mk (Kd.R_elder' (by (with_reducible repeat (first | apply Kd.R_alloc | apply Kd.R_drewN | apply Kd.R_drew)); exact HO445.out) (Kd.R_base ho0) hb); have n4_ := Aside0.mk (Kd.R_lower (Kd.R_new' (Kd.R_new' (Kd.R_new' (Kd.R_new' ho0 (Kd.R_lt (by (with_reducible repeat (first | apply Kd.R_alloc | apply Kd.R_drewN | apply Kd.R_drew)); exact HO_5.out))) (Kd.R_lt (by (with_reducible repeat (first | apply Kd.R_alloc | apply Kd.R_drewN | apply Kd.R_drew)); exact HO_10.out))) (Kd.R_lt (by (with_reducible repeat (first | apply Kd.R_alloc | apply Kd.R_drewN | apply Kd.R_drew)); exact HO_14.out))) (Kd.R_lt (by (with_reducible repeat (first | apply Kd.R_alloc | apply Kd.R_drewN | apply Kd.R_drew)); exact HO445.out))) (below_size (by repeat (first | (with_reducible first | exact HB.out | apply below_alloc | apply pw_below_drewN | apply below_drew1) | exact HB.out)))); have n5_ := Aside0.mk (below_step (by repeat (first | (with_reducible first | exact HB.out | apply below_alloc | apply pw_below_drewN | apply below_drew1) | exact HB.out)) hb); clear HO_5; clear HO_10; clear HO_14; clear HO445; clear HB; have HO_5 := n0_; have HO_10 := n1_; have HO_14 := n2_; have HO445 := n3_; have HO449 := n4_; have HB := n5_; clear n0_ n1_ n2_ n3_ n4_ n5_; (try clear hb); (try clear hb2); (try clear hk); (try clear hi); (try clear ho0)) | ((with_reducible refine gate_callee (f := 15) rfl ?_); refine goesL_ (some 121) rfl rfl Try.func15 (by kernel_rfl) rfl #[.slice Ao62 t443.length co62] rfl (by (try simp only [List.map_toArray, List.map_cons, List.map_nil]); first | done | rfl | (simp only [List.length_drop, List.length_take]; rfl)) ?_; (with_reducible refine (spec_SandOfParking.calls kj11 _ _ t443 t450 t451 _ ?side1 ?side2 A59.out).mono ?_); (case side1 => repeat (first | exact (Kd.R_reads' HO445.out).2.2 | (with_reducible refine Kd.C_alloc ?_ _) | (with_reducible refine Kd.C_drewN ?_ _) | (with_reducible refine Kd.C_drew ?_))); (case side2 => exact (Kd.R_reads' HO445.out).2.1); rintro e w64 ⟨v452, rfl, ho0, hb⟩; refine ⟨_, rfl, ?_⟩; have n0_ := Aside0.mk (Kd.R_elder' (by (with_reducible repeat (first | apply Kd.R_alloc | apply Kd.R_drewN | apply Kd.R_drew)); exact HO_5.out) (Kd.R_base ho0) hb); have n1_ := Aside0.mk (Kd.R_elder' (by (with_reducible repeat (first | apply Kd.R_alloc | apply Kd.R_drewN | apply Kd.R_drew)); exact HO_10.out) (Kd.R_base ho0) hb); have n2_ := Aside0.mk (Kd.R_elder' (by (with_reducible repeat (first | apply Kd.R_alloc | apply Kd.R_drewN | apply Kd.R_drew)); exact HO_14.out) (Kd.R_base ho0) hb); have n3_ := Aside0.mk (Kd.R_elder' (by (with_reducible repeat (first | apply Kd.R_alloc | apply Kd.R_drewN | apply Kd.R_drew)); exact HO445.out) (Kd.R_base ho0) hb); have n4_ := Aside0.mk (Kd.R_elder' (by (with_reducible repeat (first | apply Kd.R_alloc | apply Kd.R_drewN | apply Kd.R_drew)); exact HO449.out) (Kd.R_base ho0) hb); have n5_ := Aside0.mk (Kd.R_lower (Kd.R_new' (Kd.R_new' (Kd.R_new' (Kd.R_new' (Kd.R_new' ho0 (Kd.R_lt (by (with_reducible repeat (first | apply Kd.R_alloc | apply Kd.R_drewN | apply Kd.R_drew)); exact HO_5.out))) (Kd.R_lt (by (with_reducible repeat (first | apply Kd.R_alloc | apply Kd.R_drewN | apply Kd.R_drew)); exact HO_10.out))) (Kd.R_lt (by (with_reducible repeat (first | apply Kd.R_alloc | apply Kd.R_drewN | apply Kd.R_drew)); exact HO_14.out))) (Kd.R_lt (by (with_reducible repeat (first | apply Kd.R_alloc | apply Kd.R_drewN | apply Kd.R_drew)); exact HO445.out))) (Kd.R_lt (by (with_reducible repeat (first | apply Kd.R_alloc | apply Kd.R_drewN | apply Kd.R_drew)); exact HO449.out))) (below_size (by repeat (first | (with_reducible first | exact HB.out | apply below_alloc | apply pw_below_drewN | apply below_drew1) | exact HB.out)))); have n6_ := Aside0.mk (below_step (by repeat (first | (with_reducible first | exact HB.out | apply below_alloc | apply pw_below_drewN | apply below_drew1) | exact HB.out)) hb); clear HO_5; clear HO_10; clear HO_14; clear HO445; clear HO449; clear HB; have HO_5 := n0_; have HO_10 := n1_; have HO_14 := n2_; have HO445 := n3_; have HO449 := n4_; have HO453 := n5_; have HB := n6_; clear n0_ n1_ n2_ n3_ n4_ n5_ n6_; (try clear hb); (try clear hb2); (try clear hk); (try clear hi); (try clear ho0)))
          (try simp only [Act.put, List.setIfInBounds_toArray, List.set_cons_zero, List.set_cons_succ])
          go_cut [132] (fun v132 wc => ∃ (kq : Nat) (x132_59 : Bool), v132 = .bool x132_59 ∧ Aside0 (laws_FnRecurrentSand.j1 kq t418 t421 t425 t426 t433 t443 t446 t447 x132_59 = some r) ∧ Aside0 (kq ≤ kj11) ∧ Aside0 (Kd.R (Kd.int .i64) 3 wc w.heap.size (fun k_ => some k_ ≠ (v427 : Value).ownBlock ∧ some k_ ≠ (v435 : Value).ownBlock ∧ some k_ ≠ ((.slice Ao62 t443.length co62) : Value).ownBlock ∧ some k_ ≠ (v448 : Value).ownBlock) (.slice Ao14 t418.length co14) t418) ∧ Aside0 (Kd.R (Kd.int .i64) 3 wc w.heap.size (fun k_ => some k_ ≠ ((.slice Ao14 t418.length co14) : Value).ownBlock ∧ some k_ ≠ (v435 : Value).ownBlock ∧ some k_ ≠ ((.slice Ao62 t443.length co62) : Value).ownBlock ∧ some k_ ≠ (v448 : Value).ownBlock) v427 t425) ∧ Aside0 (Kd.R (Kd.int .i64) 3 wc w.heap.size (fun k_ => some k_ ≠ ((.slice Ao14 t418.length co14) : Value).ownBlock ∧ some k_ ≠ (v427 : Value).ownBlock ∧ some k_ ≠ ((.slice Ao62 t443.length co62) : Value).ownBlock ∧ some k_ ≠ (v448 : Value).ownBlock) v435 t433) ∧ Aside0 (Kd.R (Kd.int .i64) 3 wc w.heap.size (fun k_ => some k_ ≠ ((.slice Ao14 t418.length co14) : Value).ownBlock ∧ some k_ ≠ (v427 : Value).ownBlock ∧ some k_ ≠ (v435 : Value).ownBlock ∧ some k_ ≠ (v448 : Value).ownBlock) (.slice Ao62 t443.length co62) t443) ∧ Aside0 (Kd.R (Kd.int .i64) 3 wc w.heap.size (fun k_ => some k_ ≠ ((.slice Ao14 t418.length co14) : Value).ownBlock ∧ some k_ ≠ (v427 : Value).ownBlock ∧ some k_ ≠ (v435 : Value).ownBlock ∧ some k_ ≠ ((.slice Ao62 t443.length co62) : Value).ownBlock) v448 t446) ∧ Aside0 (Below w.heap.size w wc))
          case first =>
            have H := HC60.out
            clear HC60
            by_cases c65 : (t447 != t451) = true
            · rw [if_pos c65] at H
              have c65b0 : (t447 != t451) = true := c65
              (try (have c65b1 : decide (t447 = t451) = false := by simpa using c65))
              (try (have c65b2 : (t447 == t451) = false := by simpa using c65))
              (try (have c65b3 : ¬ (t447 = t451) := by simpa using c65))
              clear c65
              (first | rw [c65b0] | (simp only [i64_w, i32_w]; rw [c65b0]) | skip)
              have H' := Aside0.mk H
              clear H
              go_wp2
              go_meet
              case rel => exact ⟨_, (true), (by first | rfl | (simp; done) | (simp [*]; done)), H', ⟨by have := HJ11.out; first | omega | exact Nat.le_refl _⟩, ⟨by (with_reducible repeat (first | apply Kd.R_alloc | apply Kd.R_drewN | apply Kd.R_drew)); exact Kd.R_mono HO_5.out (fun _ hk => ⟨hk.1.1.1.1, ⟨hk.1.1.1.2, ⟨hk.1.1.2, hk.1.2⟩⟩⟩)⟩, ⟨by (with_reducible repeat (first | apply Kd.R_alloc | apply Kd.R_drewN | apply Kd.R_drew)); exact Kd.R_mono HO_10.out (fun _ hk => ⟨hk.1.1.1.1, ⟨hk.1.1.1.2, ⟨hk.1.1.2, hk.1.2⟩⟩⟩)⟩, ⟨by (with_reducible repeat (first | apply Kd.R_alloc | apply Kd.R_drewN | apply Kd.R_drew)); exact Kd.R_mono HO_14.out (fun _ hk => ⟨hk.1.1.1.1, ⟨hk.1.1.1.2, ⟨hk.1.1.2, hk.1.2⟩⟩⟩)⟩, ⟨by (with_reducible repeat (first | apply Kd.R_alloc | apply Kd.R_drewN | apply Kd.R_drew)); exact Kd.R_mono HO445.out (fun _ hk => ⟨hk.1.1.1.1.2, ⟨hk.1.1.1.2, ⟨hk.1.1.2, hk.1.2⟩⟩⟩)⟩, ⟨by (with_reducible repeat (first | apply Kd.R_alloc | apply Kd.R_drewN | apply Kd.R_drew)); exact Kd.R_mono HO449.out (fun _ hk => ⟨hk.1.1.1.1.2, ⟨hk.1.1.1.2, ⟨hk.1.1.2, hk.1.2⟩⟩⟩)⟩, ⟨by repeat (first | (with_reducible first | exact HB.out | apply below_alloc | apply pw_below_drewN | apply below_drew1) | exact HB.out)⟩⟩
            · rw [if_neg c65] at H
              have c65b0 : (t447 != t451) = false := by simpa using c65
              (try (have c65b1 : decide (t447 = t451) = true := by simpa using c65))
              (try (have c65b2 : (t447 == t451) = true := by simpa using c65))
              clear c65
              (first | rw [c65b0] | (simp only [i64_w, i32_w]; rw [c65b0]) | skip)
              replace H := Option.bind_eq_some_iff.mp H
              obtain ⟨t454, A660, H⟩ := H
              replace H : (laws_FnRecurrentSand.j1 kj11 t418 t421 t425 t426 t433 t443 t446 t447 (!t454)) = some r := H
              have A66 := Aside0.mk A660
              clear A660
              have H' := Aside0.mk H
              clear H
              obtain ⟨Ao67, co67, eo67⟩ := Kd.R_slice HO449.out
              subst eo67
              obtain ⟨Ao68, co68, eo68⟩ := Kd.R_slice HO453.out
              subst eo68
              go_wp2_with (first | (go_at_call 12; (with_reducible refine (laws_wSame.calls kj11 _ _ t446 _ _ t450 t454 _ ?side1 ?side2 ?side3 ?side4 A66.out).mono ?_); (case side1 => repeat (first | exact (Kd.R_reads' HO449.out).2.2 | (with_reducible refine Kd.C_alloc ?_ _) | (with_reducible refine Kd.C_drewN ?_ _) | (with_reducible refine Kd.C_drew ?_))); (case side2 => exact (Kd.R_reads' HO449.out).2.1); (case side3 => repeat (first | exact (Kd.R_reads' HO453.out).2.2 | (with_reducible refine Kd.C_alloc ?_ _) | (with_reducible refine Kd.C_drewN ?_ _) | (with_reducible refine Kd.C_drew ?_))); (case side4 => exact (Kd.R_reads' HO453.out).2.1); rintro e w' ⟨rfl, ⟨nd, rfl⟩⟩))
              go_meet
              case rel => exact ⟨_, (!t454), (by first | rfl | (simp; done) | (simp [*]; done)), H', ⟨by have := HJ11.out; first | omega | exact Nat.le_refl _⟩, ⟨by (with_reducible repeat (first | apply Kd.R_alloc | apply Kd.R_drewN | apply Kd.R_drew)); exact Kd.R_mono HO_5.out (fun _ hk => ⟨hk.1.1.1.1, ⟨hk.1.1.1.2, ⟨hk.1.1.2, hk.1.2⟩⟩⟩)⟩, ⟨by (with_reducible repeat (first | apply Kd.R_alloc | apply Kd.R_drewN | apply Kd.R_drew)); exact Kd.R_mono HO_10.out (fun _ hk => ⟨hk.1.1.1.1, ⟨hk.1.1.1.2, ⟨hk.1.1.2, hk.1.2⟩⟩⟩)⟩, ⟨by (with_reducible repeat (first | apply Kd.R_alloc | apply Kd.R_drewN | apply Kd.R_drew)); exact Kd.R_mono HO_14.out (fun _ hk => ⟨hk.1.1.1.1, ⟨hk.1.1.1.2, ⟨hk.1.1.2, hk.1.2⟩⟩⟩)⟩, ⟨by (with_reducible repeat (first | apply Kd.R_alloc | apply Kd.R_drewN | apply Kd.R_drew)); exact Kd.R_mono HO445.out (fun _ hk => ⟨hk.1.1.1.1.2, ⟨hk.1.1.1.2, ⟨hk.1.1.2, hk.1.2⟩⟩⟩)⟩, ⟨by (with_reducible repeat (first | apply Kd.R_alloc | apply Kd.R_drewN | apply Kd.R_drew)); exact Kd.R_mono HO449.out (fun _ hk => ⟨hk.1.1.1.1.2, ⟨hk.1.1.1.2, ⟨hk.1.1.2, hk.1.2⟩⟩⟩)⟩, ⟨by repeat (first | (with_reducible first | exact HB.out | apply below_alloc | apply pw_below_drewN | apply below_drew1) | exact HB.out)⟩⟩
          case rest =>
            clear HC60
            try clear c1
            try clear c2
            try clear p2
            try clear c3
            try clear c4
            try clear c5
            try clear c6
            try clear c7
            try clear c8
            try clear c9
            try clear c10
            try clear c11
            try clear c13
            try clear c14
            try clear c15
            try clear c21
            try clear c21b0
            try clear c21b1
            try clear c21b2
            try clear c22
            try clear c22b0
            try clear c22b1
            try clear c22b2
            try clear c23
            try clear c23b0
            try clear c23b1
            try clear c23b2
            try clear c25
            try clear c26
            try clear c26b0
            try clear c26b1
            try clear c26b2
            try clear c30
            try clear c31
            try clear c32
            try clear c32b0
            try clear c32b1
            try clear c32b2
            try clear c41
            try clear c41b0
            try clear c41b1
            try clear c41b2
            try clear c56
            try clear c65
            try clear c65b0
            try clear c65b1
            try clear c65b2
            try clear p2
            obtain ⟨kq, x132_59, rfl, HA, HJ59, HO_5, HO_10, HO_14, HO_18, HO_19, HB⟩ := hcut
            cases kq with
            | zero => exact absurd HA.out (by simp [laws_FnRecurrentSand.j1])
            | succ kj59 =>
              have H := HA.out
              clear HA
              simp only [laws_FnRecurrentSand.j1] at H
              by_cases c69 : x132_59 = true
              · subst c69
                have H1 : (some false) = some r := by rw [if_pos rfl] at H; exact H
                clear H
                have H := H1
                clear H1
                obtain rfl := Option.some.inj H
                go_wp2
                go_ret
                exact ⟨by first | rfl | (simp [errW_none, errW_some] <;> rfl) | (simp [*, errW_none, errW_some] <;> rfl), by repeat (first | (with_reducible first | exact HB.out | apply below_alloc | apply pw_below_drewN | apply below_drew1) | exact HB.out)⟩
              · as_aux_lemma =>
                replace c69 := Bool.eq_false_iff.mpr c69
                subst c69
                have H1 : (if t447 = true then ((impl_ParkingOfSand.f kj59 t446).bind fun bt455 => (if bt455.2 = true then ((laws_wSame.f kj59 bt455.1 t443).bind fun t459 => (if t459 = true then (laws_FnRecurrentSand.j2 kj59 t418 t421 t425 t426 t433) else (some false))) else (some false))) else (laws_FnRecurrentSand.j2 kj59 t418 t421 t425 t426 t433)) = some r := by rw [if_neg (show ¬ (false = true) by decide)] at H; exact H
                clear H
                have H := H1
                clear H1
                have HC70 := Aside0.mk H
                clear H
                go_upto_if 133 with (fail)
                go_cut [] (fun wc => ∃ (kq : Nat), Aside0 (laws_FnRecurrentSand.j2 kq t418 t421 t425 t426 t433 = some r) ∧ Aside0 (kq ≤ kj59) ∧ Aside0 (Kd.R (Kd.int .i64) 3 wc w.heap.size (fun k_ => some k_ ≠ (v427 : Value).ownBlock ∧ some k_ ≠ (v435 : Value).ownBlock) (.slice Ao14 t418.length co14) t418) ∧ Aside0 (Kd.R (Kd.int .i64) 3 wc w.heap.size (fun k_ => some k_ ≠ ((.slice Ao14 t418.length co14) : Value).ownBlock ∧ some k_ ≠ (v435 : Value).ownBlock) v427 t425) ∧ Aside0 (Kd.R (Kd.int .i64) 3 wc w.heap.size (fun k_ => some k_ ≠ ((.slice Ao14 t418.length co14) : Value).ownBlock ∧ some k_ ≠ (v427 : Value).ownBlock) v435 t433) ∧ Aside0 (Below w.heap.size w wc))
                case first =>
                  have H := HC70.out
                  clear HC70
                  by_cases c71 : t447 = true
                  · as_aux_lemma =>
                    subst c71
                    have H1 : ((impl_ParkingOfSand.f kj59 t446).bind fun bt455 => (if bt455.2 = true then ((laws_wSame.f kj59 bt455.1 t443).bind fun t459 => (if t459 = true then (laws_FnRecurrentSand.j2 kj59 t418 t421 t425 t426 t433) else (some false))) else (some false))) = some r := by rw [if_pos rfl] at H; exact H
                    clear H
                    have H := H1
                    clear H1
                    replace H := Option.bind_eq_some_iff.mp H
                    obtain ⟨⟨t455, t456⟩, A720, H⟩ := H
                    replace H : (if t456 = true then ((laws_wSame.f kj59 t455 t443).bind fun t459 => (if t459 = true then (laws_FnRecurrentSand.j2 kj59 t418 t421 t425 t426 t433) else (some false))) else (some false)) = some r := H
                    have A72 := Aside0.mk A720
                    clear A720
                    by_cases c73 : t456 = true
                    · as_aux_lemma =>
                      subst c73
                      have H1 : ((laws_wSame.f kj59 t455 t443).bind fun t459 => (if t459 = true then (laws_FnRecurrentSand.j2 kj59 t418 t421 t425 t426 t433) else (some false))) = some r := by rw [if_pos rfl] at H; exact H
                      clear H
                      have H := H1
                      clear H1
                      replace H := Option.bind_eq_some_iff.mp H
                      obtain ⟨t459, A740, H⟩ := H
                      replace H : (if t459 = true then (laws_FnRecurrentSand.j2 kj59 t418 t421 t425 t426 t433) else (some false)) = some r := H
                      have A74 := Aside0.mk A740
                      clear A740
                      by_cases c75 : t459 = true
                      · subst c75
                        have H1 : (laws_FnRecurrentSand.j2 kj59 t418 t421 t425 t426 t433) = some r := by rw [if_pos rfl] at H; exact H
                        clear H
                        have H := H1
                        clear H1
                        have H' := Aside0.mk H
                        clear H
                        obtain ⟨Ao76, co76, eo76⟩ := Kd.R_slice HO_19.out
                        subst eo76
                        go_wp2_with (first | ((with_reducible refine gate_callee (f := 8) rfl ?_); refine goesL_ (some 136) rfl rfl Try.func8 (by kernel_rfl) rfl #[.slice Ao76 t446.length co76] rfl (by (try simp only [List.map_toArray, List.map_cons, List.map_nil]); first | done | rfl | (simp only [List.length_drop, List.length_take]; rfl)) ?_; (with_reducible refine (impl_ParkingOfSand.calls kj59 _ _ t446 t455 true _ ?side1 ?side2 A72.out).mono ?_); (case side1 => repeat (first | exact (Kd.R_reads' HO_19.out).2.2 | (with_reducible refine Kd.C_alloc ?_ _) | (with_reducible refine Kd.C_drewN ?_ _) | (with_reducible refine Kd.C_drew ?_))); (case side2 => exact (Kd.R_reads' HO_19.out).2.1); rintro e w77 ⟨v457, rfl, ho0, hb⟩; refine ⟨_, rfl, ?_⟩; have n0_ := Aside0.mk (Kd.R_elder' (by (with_reducible repeat (first | apply Kd.R_alloc | apply Kd.R_drewN | apply Kd.R_drew)); exact HO_5.out) (Kd.R_base ho0) hb); have n1_ := Aside0.mk (Kd.R_elder' (by (with_reducible repeat (first | apply Kd.R_alloc | apply Kd.R_drewN | apply Kd.R_drew)); exact HO_10.out) (Kd.R_base ho0) hb); have n2_ := Aside0.mk (Kd.R_elder' (by (with_reducible repeat (first | apply Kd.R_alloc | apply Kd.R_drewN | apply Kd.R_drew)); exact HO_14.out) (Kd.R_base ho0) hb); have n3_ := Aside0.mk (Kd.R_elder' (by (with_reducible repeat (first | apply Kd.R_alloc | apply Kd.R_drewN | apply Kd.R_drew)); exact HO_18.out) (Kd.R_base ho0) hb); have n4_ := Aside0.mk (Kd.R_elder' (by (with_reducible repeat (first | apply Kd.R_alloc | apply Kd.R_drewN | apply Kd.R_drew)); exact HO_19.out) (Kd.R_base ho0) hb); have n5_ := Aside0.mk (Kd.R_lower (Kd.R_new' (Kd.R_new' (Kd.R_new' (Kd.R_new' (Kd.R_new' ho0 (Kd.R_lt (by (with_reducible repeat (first | apply Kd.R_alloc | apply Kd.R_drewN | apply Kd.R_drew)); exact HO_5.out))) (Kd.R_lt (by (with_reducible repeat (first | apply Kd.R_alloc | apply Kd.R_drewN | apply Kd.R_drew)); exact HO_10.out))) (Kd.R_lt (by (with_reducible repeat (first | apply Kd.R_alloc | apply Kd.R_drewN | apply Kd.R_drew)); exact HO_14.out))) (Kd.R_lt (by (with_reducible repeat (first | apply Kd.R_alloc | apply Kd.R_drewN | apply Kd.R_drew)); exact HO_18.out))) (Kd.R_lt (by (with_reducible repeat (first | apply Kd.R_alloc | apply Kd.R_drewN | apply Kd.R_drew)); exact HO_19.out))) (below_size (by repeat (first | (with_reducible first | exact HB.out | apply below_alloc | apply pw_below_drewN | apply below_drew1) | exact HB.out)))); have n6_ := Aside0.mk (below_step (by repeat (first | (with_reducible first | exact HB.out | apply below_alloc | apply pw_below_drewN | apply below_drew1) | exact HB.out)) hb); clear HO_5; clear HO_10; clear HO_14; clear HO_18; clear HO_19; clear HB; have HO_5 := n0_; have HO_10 := n1_; have HO_14 := n2_; have HO_18 := n3_; have HO_19 := n4_; have HO458 := n5_; have HB := n6_; clear n0_ n1_ n2_ n3_ n4_ n5_ n6_; (try clear hb); (try clear hb2); (try clear hk); (try clear hi); (try clear ho0); obtain ⟨Ao78, co78, eo78⟩ := Kd.R_slice HO458.out; subst eo78) | (go_at_call 12; (with_reducible refine (laws_wSame.calls kj59 _ _ t455 _ _ t443 true _ ?side1 ?side2 ?side3 ?side4 A74.out).mono ?_); (case side1 => repeat (first | exact (Kd.R_reads' HO458.out).2.2 | (with_reducible refine Kd.C_alloc ?_ _) | (with_reducible refine Kd.C_drewN ?_ _) | (with_reducible refine Kd.C_drew ?_))); (case side2 => exact (Kd.R_reads' HO458.out).2.1); (case side3 => repeat (first | exact (Kd.R_reads' HO_18.out).2.2 | (with_reducible refine Kd.C_alloc ?_ _) | (with_reducible refine Kd.C_drewN ?_ _) | (with_reducible refine Kd.C_drew ?_))); (case side4 => exact (Kd.R_reads' HO_18.out).2.1); rintro e w' ⟨rfl, ⟨nd, rfl⟩⟩))
                        go_meet
                        case rel => exact ⟨_, H', ⟨by have := HJ11.out; have := HJ59.out; first | omega | exact Nat.le_refl _⟩, ⟨by (with_reducible repeat (first | apply Kd.R_alloc | apply Kd.R_drewN | apply Kd.R_drew)); exact Kd.R_mono HO_5.out (fun _ hk => ⟨hk.1.1, hk.1.2.1⟩)⟩, ⟨by (with_reducible repeat (first | apply Kd.R_alloc | apply Kd.R_drewN | apply Kd.R_drew)); exact Kd.R_mono HO_10.out (fun _ hk => ⟨hk.1.1, hk.1.2.1⟩)⟩, ⟨by (with_reducible repeat (first | apply Kd.R_alloc | apply Kd.R_drewN | apply Kd.R_drew)); exact Kd.R_mono HO_14.out (fun _ hk => ⟨hk.1.1, hk.1.2.1⟩)⟩, ⟨by repeat (first | (with_reducible first | exact HB.out | apply below_alloc | apply pw_below_drewN | apply below_drew1) | exact HB.out)⟩⟩
                      · replace c75 := Bool.eq_false_iff.mpr c75
                        subst c75
                        have H1 : (some false) = some r := by rw [if_neg (show ¬ (false = true) by decide)] at H; exact H
                        clear H
                        have H := H1
                        clear H1
                        obtain rfl := Option.some.inj H
                        obtain ⟨Ao79, co79, eo79⟩ := Kd.R_slice HO_19.out
                        subst eo79
                        go_wp2_with (first | ((with_reducible refine gate_callee (f := 8) rfl ?_); refine goesL_ (some 136) rfl rfl Try.func8 (by kernel_rfl) rfl #[.slice Ao79 t446.length co79] rfl (by (try simp only [List.map_toArray, List.map_cons, List.map_nil]); first | done | rfl | (simp only [List.length_drop, List.length_take]; rfl)) ?_; (with_reducible refine (impl_ParkingOfSand.calls kj59 _ _ t446 t455 true _ ?side1 ?side2 A72.out).mono ?_); (case side1 => repeat (first | exact (Kd.R_reads' HO_19.out).2.2 | (with_reducible refine Kd.C_alloc ?_ _) | (with_reducible refine Kd.C_drewN ?_ _) | (with_reducible refine Kd.C_drew ?_))); (case side2 => exact (Kd.R_reads' HO_19.out).2.1); rintro e w80 ⟨v457, rfl, ho0, hb⟩; refine ⟨_, rfl, ?_⟩; have n0_ := Aside0.mk (Kd.R_elder' (by (with_reducible repeat (first | apply Kd.R_alloc | apply Kd.R_drewN | apply Kd.R_drew)); exact HO_5.out) (Kd.R_base ho0) hb); have n1_ := Aside0.mk (Kd.R_elder' (by (with_reducible repeat (first | apply Kd.R_alloc | apply Kd.R_drewN | apply Kd.R_drew)); exact HO_10.out) (Kd.R_base ho0) hb); have n2_ := Aside0.mk (Kd.R_elder' (by (with_reducible repeat (first | apply Kd.R_alloc | apply Kd.R_drewN | apply Kd.R_drew)); exact HO_14.out) (Kd.R_base ho0) hb); have n3_ := Aside0.mk (Kd.R_elder' (by (with_reducible repeat (first | apply Kd.R_alloc | apply Kd.R_drewN | apply Kd.R_drew)); exact HO_18.out) (Kd.R_base ho0) hb); have n4_ := Aside0.mk (Kd.R_elder' (by (with_reducible repeat (first | apply Kd.R_alloc | apply Kd.R_drewN | apply Kd.R_drew)); exact HO_19.out) (Kd.R_base ho0) hb); have n5_ := Aside0.mk (Kd.R_lower (Kd.R_new' (Kd.R_new' (Kd.R_new' (Kd.R_new' (Kd.R_new' ho0 (Kd.R_lt (by (with_reducible repeat (first | apply Kd.R_alloc | apply Kd.R_drewN | apply Kd.R_drew)); exact HO_5.out))) (Kd.R_lt (by (with_reducible repeat (first | apply Kd.R_alloc | apply Kd.R_drewN | apply Kd.R_drew)); exact HO_10.out))) (Kd.R_lt (by (with_reducible repeat (first | apply Kd.R_alloc | apply Kd.R_drewN | apply Kd.R_drew)); exact HO_14.out))) (Kd.R_lt (by (with_reducible repeat (first | apply Kd.R_alloc | apply Kd.R_drewN | apply Kd.R_drew)); exact HO_18.out))) (Kd.R_lt (by (with_reducible repeat (first | apply Kd.R_alloc | apply Kd.R_drewN | apply Kd.R_drew)); exact HO_19.out))) (below_size (by repeat (first | (with_reducible first | exact HB.out | apply below_alloc | apply pw_below_drewN | apply below_drew1) | exact HB.out)))); have n6_ := Aside0.mk (below_step (by repeat (first | (with_reducible first | exact HB.out | apply below_alloc | apply pw_below_drewN | apply below_drew1) | exact HB.out)) hb); clear HO_5; clear HO_10; clear HO_14; clear HO_18; clear HO_19; clear HB; have HO_5 := n0_; have HO_10 := n1_; have HO_14 := n2_; have HO_18 := n3_; have HO_19 := n4_; have HO458 := n5_; have HB := n6_; clear n0_ n1_ n2_ n3_ n4_ n5_ n6_; (try clear hb); (try clear hb2); (try clear hk); (try clear hi); (try clear ho0); obtain ⟨Ao81, co81, eo81⟩ := Kd.R_slice HO458.out; subst eo81) | (go_at_call 12; (with_reducible refine (laws_wSame.calls kj59 _ _ t455 _ _ t443 false _ ?side1 ?side2 ?side3 ?side4 A74.out).mono ?_); (case side1 => repeat (first | exact (Kd.R_reads' HO458.out).2.2 | (with_reducible refine Kd.C_alloc ?_ _) | (with_reducible refine Kd.C_drewN ?_ _) | (with_reducible refine Kd.C_drew ?_))); (case side2 => exact (Kd.R_reads' HO458.out).2.1); (case side3 => repeat (first | exact (Kd.R_reads' HO_18.out).2.2 | (with_reducible refine Kd.C_alloc ?_ _) | (with_reducible refine Kd.C_drewN ?_ _) | (with_reducible refine Kd.C_drew ?_))); (case side4 => exact (Kd.R_reads' HO_18.out).2.1); rintro e w' ⟨rfl, ⟨nd, rfl⟩⟩))
                        go_ret
                        exact ⟨by first | rfl | (simp [errW_none, errW_some] <;> rfl) | (simp [*, errW_none, errW_some] <;> rfl), by repeat (first | (with_reducible first | exact HB.out | apply below_alloc | apply pw_below_drewN | apply below_drew1) | exact HB.out)⟩
                    · replace c73 := Bool.eq_false_iff.mpr c73
                      subst c73
                      have H1 : (some false) = some r := by rw [if_neg (show ¬ (false = true) by decide)] at H; exact H
                      clear H
                      have H := H1
                      clear H1
                      obtain rfl := Option.some.inj H
                      obtain ⟨Ao82, co82, eo82⟩ := Kd.R_slice HO_19.out
                      subst eo82
                      go_wp2_with (first | ((with_reducible refine gate_callee (f := 8) rfl ?_); refine goesL_ (some 136) rfl rfl Try.func8 (by kernel_rfl) rfl #[.slice Ao82 t446.length co82] rfl (by (try simp only [List.map_toArray, List.map_cons, List.map_nil]); first | done | rfl | (simp only [List.length_drop, List.length_take]; rfl)) ?_; (with_reducible refine (impl_ParkingOfSand.calls kj59 _ _ t446 t455 false _ ?side1 ?side2 A72.out).mono ?_); (case side1 => repeat (first | exact (Kd.R_reads' HO_19.out).2.2 | (with_reducible refine Kd.C_alloc ?_ _) | (with_reducible refine Kd.C_drewN ?_ _) | (with_reducible refine Kd.C_drew ?_))); (case side2 => exact (Kd.R_reads' HO_19.out).2.1); rintro e w83 ⟨v457, rfl, ho0, hb⟩; refine ⟨_, rfl, ?_⟩; have n0_ := Aside0.mk (Kd.R_elder' (by (with_reducible repeat (first | apply Kd.R_alloc | apply Kd.R_drewN | apply Kd.R_drew)); exact HO_5.out) (Kd.R_base ho0) hb); have n1_ := Aside0.mk (Kd.R_elder' (by (with_reducible repeat (first | apply Kd.R_alloc | apply Kd.R_drewN | apply Kd.R_drew)); exact HO_10.out) (Kd.R_base ho0) hb); have n2_ := Aside0.mk (Kd.R_elder' (by (with_reducible repeat (first | apply Kd.R_alloc | apply Kd.R_drewN | apply Kd.R_drew)); exact HO_14.out) (Kd.R_base ho0) hb); have n3_ := Aside0.mk (Kd.R_elder' (by (with_reducible repeat (first | apply Kd.R_alloc | apply Kd.R_drewN | apply Kd.R_drew)); exact HO_18.out) (Kd.R_base ho0) hb); have n4_ := Aside0.mk (Kd.R_elder' (by (with_reducible repeat (first | apply Kd.R_alloc | apply Kd.R_drewN | apply Kd.R_drew)); exact HO_19.out) (Kd.R_base ho0) hb); have n5_ := Aside0.mk (Kd.R_lower (Kd.R_new' (Kd.R_new' (Kd.R_new' (Kd.R_new' (Kd.R_new' ho0 (Kd.R_lt (by (with_reducible repeat (first | apply Kd.R_alloc | apply Kd.R_drewN | apply Kd.R_drew)); exact HO_5.out))) (Kd.R_lt (by (with_reducible repeat (first | apply Kd.R_alloc | apply Kd.R_drewN | apply Kd.R_drew)); exact HO_10.out))) (Kd.R_lt (by (with_reducible repeat (first | apply Kd.R_alloc | apply Kd.R_drewN | apply Kd.R_drew)); exact HO_14.out))) (Kd.R_lt (by (with_reducible repeat (first | apply Kd.R_alloc | apply Kd.R_drewN | apply Kd.R_drew)); exact HO_18.out))) (Kd.R_lt (by (with_reducible repeat (first | apply Kd.R_alloc | apply Kd.R_drewN | apply Kd.R_drew)); exact HO_19.out))) (below_size (by repeat (first | (with_reducible first | exact HB.out | apply below_alloc | apply pw_below_drewN | apply below_drew1) | exact HB.out)))); have n6_ := Aside0.mk (below_step (by repeat (first | (with_reducible first | exact HB.out | apply below_alloc | apply pw_below_drewN | apply below_drew1) | exact HB.out)) hb); clear HO_5; clear HO_10; clear HO_14; clear HO_18; clear HO_19; clear HB; have HO_5 := n0_; have HO_10 := n1_; have HO_14 := n2_; have HO_18 := n3_; have HO_19 := n4_; have HO458 := n5_; have HB := n6_; clear n0_ n1_ n2_ n3_ n4_ n5_ n6_; (try clear hb); (try clear hb2); (try clear hk); (try clear hi); (try clear ho0)))
                      go_ret
                      exact ⟨by first | rfl | (simp [errW_none, errW_some] <;> rfl) | (simp [*, errW_none, errW_some] <;> rfl), by repeat (first | (with_reducible first | exact HB.out | apply below_alloc | apply pw_below_drewN | apply below_drew1) | exact HB.out)⟩
                  · replace c71 := Bool.eq_false_iff.mpr c71
                    subst c71
                    have H1 : (laws_FnRecurrentSand.j2 kj59 t418 t421 t425 t426 t433) = some r := by rw [if_neg (show ¬ (false = true) by decide)] at H; exact H
                    clear H
                    have H := H1
                    clear H1
                    have H' := Aside0.mk H
                    clear H
                    go_wp2
                    go_meet
                    case rel => exact ⟨_, H', ⟨by have := HJ11.out; have := HJ59.out; first | omega | exact Nat.le_refl _⟩, ⟨by (with_reducible repeat (first | apply Kd.R_alloc | apply Kd.R_drewN | apply Kd.R_drew)); exact Kd.R_mono HO_5.out (fun _ hk => ⟨hk.1, hk.2.1⟩)⟩, ⟨by (with_reducible repeat (first | apply Kd.R_alloc | apply Kd.R_drewN | apply Kd.R_drew)); exact Kd.R_mono HO_10.out (fun _ hk => ⟨hk.1, hk.2.1⟩)⟩, ⟨by (with_reducible repeat (first | apply Kd.R_alloc | apply Kd.R_drewN | apply Kd.R_drew)); exact Kd.R_mono HO_14.out (fun _ hk => ⟨hk.1, hk.2.1⟩)⟩, ⟨by repeat (first | (with_reducible first | exact HB.out | apply below_alloc | apply pw_below_drewN | apply below_drew1) | exact HB.out)⟩⟩
                case rest =>
                  clear HC70
                  try clear c1
                  try clear c2
                  try clear p2
                  try clear c3
                  try clear c4
                  try clear c5
                  try clear c6
                  try clear c7
                  try clear c8
                  try clear c9
                  try clear c10
                  try clear c11
                  try clear c13
                  try clear c14
                  try clear c15
                  try clear c21
                  try clear c21b0
                  try clear c21b1
                  try clear c21b2
                  try clear c22
                  try clear c22b0
                  try clear c22b1
                  try clear c22b2
                  try clear c23
                  try clear c23b0
                  try clear c23b1
                  try clear c23b2
                  try clear c25
                  try clear c26
                  try clear c26b0
                  try clear c26b1
                  try clear c26b2
                  try clear c30
                  try clear c31
                  try clear c32
                  try clear c32b0
                  try clear c32b1
                  try clear c32b2
                  try clear c41
                  try clear c41b0
                  try clear c41b1
                  try clear c41b2
                  try clear c56
                  try clear c65
                  try clear c65b0
                  try clear c65b1
                  try clear c65b2
                  try clear c69
                  try clear c71
                  try clear c73
                  try clear c75
                  try clear p2
                  obtain ⟨kq, HA, HJ69, HO_5, HO_10, HO_14, HB⟩ := hcut
                  cases kq with
                  | zero => exact absurd HA.out (by simp [laws_FnRecurrentSand.j2])
                  | succ kj69 =>
                    have H := HA.out
                    clear HA
                    simp only [laws_FnRecurrentSand.j2] at H
                    replace H := Option.bind_eq_some_iff.mp H
                    obtain ⟨⟨t460, t461⟩, A840, H⟩ := H
                    replace H : (if t461 = true then (laws_FnRecurrentSand.j3 kj69 t418 t421 t425 t426 t433 t460) else (laws_FnRecurrentSand.j3 kj69 t418 t421 t425 t426 t433 false)) = some r := H
                    have A84 := Aside0.mk A840
                    clear A840
                    have HC85 := Aside0.mk H
                    clear H
                    go_upto_region 22 with (first | ((with_reducible refine gate_callee (f := 16) rfl ?_); refine goesL_ (some 149) rfl rfl Try.func16 (by kernel_rfl) rfl #[.slice Ao14 t418.length co14] rfl (by (try simp only [List.map_toArray, List.map_cons, List.map_nil]); first | done | rfl | (simp only [List.length_drop, List.length_take]; rfl)) ?_; (with_reducible refine (impl_IsStable.calls _ _ t418 t460 t461 _ ?side1 ?side2 A84.out).mono ?_); (case side1 => repeat (first | exact (Kd.R_reads' HO_5.out).2.2 | (with_reducible refine Kd.C_alloc ?_ _) | (with_reducible refine Kd.C_drewN ?_ _) | (with_reducible refine Kd.C_drew ?_))); (case side2 => exact (Kd.R_reads' HO_5.out).2.1); rintro e w86 ⟨rfl, hb⟩; refine ⟨_, rfl, ?_⟩; have n0_ := Aside0.mk (Kd.R_below (by (with_reducible repeat (first | apply Kd.R_alloc | apply Kd.R_drewN | apply Kd.R_drew)); exact HO_5.out) hb); have n1_ := Aside0.mk (Kd.R_below (by (with_reducible repeat (first | apply Kd.R_alloc | apply Kd.R_drewN | apply Kd.R_drew)); exact HO_10.out) hb); have n2_ := Aside0.mk (Kd.R_below (by (with_reducible repeat (first | apply Kd.R_alloc | apply Kd.R_drewN | apply Kd.R_drew)); exact HO_14.out) hb); have n3_ := Aside0.mk (below_step (by repeat (first | (with_reducible first | exact HB.out | apply below_alloc | apply pw_below_drewN | apply below_drew1) | exact HB.out)) hb); clear HO_5; clear HO_10; clear HO_14; clear HB; have HO_5 := n0_; have HO_10 := n1_; have HO_14 := n2_; have HB := n3_; clear n0_ n1_ n2_ n3_; (try clear hb); (try clear hb2); (try clear hk); (try clear hi)))
                    (try simp only [Act.put, List.setIfInBounds_toArray, List.set_cons_zero, List.set_cons_succ])
                    go_cut [155] (fun v155 wc => ∃ (kq : Nat) (x155_84 : Bool), v155 = .bool x155_84 ∧ Aside0 (laws_FnRecurrentSand.j3 kq t418 t421 t425 t426 t433 x155_84 = some r) ∧ Aside0 (kq ≤ kj69) ∧ Aside0 (Kd.R (Kd.int .i64) 3 wc w.heap.size (fun k_ => some k_ ≠ (v427 : Value).ownBlock ∧ some k_ ≠ (v435 : Value).ownBlock) (.slice Ao14 t418.length co14) t418) ∧ Aside0 (Kd.R (Kd.int .i64) 3 wc w.heap.size (fun k_ => some k_ ≠ ((.slice Ao14 t418.length co14) : Value).ownBlock ∧ some k_ ≠ (v435 : Value).ownBlock) v427 t425) ∧ Aside0 (Kd.R (Kd.int .i64) 3 wc w.heap.size (fun k_ => some k_ ≠ ((.slice Ao14 t418.length co14) : Value).ownBlock ∧ some k_ ≠ (v427 : Value).ownBlock) v435 t433) ∧ Aside0 (Below w.heap.size w wc))
                    case first =>
                      have H := HC85.out
                      clear HC85
                      by_cases c87 : t461 = true
                      · subst c87
                        have H1 : (laws_FnRecurrentSand.j3 kj69 t418 t421 t425 t426 t433 t460) = some r := by rw [if_pos rfl] at H; exact H
                        clear H
                        have H := H1
                        clear H1
                        have H' := Aside0.mk H
                        clear H
                        go_wp2
                        go_meet
                        case rel => exact ⟨_, (t460), (by first | rfl | (simp; done) | (simp [*]; done)), H', ⟨by have := HJ11.out; have := HJ59.out; have := HJ69.out; first | omega | exact Nat.le_refl _⟩, ⟨by (with_reducible repeat (first | apply Kd.R_alloc | apply Kd.R_drewN | apply Kd.R_drew)); exact HO_5.out⟩, ⟨by (with_reducible repeat (first | apply Kd.R_alloc | apply Kd.R_drewN | apply Kd.R_drew)); exact HO_10.out⟩, ⟨by (with_reducible repeat (first | apply Kd.R_alloc | apply Kd.R_drewN | apply Kd.R_drew)); exact HO_14.out⟩, ⟨by repeat (first | (with_reducible first | exact HB.out | apply below_alloc | apply pw_below_drewN | apply below_drew1) | exact HB.out)⟩⟩
                      · replace c87 := Bool.eq_false_iff.mpr c87
                        subst c87
                        have H1 : (laws_FnRecurrentSand.j3 kj69 t418 t421 t425 t426 t433 false) = some r := by rw [if_neg (show ¬ (false = true) by decide)] at H; exact H
                        clear H
                        have H := H1
                        clear H1
                        have H' := Aside0.mk H
                        clear H
                        go_wp2
                        go_meet
                        case rel => exact ⟨_, (false), (by first | rfl | (simp; done) | (simp [*]; done)), H', ⟨by have := HJ11.out; have := HJ59.out; have := HJ69.out; first | omega | exact Nat.le_refl _⟩, ⟨by (with_reducible repeat (first | apply Kd.R_alloc | apply Kd.R_drewN | apply Kd.R_drew)); exact HO_5.out⟩, ⟨by (with_reducible repeat (first | apply Kd.R_alloc | apply Kd.R_drewN | apply Kd.R_drew)); exact HO_10.out⟩, ⟨by (with_reducible repeat (first | apply Kd.R_alloc | apply Kd.R_drewN | apply Kd.R_drew)); exact HO_14.out⟩, ⟨by repeat (first | (with_reducible first | exact HB.out | apply below_alloc | apply pw_below_drewN | apply below_drew1) | exact HB.out)⟩⟩
                    case rest =>
                      clear HC85
                      try clear c1
                      try clear c2
                      try clear p2
                      try clear c3
                      try clear c4
                      try clear c5
                      try clear c6
                      try clear c7
                      try clear c8
                      try clear c9
                      try clear c10
                      try clear c11
                      try clear c13
                      try clear c14
                      try clear c15
                      try clear c16
                      try clear c21
                      try clear c21b0
                      try clear c21b1
                      try clear c21b2
                      try clear c22
                      try clear c22b0
                      try clear c22b1
                      try clear c22b2
                      try clear c23
                      try clear c23b0
                      try clear c23b1
                      try clear c23b2
                      try clear c25
                      try clear c26
                      try clear c26b0
                      try clear c26b1
                      try clear c26b2
                      try clear c30
                      try clear c31
                      try clear c32
                      try clear c32b0
                      try clear c32b1
                      try clear c32b2
                      try clear c41
                      try clear c41b0
                      try clear c41b1
                      try clear c41b2
                      try clear c56
                      try clear c65
                      try clear c65b0
                      try clear c65b1
                      try clear c65b2
                      try clear c69
                      try clear c71
                      try clear c73
                      try clear c75
                      try clear c87
                      try clear p2
                      obtain ⟨kq, x155_84, rfl, HA, HJ84, HO_5, HO_10, HO_14, HB⟩ := hcut
                      cases kq with
                      | zero => exact absurd HA.out (by simp [laws_FnRecurrentSand.j3])
                      | succ kj84 =>
                        have H := HA.out
                        clear HA
                        simp only [laws_FnRecurrentSand.j3] at H
                        have HC88 := Aside0.mk H
                        clear H
                        go_upto_if 155 with (fail)
                        go_cut [] (fun wc => ∃ (kq : Nat), Aside0 (laws_FnRecurrentSand.j5 kq t418 t425 t426 t433 = some r) ∧ Aside0 (kq ≤ kj84) ∧ Aside0 (Kd.R (Kd.int .i64) 3 wc w.heap.size (fun k_ => some k_ ≠ (v427 : Value).ownBlock ∧ some k_ ≠ (v435 : Value).ownBlock) (.slice Ao14 t418.length co14) t418) ∧ Aside0 (Kd.R (Kd.int .i64) 3 wc w.heap.size (fun k_ => some k_ ≠ ((.slice Ao14 t418.length co14) : Value).ownBlock ∧ some k_ ≠ (v435 : Value).ownBlock) v427 t425) ∧ Aside0 (Kd.R (Kd.int .i64) 3 wc w.heap.size (fun k_ => some k_ ≠ ((.slice Ao14 t418.length co14) : Value).ownBlock ∧ some k_ ≠ (v427 : Value).ownBlock) v435 t433) ∧ Aside0 (Below w.heap.size w wc))
                        case first =>
                          have H := HC88.out
                          clear HC88
                          by_cases c89 : x155_84 = true
                          · as_aux_lemma =>
                            subst c89
                            have H1 : (laws_FnRecurrentSand.l0 kj84 t418 t421 t425 t426 t433 ([] : List Int) t418 (t418.length : Int) 0) = some r := by rw [if_pos rfl] at H; exact H
                            clear H
                            have H := H1
                            clear H1
                            have H' := Aside0.mk H
                            clear H
                            go_wp2
                            go_loopg [27, 158] kj84 (fun kq v27 v158 w' => ∃ (x27_5 : List Int) (x158_5 : Int), v158 = .int .i64 x158_5 ∧ Aside0 (laws_FnRecurrentSand.l0 kq t418 t421 t425 t426 t433 x27_5 t418 (t418.length : Int) x158_5 = some r) ∧ Aside0 (kq ≤ kj84) ∧ Aside0 (Kd.R (Kd.int .i64) 3 w' w.heap.size (fun k_ => some k_ ≠ (v427 : Value).ownBlock ∧ some k_ ≠ (v435 : Value).ownBlock ∧ some k_ ≠ (v27 : Value).ownBlock) (.slice Ao14 t418.length co14) t418) ∧ Aside0 (Kd.R (Kd.int .i64) 3 w' w.heap.size (fun k_ => some k_ ≠ ((.slice Ao14 t418.length co14) : Value).ownBlock ∧ some k_ ≠ (v435 : Value).ownBlock ∧ some k_ ≠ (v27 : Value).ownBlock ∧ some k_ ≠ ((.slice Ao14 t418.length co14) : Value).ownBlock) v427 t425) ∧ Aside0 (Kd.R (Kd.int .i64) 3 w' w.heap.size (fun k_ => some k_ ≠ ((.slice Ao14 t418.length co14) : Value).ownBlock ∧ some k_ ≠ (v427 : Value).ownBlock ∧ some k_ ≠ (v27 : Value).ownBlock ∧ some k_ ≠ ((.slice Ao14 t418.length co14) : Value).ownBlock) v435 t433) ∧ Aside0 (Kd.R (Kd.int .i64) 3 w' w.heap.size (fun k_ => some k_ ≠ ((.slice Ao14 t418.length co14) : Value).ownBlock ∧ some k_ ≠ (v427 : Value).ownBlock ∧ some k_ ≠ (v435 : Value).ownBlock ∧ some k_ ≠ ((.slice Ao14 t418.length co14) : Value).ownBlock) v27 x27_5) ∧ Aside0 (Kd.R (Kd.int .i64) 3 w' w.heap.size (fun k_ => some k_ ≠ (v427 : Value).ownBlock ∧ some k_ ≠ (v435 : Value).ownBlock ∧ some k_ ≠ (v27 : Value).ownBlock) (.slice Ao14 t418.length co14) t418) ∧ Aside0 (Below w.heap.size w w'))
                            case atStart => exact ⟨(([] : List Int)), (0), (by first | rfl | (simp; done) | (simp [*]; done)), H', ⟨Nat.le_refl _⟩, ⟨by (with_reducible repeat (first | apply Kd.R_alloc | apply Kd.R_drewN | apply Kd.R_drew)); exact Kd.R_mono HO_5.out (fun _ hk => ⟨hk.1, ⟨hk.2, (by simp [Value.ownBlock])⟩⟩)⟩, ⟨by (with_reducible repeat (first | apply Kd.R_alloc | apply Kd.R_drewN | apply Kd.R_drew)); exact Kd.R_mono HO_10.out (fun _ hk => ⟨hk.1, ⟨hk.2, ⟨(by simp [Value.ownBlock]), hk.1⟩⟩⟩)⟩, ⟨by (with_reducible repeat (first | apply Kd.R_alloc | apply Kd.R_drewN | apply Kd.R_drew)); exact Kd.R_mono HO_14.out (fun _ hk => ⟨hk.1, ⟨hk.2, ⟨(by simp [Value.ownBlock]), hk.1⟩⟩⟩)⟩, ⟨by first | exact Kd.R_nil _ _ _ _ _ | exact Kd.N_nil _ _ _ _ _ | exact Kd.V_nil _ _ _ _ _ | exact Kd.Q_nil _ _ _ _ _ | exact Kd.S_nil _ _ _ _ _⟩, ⟨by (with_reducible repeat (first | apply Kd.R_alloc | apply Kd.R_drewN | apply Kd.R_drew)); exact Kd.R_mono HO_5.out (fun _ hk => ⟨hk.1, ⟨hk.2, (by simp [Value.ownBlock])⟩⟩)⟩, ⟨by repeat (first | (with_reducible first | exact HB.out | apply below_alloc | apply pw_below_drewN | apply below_drew1) | exact HB.out)⟩⟩
                            case round =>
                              clear H'
                              try clear c1
                              try clear c2
                              try clear p2
                              try clear c3
                              try clear c4
                              try clear c5
                              try clear c6
                              try clear c7
                              try clear c8
                              try clear c9
                              try clear c10
                              try clear c11
                              try clear c13
                              try clear c14
                              try clear c15
                              try clear c16
                              try clear c21
                              try clear c21b0
                              try clear c21b1
                              try clear c21b2
                              try clear c22
                              try clear c22b0
                              try clear c22b1
                              try clear c22b2
                              try clear c23
                              try clear c23b0
                              try clear c23b1
                              try clear c23b2
                              try clear c25
                              try clear c26
                              try clear c26b0
                              try clear c26b1
                              try clear c26b2
                              try clear c30
                              try clear c31
                              try clear c32
                              try clear c32b0
                              try clear c32b1
                              try clear c32b2
                              try clear c41
                              try clear c41b0
                              try clear c41b1
                              try clear c41b2
                              try clear c56
                              try clear c65
                              try clear c65b0
                              try clear c65b1
                              try clear c65b2
                              try clear c69
                              try clear c71
                              try clear c73
                              try clear c75
                              try clear c87
                              try clear c89
                              try clear p2
                              obtain ⟨x27_5, x158_5, rfl, HA, HK5, HO_5, HO_10, HO_14, HO_27, HO_156, HB⟩ := hrel
                              cases gk with
                              | zero => exact absurd HA.out (by simp [laws_FnRecurrentSand.l0])
                              | succ k5 =>
                                have H := HA.out
                                clear HA
                                simp only [laws_FnRecurrentSand.l0] at H
                                by_cases c90 : x158_5 < (t418.length : Int)
                                · as_aux_lemma =>
                                  rw [if_pos c90] at H
                                  have c90b0 : decide (x158_5 < (t418.length : Int)) = true := decide_eq_true c90
                                  clear c90
                                  (first | rw [c90b0] | (simp only [i64_w, i32_w]; rw [c90b0]) | skip)
                                  by_cases c91 : 0 ≤ x158_5
                                  · as_aux_lemma =>
                                    rw [if_pos c91] at H
                                    have c91b0 : decide (0 ≤ x158_5) = true := decide_eq_true c91
                                    clear c91
                                    by_cases c92 : x158_5 < (t418.length : Int)
                                    · as_aux_lemma =>
                                      rw [if_pos c92] at H
                                      have c92b0 : decide (x158_5 < (t418.length : Int)) = true := decide_eq_true c92
                                      clear c92
                                      by_cases c93 : x27_5.length < 17592186044416
                                      · as_aux_lemma =>
                                        rw [if_pos c93] at H
                                        have LMc93 := Aside0.mk c93
                                        clear c93
                                        obtain ⟨y463, hy463⟩ : ∃ y_ : List Int, y_ = (x27_5 ++ [wrap64 ((wrap64 ((t418.length : Int) - 1)) - (rd t418 x158_5))]) := ⟨_, rfl⟩
                                        replace H : (laws_FnRecurrentSand.l0 k5 t418 t421 t425 t426 t433 y463 t418 (t418.length : Int) (wrap64 (x158_5 + 1))) = some r := by first | (rw [hy463]; with_reducible exact H) | (have H2_ := (Option.bind_some _ _).symm.trans H; rw [hy463]; with_reducible exact H2_) | (have H2_ := (Option.bind_some _ _).symm.trans H; with_reducible exact H2_) | with_reducible exact H | (rw [hy463]; exact H) | exact H
                                        have Ny463 := Aside0.mk hy463
                                        clear hy463
                                        have H' := Aside0.mk H
                                        clear H
                                        have p462 : 0 ≤ (x158_5 : Int) := of_decide_eq_true (by first | (with_reducible assumption) | assumption)
                                        have q462 : x158_5 < (t418.length : Int) := of_decide_eq_true (by first | (with_reducible assumption) | assumption)
                                        obtain ⟨ad462, e462, hx462_0⟩ := Kd.at_int (Kd.R_reads' HO_156.out).2.2 x158_5 p462 q462
                                        cases e462
                                        replace p462 := eq_true p462
                                        replace q462 := eq_true q462
                                        go_wp2_with (first | ((with_reducible refine gate_builtin (b := .append) (xs := #[.tmp 162, .tmp 168]) rfl ?_); (try (refine gate_guard (by rfl) ?_; dsimp only)); at_builtin; refine Kd.R_append (Kd.int .i64) (w0 := w) w.heap.size rfl (.tmp 162) (.tmp 168) 24 3 (.int .i64 0) 8 rfl Try.underlying24 info3 rfl (by decide) (by omega) u27 x27_5 (wrap64 ((wrap64 ((t418.length : Int) - 1)) - (rd t418 x158_5))) [.int .i64 (wrap64 ((wrap64 ((t418.length : Int) - 1)) - (rd t418 x158_5)))] (fun k_ => some k_ ≠ (.slice (some ad462) t418.length co14 : Value).ownBlock ∧ some k_ ≠ (v427 : Value).ownBlock ∧ some k_ ≠ (v435 : Value).ownBlock ∧ some k_ ≠ (.slice (some ad462) t418.length co14 : Value).ownBlock) (fun _ => False) rfl rfl ?aP (fun _ hk => hk.elim) ?aF ?aO ?aB ?aS ?aL ?_; (case aP => exact rfl); (case aB => exact (by repeat (first | (with_reducible first | exact HB.out | apply below_alloc | apply pw_below_drewN | apply below_drew1) | exact HB.out))); (case aF => exact (fun k_ hk => ⟨Kd.fresh' (Kd.R_lt (by (with_reducible repeat (first | apply Kd.R_alloc | apply Kd.R_drewN | apply Kd.R_drew)); exact HO_5.out)) k_ hk, Kd.fresh' (Kd.R_lt (by (with_reducible repeat (first | apply Kd.R_alloc | apply Kd.R_drewN | apply Kd.R_drew)); exact HO_10.out)) k_ hk, Kd.fresh' (Kd.R_lt (by (with_reducible repeat (first | apply Kd.R_alloc | apply Kd.R_drewN | apply Kd.R_drew)); exact HO_14.out)) k_ hk, Kd.fresh' (Kd.R_lt (by (with_reducible repeat (first | apply Kd.R_alloc | apply Kd.R_drewN | apply Kd.R_drew)); exact HO_156.out)) k_ hk⟩)); (case aO => exact (by (with_reducible repeat (first | apply Kd.R_alloc | apply Kd.R_drewN | apply Kd.R_drew)); exact HO_27.out)); (case aS => exact (below_size (by repeat (first | (with_reducible first | exact HB.out | apply below_alloc | apply pw_below_drewN | apply below_drew1) | exact HB.out)))); (case aL => have := LMc93.out; omega); intro v464 w94 ho hb hg hat; rw [← Ny463.out] at ho; have n0_ := Aside0.mk (Kd.R_after (ok := (fun k_ => some k_ ≠ (v427 : Value).ownBlock ∧ some k_ ≠ (v435 : Value).ownBlock)) (by (with_reducible repeat (first | apply Kd.R_alloc | apply Kd.R_drewN | apply Kd.R_drew)); exact Kd.R_mono HO_5.out (fun _ hk => ⟨⟨hk.1, hk.2.1⟩, hk.2.2⟩)) hg hat); have n1_ := Aside0.mk (Kd.R_after (ok := (fun k_ => some k_ ≠ (.slice (some ad462) t418.length co14 : Value).ownBlock ∧ some k_ ≠ (v435 : Value).ownBlock ∧ some k_ ≠ (.slice (some ad462) t418.length co14 : Value).ownBlock)) (by (with_reducible repeat (first | apply Kd.R_alloc | apply Kd.R_drewN | apply Kd.R_drew)); exact Kd.R_mono HO_10.out (fun _ hk => ⟨⟨hk.1, ⟨hk.2.1, hk.2.2.2⟩⟩, hk.2.2.1⟩)) hg hat); have n2_ := Aside0.mk (Kd.R_after (ok := (fun k_ => some k_ ≠ (.slice (some ad462) t418.length co14 : Value).ownBlock ∧ some k_ ≠ (v427 : Value).ownBlock ∧ some k_ ≠ (.slice (some ad462) t418.length co14 : Value).ownBlock)) (by (with_reducible repeat (first | apply Kd.R_alloc | apply Kd.R_drewN | apply Kd.R_drew)); exact Kd.R_mono HO_14.out (fun _ hk => ⟨⟨hk.1, ⟨hk.2.1, hk.2.2.2⟩⟩, hk.2.2.1⟩)) hg hat); have n3_ := Aside0.mk (Kd.R_after (ok := (fun k_ => some k_ ≠ (v427 : Value).ownBlock ∧ some k_ ≠ (v435 : Value).ownBlock)) (by (with_reducible repeat (first | apply Kd.R_alloc | apply Kd.R_drewN | apply Kd.R_drew)); exact Kd.R_mono HO_156.out (fun _ hk => ⟨⟨hk.1, hk.2.1⟩, hk.2.2⟩)) hg hat); have n4_ := Aside0.mk (hb); have n5_ := Aside0.mk (ho); clear HO_5; clear HO_10; clear HO_14; clear HO_156; clear HB; clear HO_27; have HO_5 := n0_; have HO_10 := n1_; have HO_14 := n2_; have HO_156 := n3_; have HB := n4_; have HO465 := n5_; clear n0_ n1_ n2_ n3_ n4_ n5_; clear ho hb hg hat))
                                        go_roundg k5
                                        case measure => have := HJ11.out; have := HJ59.out; have := HJ69.out; have := HJ84.out; have := HK5.out; omega
                                        case rel => exact ⟨(y463), (wrap64 (x158_5 + 1)), (by first | rfl | (simp; done) | (simp [*]; done)), H', ⟨by have := HJ11.out; have := HJ59.out; have := HJ69.out; have := HJ84.out; have := HK5.out; omega⟩, ⟨by (with_reducible repeat (first | apply Kd.R_alloc | apply Kd.R_drewN | apply Kd.R_drew)); exact Kd.R_mono HO_5.out (fun _ hk => ⟨hk.1.1, ⟨hk.1.2, hk.2⟩⟩)⟩, ⟨by (with_reducible repeat (first | apply Kd.R_alloc | apply Kd.R_drewN | apply Kd.R_drew)); exact Kd.R_mono HO_10.out (fun _ hk => ⟨hk.1.1, ⟨hk.1.2.1, ⟨hk.2, hk.1.2.2⟩⟩⟩)⟩, ⟨by (with_reducible repeat (first | apply Kd.R_alloc | apply Kd.R_drewN | apply Kd.R_drew)); exact Kd.R_mono HO_14.out (fun _ hk => ⟨hk.1.1, ⟨hk.1.2.1, ⟨hk.2, hk.1.2.2⟩⟩⟩)⟩, ⟨by (with_reducible repeat (first | apply Kd.R_alloc | apply Kd.R_drewN | apply Kd.R_drew)); exact HO465.out⟩, ⟨by (with_reducible repeat (first | apply Kd.R_alloc | apply Kd.R_drewN | apply Kd.R_drew)); exact Kd.R_mono HO_156.out (fun _ hk => ⟨hk.1.1, ⟨hk.1.2, hk.2⟩⟩)⟩, ⟨by repeat (first | (with_reducible first | exact HB.out | apply below_alloc | apply pw_below_drewN | apply below_drew1) | exact HB.out)⟩⟩
                                      · rw [if_neg c93] at H
                                        exact absurd H (by simp)
                                    · rw [if_neg c92] at H
                                      exact absurd H (by simp)
                                  · rw [if_neg c91] at H
                                    exact absurd H (by simp)
                                · as_aux_lemma =>
                                  rw [if_neg c90] at H
                                  have c90b0 : decide (x158_5 < (t418.length : Int)) = false := decide_eq_false c90
                                  clear c90
                                  (first | rw [c90b0] | (simp only [i64_w, i32_w]; rw [c90b0]) | skip)
                                  replace H := Option.bind_eq_some_iff.mp H
                                  obtain ⟨t466, A950, H⟩ := H
                                  replace H : (if (t421 != t466) = true then (some false) else (laws_FnRecurrentSand.j5 k5 t418 t425 t426 t433)) = some r := H
                                  have A95 := Aside0.mk A950
                                  clear A950
                                  by_cases c96 : (t421 != t466) = true
                                  · rw [if_pos c96] at H
                                    have c96b0 : (t421 != t466) = true := c96
                                    (try (have c96b1 : decide (t421 = t466) = false := by simpa using c96))
                                    (try (have c96b2 : (t421 == t466) = false := by simpa using c96))
                                    (try (have c96b3 : ¬ (t421 = t466) := by simpa using c96))
                                    clear c96
                                    obtain rfl := Option.some.inj H
                                    obtain ⟨Ao97, co97, eo97⟩ := Kd.R_slice HO_27.out
                                    subst eo97
                                    go_wp2_with (first | ((with_reducible refine gate_callee (f := 17) rfl ?_); refine goesL_ (some 173) rfl rfl Try.func17 (by kernel_rfl) rfl #[.slice Ao97 x27_5.length co97] rfl (by (try simp only [List.map_toArray, List.map_cons, List.map_nil]); first | done | rfl | (simp only [List.length_drop, List.length_take]; rfl)) ?_; (with_reducible refine (laws_wParking.calls k5 _ _ x27_5 t466 _ ?side1 ?side2 A95.out).mono ?_); (case side1 => repeat (first | exact (Kd.R_reads' HO_27.out).2.2 | (with_reducible refine Kd.C_alloc ?_ _) | (with_reducible refine Kd.C_drewN ?_ _) | (with_reducible refine Kd.C_drew ?_))); (case side2 => exact (Kd.R_reads' HO_27.out).2.1); rintro e w98 ⟨rfl, hb⟩; refine ⟨_, rfl, ?_⟩; have n0_ := Aside0.mk (Kd.R_below (by (with_reducible repeat (first | apply Kd.R_alloc | apply Kd.R_drewN | apply Kd.R_drew)); exact HO_5.out) hb); have n1_ := Aside0.mk (Kd.R_below (by (with_reducible repeat (first | apply Kd.R_alloc | apply Kd.R_drewN | apply Kd.R_drew)); exact HO_10.out) hb); have n2_ := Aside0.mk (Kd.R_below (by (with_reducible repeat (first | apply Kd.R_alloc | apply Kd.R_drewN | apply Kd.R_drew)); exact HO_14.out) hb); have n3_ := Aside0.mk (Kd.R_below (by (with_reducible repeat (first | apply Kd.R_alloc | apply Kd.R_drewN | apply Kd.R_drew)); exact HO_27.out) hb); have n4_ := Aside0.mk (Kd.R_below (by (with_reducible repeat (first | apply Kd.R_alloc | apply Kd.R_drewN | apply Kd.R_drew)); exact HO_156.out) hb); have n5_ := Aside0.mk (below_step (by repeat (first | (with_reducible first | exact HB.out | apply below_alloc | apply pw_below_drewN | apply below_drew1) | exact HB.out)) hb); clear HO_5; clear HO_10; clear HO_14; clear HO_27; clear HO_156; clear HB; have HO_5 := n0_; have HO_10 := n1_; have HO_14 := n2_; have HO_27 := n3_; have HO_156 := n4_; have HB := n5_; clear n0_ n1_ n2_ n3_ n4_ n5_; (try clear hb); (try clear hb2); (try clear hk); (try clear hi)))
                                    go_ret
                                    exact ⟨by first | rfl | (simp [errW_none, errW_some] <;> rfl) | (simp [*, errW_none, errW_some] <;> rfl), by repeat (first | (with_reducible first | exact HB.out | apply below_alloc | apply pw_below_drewN | apply below_drew1) | exact HB.out)⟩
                                  · rw [if_neg c96] at H
                                    have c96b0 : (t421 != t466) = false := by simpa using c96
                                    (try (have c96b1 : decide (t421 = t466) = true := by simpa using c96))
                                    (try (have c96b2 : (t421 == t466) = true := by simpa using c96))
                                    clear c96
                                    have H' := Aside0.mk H
                                    clear H
                                    obtain ⟨Ao99, co99, eo99⟩ := Kd.R_slice HO_27.out
                                    subst eo99
                                    go_wp2_with (first | ((with_reducible refine gate_callee (f := 17) rfl ?_); refine goesL_ (some 173) rfl rfl Try.func17 (by kernel_rfl) rfl #[.slice Ao99 x27_5.length co99] rfl (by (try simp only [List.map_toArray, List.map_cons, List.map_nil]); first | done | rfl | (simp only [List.length_drop, List.length_take]; rfl)) ?_; (with_reducible refine (laws_wParking.calls k5 _ _ x27_5 t466 _ ?side1 ?side2 A95.out).mono ?_); (case side1 => repeat (first | exact (Kd.R_reads' HO_27.out).2.2 | (with_reducible refine Kd.C_alloc ?_ _) | (with_reducible refine Kd.C_drewN ?_ _) | (with_reducible refine Kd.C_drew ?_))); (case side2 => exact (Kd.R_reads' HO_27.out).2.1); rintro e w100 ⟨rfl, hb⟩; refine ⟨_, rfl, ?_⟩; have n0_ := Aside0.mk (Kd.R_below (by (with_reducible repeat (first | apply Kd.R_alloc | apply Kd.R_drewN | apply Kd.R_drew)); exact HO_5.out) hb); have n1_ := Aside0.mk (Kd.R_below (by (with_reducible repeat (first | apply Kd.R_alloc | apply Kd.R_drewN | apply Kd.R_drew)); exact HO_10.out) hb); have n2_ := Aside0.mk (Kd.R_below (by (with_reducible repeat (first | apply Kd.R_alloc | apply Kd.R_drewN | apply Kd.R_drew)); exact HO_14.out) hb); have n3_ := Aside0.mk (Kd.R_below (by (with_reducible repeat (first | apply Kd.R_alloc | apply Kd.R_drewN | apply Kd.R_drew)); exact HO_27.out) hb); have n4_ := Aside0.mk (Kd.R_below (by (with_reducible repeat (first | apply Kd.R_alloc | apply Kd.R_drewN | apply Kd.R_drew)); exact HO_156.out) hb); have n5_ := Aside0.mk (below_step (by repeat (first | (with_reducible first | exact HB.out | apply below_alloc | apply pw_below_drewN | apply below_drew1) | exact HB.out)) hb); clear HO_5; clear HO_10; clear HO_14; clear HO_27; clear HO_156; clear HB; have HO_5 := n0_; have HO_10 := n1_; have HO_14 := n2_; have HO_27 := n3_; have HO_156 := n4_; have HB := n5_; clear n0_ n1_ n2_ n3_ n4_ n5_; (try clear hb); (try clear hb2); (try clear hk); (try clear hi)))
                                    go_meet
                                    case rel => exact ⟨_, H', ⟨by have := HJ11.out; have := HJ59.out; have := HJ69.out; have := HJ84.out; have := HK5.out; first | omega | exact Nat.le_refl _⟩, ⟨by (with_reducible repeat (first | apply Kd.R_alloc | apply Kd.R_drewN | apply Kd.R_drew)); exact Kd.R_mono HO_5.out (fun _ hk => ⟨hk.1, hk.2.1⟩)⟩, ⟨by (with_reducible repeat (first | apply Kd.R_alloc | apply Kd.R_drewN | apply Kd.R_drew)); exact Kd.R_mono HO_10.out (fun _ hk => ⟨hk.1, hk.2.1⟩)⟩, ⟨by (with_reducible repeat (first | apply Kd.R_alloc | apply Kd.R_drewN | apply Kd.R_drew)); exact Kd.R_mono HO_14.out (fun _ hk => ⟨hk.1, hk.2.1⟩)⟩, ⟨by repeat (first | (with_reducible first | exact HB.out | apply below_alloc | apply pw_below_drewN | apply below_drew1) | exact HB.out)⟩⟩
                          · replace c89 := Bool.eq_false_iff.mpr c89
                            subst c89
                            have H1 : (laws_FnRecurrentSand.j5 kj84 t418 t425 t426 t433) = some r := by rw [if_neg (show ¬ (false = true) by decide)] at H; exact H
                            clear H
                            have H := H1
                            clear H1
                            have H' := Aside0.mk H
                            clear H
                            go_wp2
                            go_meet
                            case rel => exact ⟨_, H', ⟨by have := HJ11.out; have := HJ59.out; have := HJ69.out; have := HJ84.out; first | omega | exact Nat.le_refl _⟩, ⟨by (with_reducible repeat (first | apply Kd.R_alloc | apply Kd.R_drewN | apply Kd.R_drew)); exact HO_5.out⟩, ⟨by (with_reducible repeat (first | apply Kd.R_alloc | apply Kd.R_drewN | apply Kd.R_drew)); exact HO_10.out⟩, ⟨by (with_reducible repeat (first | apply Kd.R_alloc | apply Kd.R_drewN | apply Kd.R_drew)); exact HO_14.out⟩, ⟨by repeat (first | (with_reducible first | exact HB.out | apply below_alloc | apply pw_below_drewN | apply below_drew1) | exact HB.out)⟩⟩
                        case rest =>
                          clear HC88
                          try clear c1
                          try clear c2
                          try clear p2
                          try clear c3
                          try clear c4
                          try clear p4
                          try clear q4
                          try clear hx4
                          try clear c5
                          try clear c6
                          try clear p6
                          try clear c7
                          try clear c8
                          try clear c9
                          try clear c10
                          try clear c11
                          try clear c13
                          try clear c14
                          try clear c15
                          try clear c16
                          try clear c17
                          try clear c21
                          try clear c21b0
                          try clear c21b1
                          try clear c21b2
                          try clear c22
                          try clear c22b0
                          try clear c22b1
                          try clear c22b2
                          try clear c23
                          try clear c23b0
                          try clear c23b1
                          try clear c23b2
                          try clear c25
                          try clear c26
                          try clear c26b0
                          try clear c26b1
                          try clear c26b2
                          try clear c30
                          try clear c31
                          try clear c32
                          try clear c32b0
                          try clear c32b1
                          try clear c32b2
                          try clear c41
                          try clear c41b0
                          try clear c41b1
                          try clear c41b2
                          try clear p46
                          try clear q46
                          try clear hx46
                          try clear c56
                          try clear p64
                          try clear c65
                          try clear c65b0
                          try clear c65b1
                          try clear c65b2
                          try clear c69
                          try clear c71
                          try clear c73
                          try clear c75
                          try clear c87
                          try clear c89
                          try clear c90
                          try clear c90b0
                          try clear c91
                          try clear c91b0
                          try clear c92
                          try clear c92b0
                          try clear c93
                          try clear c96
                          try clear c96b0
                          try clear c96b1
                          try clear c96b2
                          try clear hx462_0
                          try clear p2
                          try clear p462
                          try clear q462
                          obtain ⟨kq, HA, HJ87, HO_5, HO_10, HO_14, HB⟩ := hcut
                          cases kq with
                          | zero => exact absurd HA.out (by simp [laws_FnRecurrentSand.j5])
                          | succ kj87 =>
                            have H := HA.out
                            clear HA
                            simp only [laws_FnRecurrentSand.j5] at H
                            by_cases c101 : t426 = true
                            · as_aux_lemma =>
                              subst c101
                              have H1 : ((impl_SandOfParking.f kj87 t425).bind fun bt467 => (if bt467.2 = true then ((laws_wSame.f kj87 bt467.1 t418).bind fun t471 => (if t471 = true then (laws_FnRecurrentSand.j6 kj87 t433 ((t433.length : Int) != (t418.length : Int))) else (laws_FnRecurrentSand.j6 kj87 t433 true))) else (laws_FnRecurrentSand.j6 kj87 t433 true))) = some r := by rw [if_pos rfl] at H; exact H
                              clear H
                              have H := H1
                              clear H1
                              replace H := Option.bind_eq_some_iff.mp H
                              obtain ⟨⟨t467, t468⟩, A1020, H⟩ := H
                              replace H : (if t468 = true then ((laws_wSame.f kj87 t467 t418).bind fun t471 => (if t471 = true then (laws_FnRecurrentSand.j6 kj87 t433 ((t433.length : Int) != (t418.length : Int))) else (laws_FnRecurrentSand.j6 kj87 t433 true))) else (laws_FnRecurrentSand.j6 kj87 t433 true)) = some r := H
                              have A102 := Aside0.mk A1020
                              clear A1020
                              have HC103 := Aside0.mk H
                              clear H
                              obtain ⟨Ao104, co104, eo104⟩ := Kd.R_slice HO_10.out
                              subst eo104
                              go_upto_region 34 with (first | ((with_reducible refine gate_callee (f := 14) rfl ?_); refine goesL_ (some 179) rfl rfl Try.func14 (by kernel_rfl) rfl #[.slice Ao104 t425.length co104] rfl (by (try simp only [List.map_toArray, List.map_cons, List.map_nil]); first | done | rfl | (simp only [List.length_drop, List.length_take]; rfl)) ?_; (with_reducible refine (impl_SandOfParking.calls kj87 _ _ t425 t467 t468 _ ?side1 ?side2 A102.out).mono ?_); (case side1 => repeat (first | exact (Kd.R_reads' HO_10.out).2.2 | (with_reducible refine Kd.C_alloc ?_ _) | (with_reducible refine Kd.C_drewN ?_ _) | (with_reducible refine Kd.C_drew ?_))); (case side2 => exact (Kd.R_reads' HO_10.out).2.1); rintro e w105 ⟨v469, rfl, ho0, hb⟩; refine ⟨_, rfl, ?_⟩; have n0_ := Aside0.mk (Kd.R_elder' (by (with_reducible repeat (first | apply Kd.R_alloc | apply Kd.R_drewN | apply Kd.R_drew)); exact HO_5.out) (Kd.R_base ho0) hb); have n1_ := Aside0.mk (Kd.R_elder' (by (with_reducible repeat (first | apply Kd.R_alloc | apply Kd.R_drewN | apply Kd.R_drew)); exact HO_10.out) (Kd.R_base ho0) hb); have n2_ := Aside0.mk (Kd.R_elder' (by (with_reducible repeat (first | apply Kd.R_alloc | apply Kd.R_drewN | apply Kd.R_drew)); exact HO_14.out) (Kd.R_base ho0) hb); have n3_ := Aside0.mk (Kd.R_lower (Kd.R_new' (Kd.R_new' (Kd.R_new' ho0 (Kd.R_lt (by (with_reducible repeat (first | apply Kd.R_alloc | apply Kd.R_drewN | apply Kd.R_drew)); exact HO_5.out))) (Kd.R_lt (by (with_reducible repeat (first | apply Kd.R_alloc | apply Kd.R_drewN | apply Kd.R_drew)); exact HO_10.out))) (Kd.R_lt (by (with_reducible repeat (first | apply Kd.R_alloc | apply Kd.R_drewN | apply Kd.R_drew)); exact HO_14.out))) (below_size (by repeat (first | (with_reducible first | exact HB.out | apply below_alloc | apply pw_below_drewN | apply below_drew1) | exact HB.out)))); have n4_ := Aside0.mk (below_step (by repeat (first | (with_reducible first | exact HB.out | apply below_alloc | apply pw_below_drewN | apply below_drew1) | exact HB.out)) hb); clear HO_5; clear HO_10; clear HO_14; clear HB; have HO_5 := n0_; have HO_10 := n1_; have HO_14 := n2_; have HO470 := n3_; have HB := n4_; clear n0_ n1_ n2_ n3_ n4_; (try clear hb); (try clear hb2); (try clear hk); (try clear hi); (try clear ho0)))
                              (try simp only [Act.put, List.setIfInBounds_toArray, List.set_cons_zero, List.set_cons_succ])
                              go_cut [196] (fun v196 wc => ∃ (kq : Nat) (x196_102 : Bool), v196 = .bool x196_102 ∧ Aside0 (laws_FnRecurrentSand.j6 kq t433 x196_102 = some r) ∧ Aside0 (kq ≤ kj87) ∧ Aside0 (Kd.R (Kd.int .i64) 3 wc w.heap.size (fun _ => True) v435 t433) ∧ Aside0 (Below w.heap.size w wc))
                              case first =>
                                have H := HC103.out
                                clear HC103
                                by_cases c106 : t468 = true
                                · subst c106
                                  have H1 : ((laws_wSame.f kj87 t467 t418).bind fun t471 => (if t471 = true then (laws_FnRecurrentSand.j6 kj87 t433 ((t433.length : Int) != (t418.length : Int))) else (laws_FnRecurrentSand.j6 kj87 t433 true))) = some r := by rw [if_pos rfl] at H; exact H
                                  clear H
                                  have H := H1
                                  clear H1
                                  replace H := Option.bind_eq_some_iff.mp H
                                  obtain ⟨t471, A1070, H⟩ := H
                                  replace H : (if t471 = true then (laws_FnRecurrentSand.j6 kj87 t433 ((t433.length : Int) != (t418.length : Int))) else (laws_FnRecurrentSand.j6 kj87 t433 true)) = some r := H
                                  have A107 := Aside0.mk A1070
                                  clear A1070
                                  by_cases c108 : t471 = true
                                  · subst c108
                                    have H1 : (laws_FnRecurrentSand.j6 kj87 t433 ((t433.length : Int) != (t418.length : Int))) = some r := by rw [if_pos rfl] at H; exact H
                                    clear H
                                    have H := H1
                                    clear H1
                                    have H' := Aside0.mk H
                                    clear H
                                    obtain ⟨Ao109, co109, eo109⟩ := Kd.R_slice HO470.out
                                    subst eo109
                                    go_wp2_with (first | (go_at_call 12; (with_reducible refine (laws_wSame.calls kj87 _ _ t467 _ _ t418 true _ ?side1 ?side2 ?side3 ?side4 A107.out).mono ?_); (case side1 => repeat (first | exact (Kd.R_reads' HO470.out).2.2 | (with_reducible refine Kd.C_alloc ?_ _) | (with_reducible refine Kd.C_drewN ?_ _) | (with_reducible refine Kd.C_drew ?_))); (case side2 => exact (Kd.R_reads' HO470.out).2.1); (case side3 => repeat (first | exact (Kd.R_reads' HO_5.out).2.2 | (with_reducible refine Kd.C_alloc ?_ _) | (with_reducible refine Kd.C_drewN ?_ _) | (with_reducible refine Kd.C_drew ?_))); (case side4 => exact (Kd.R_reads' HO_5.out).2.1); rintro e w' ⟨rfl, ⟨nd, rfl⟩⟩; obtain ⟨Ao110, co110, eo110⟩ := Kd.R_slice HO_14.out; subst eo110))
                                    go_meet
                                    case rel => exact ⟨_, (((t433.length : Int) != (t418.length : Int))), (by first | rfl | (simp; done) | (simp [*]; done)), H', ⟨by have := HJ11.out; have := HJ59.out; have := HJ69.out; have := HJ84.out; have := HJ87.out; first | omega | exact Nat.le_refl _⟩, ⟨by (with_reducible repeat (first | apply Kd.R_alloc | apply Kd.R_drewN | apply Kd.R_drew)); exact Kd.R_mono HO_14.out (fun _ hk => trivial)⟩, ⟨by repeat (first | (with_reducible first | exact HB.out | apply below_alloc | apply pw_below_drewN | apply below_drew1) | exact HB.out)⟩⟩
                                  · replace c108 := Bool.eq_false_iff.mpr c108
                                    subst c108
                                    have H1 : (laws_FnRecurrentSand.j6 kj87 t433 true) = some r := by rw [if_neg (show ¬ (false = true) by decide)] at H; exact H
                                    clear H
                                    have H := H1
                                    clear H1
                                    have H' := Aside0.mk H
                                    clear H
                                    obtain ⟨Ao111, co111, eo111⟩ := Kd.R_slice HO470.out
                                    subst eo111
                                    go_wp2_with (first | (go_at_call 12; (with_reducible refine (laws_wSame.calls kj87 _ _ t467 _ _ t418 false _ ?side1 ?side2 ?side3 ?side4 A107.out).mono ?_); (case side1 => repeat (first | exact (Kd.R_reads' HO470.out).2.2 | (with_reducible refine Kd.C_alloc ?_ _) | (with_reducible refine Kd.C_drewN ?_ _) | (with_reducible refine Kd.C_drew ?_))); (case side2 => exact (Kd.R_reads' HO470.out).2.1); (case side3 => repeat (first | exact (Kd.R_reads' HO_5.out).2.2 | (with_reducible refine Kd.C_alloc ?_ _) | (with_reducible refine Kd.C_drewN ?_ _) | (with_reducible refine Kd.C_drew ?_))); (case side4 => exact (Kd.R_reads' HO_5.out).2.1); rintro e w' ⟨rfl, ⟨nd, rfl⟩⟩))
                                    go_meet
                                    case rel => exact ⟨_, (true), (by first | rfl | (simp; done) | (simp [*]; done)), H', ⟨by have := HJ11.out; have := HJ59.out; have := HJ69.out; have := HJ84.out; have := HJ87.out; first | omega | exact Nat.le_refl _⟩, ⟨by (with_reducible repeat (first | apply Kd.R_alloc | apply Kd.R_drewN | apply Kd.R_drew)); exact Kd.R_mono HO_14.out (fun _ hk => trivial)⟩, ⟨by repeat (first | (with_reducible first | exact HB.out | apply below_alloc | apply pw_below_drewN | apply below_drew1) | exact HB.out)⟩⟩
                                · replace c106 := Bool.eq_false_iff.mpr c106
                                  subst c106
                                  have H1 : (laws_FnRecurrentSand.j6 kj87 t433 true) = some r := by rw [if_neg (show ¬ (false = true) by decide)] at H; exact H
                                  clear H
                                  have H := H1
                                  clear H1
                                  have H' := Aside0.mk H
                                  clear H
                                  go_wp2
                                  go_meet
                                  case rel => exact ⟨_, (true), (by first | rfl | (simp; done) | (simp [*]; done)), H', ⟨by have := HJ11.out; have := HJ59.out; have := HJ69.out; have := HJ84.out; have := HJ87.out; first | omega | exact Nat.le_refl _⟩, ⟨by (with_reducible repeat (first | apply Kd.R_alloc | apply Kd.R_drewN | apply Kd.R_drew)); exact Kd.R_mono HO_14.out (fun _ hk => trivial)⟩, ⟨by repeat (first | (with_reducible first | exact HB.out | apply below_alloc | apply pw_below_drewN | apply below_drew1) | exact HB.out)⟩⟩
                              case rest =>
                                clear HC103
                                try clear c1
                                try clear c2
                                try clear p2
                                try clear c3
                                try clear c4
                                try clear p4
                                try clear q4
                                try clear hx4
                                try clear c5
                                try clear c6
                                try clear p6
                                try clear c7
                                try clear c8
                                try clear c9
                                try clear c10
                                try clear c11
                                try clear c13
                                try clear c14
                                try clear c15
                                try clear c16
                                try clear c17
                                try clear c21
                                try clear c21b0
                                try clear c21b1
                                try clear c21b2
                                try clear c22
                                try clear c22b0
                                try clear c22b1
                                try clear c22b2
                                try clear c23
                                try clear c23b0
                                try clear c23b1
                                try clear c23b2
                                try clear c25
                                try clear c26
                                try clear c26b0
                                try clear c26b1
                                try clear c26b2
                                try clear c30
                                try clear c31
                                try clear c32
                                try clear c32b0
                                try clear c32b1
                                try clear c32b2
                                try clear c41
                                try clear c41b0
                                try clear c41b1
                                try clear c41b2
                                try clear p46
                                try clear q46
                                try clear hx46
                                try clear c56
                                try clear p64
                                try clear c65
                                try clear c65b0
                                try clear c65b1
                                try clear c65b2
                                try clear c69
                                try clear c71
                                try clear c73
                                try clear c75
                                try clear c87
                                try clear c89
                                try clear c90
                                try clear c90b0
                                try clear c91
                                try clear c91b0
                                try clear c92
                                try clear c92b0
                                try clear c93
                                try clear c96
                                try clear c96b0
                                try clear c96b1
                                try clear c96b2
                                try clear c101
                                try clear c106
                                try clear c108
                                try clear hx462_0
                                try clear p2
                                try clear p4
                                try clear p46
                                try clear p462
                                try clear p6
                                try clear p64
                                try clear q4
                                try clear q46
                                try clear q462
                                obtain ⟨kq, x196_102, rfl, HA, HJ102, HO_14, HB⟩ := hcut
                                cases kq with
                                | zero => exact absurd HA.out (by simp [laws_FnRecurrentSand.j6])
                                | succ kj102 =>
                                  have H := HA.out
                                  clear HA
                                  simp only [laws_FnRecurrentSand.j6] at H
                                  by_cases c112 : x196_102 = true
                                  · subst c112
                                    have H1 : (some false) = some r := by rw [if_pos rfl] at H; exact H
                                    clear H
                                    have H := H1
                                    clear H1
                                    obtain rfl := Option.some.inj H
                                    go_wp2
                                    go_ret
                                    exact ⟨by first | rfl | (simp [errW_none, errW_some] <;> rfl) | (simp [*, errW_none, errW_some] <;> rfl), by repeat (first | (with_reducible first | exact HB.out | apply below_alloc | apply pw_below_drewN | apply below_drew1) | exact HB.out)⟩
                                  · as_aux_lemma =>
                                    replace c112 := Bool.eq_false_iff.mpr c112
                                    subst c112
                                    have H1 : (laws_FnRecurrentSand.l1 kj102 t433 t433 (t433.length : Int) 0) = some r := by rw [if_neg (show ¬ (false = true) by decide)] at H; exact H
                                    clear H
                                    have H := H1
                                    clear H1
                                    have H' := Aside0.mk H
                                    clear H
                                    obtain ⟨Ao113, co113, eo113⟩ := Kd.R_slice HO_14.out
                                    subst eo113
                                    go_wp2
                                    go_loopg [199] kj102 (fun kq v199 w' => ∃ (x199_7 : Int), v199 = .int .i64 x199_7 ∧ Aside0 (laws_FnRecurrentSand.l1 kq t433 t433 (t433.length : Int) x199_7 = some r) ∧ Aside0 (kq ≤ kj102) ∧ Aside0 (Kd.R (Kd.int .i64) 3 w' w.heap.size (fun _ => True) (.slice Ao113 t433.length co113) t433) ∧ Aside0 (Kd.R (Kd.int .i64) 3 w' w.heap.size (fun _ => True) (.slice Ao113 t433.length co113) t433) ∧ Aside0 (Below w.heap.size w w'))
                                    case atStart => exact ⟨(0), (by first | rfl | (simp; done) | (simp [*]; done)), H', ⟨Nat.le_refl _⟩, ⟨by (with_reducible repeat (first | apply Kd.R_alloc | apply Kd.R_drewN | apply Kd.R_drew)); exact HO_14.out⟩, ⟨by (with_reducible repeat (first | apply Kd.R_alloc | apply Kd.R_drewN | apply Kd.R_drew)); exact HO_14.out⟩, ⟨by repeat (first | (with_reducible first | exact HB.out | apply below_alloc | apply pw_below_drewN | apply below_drew1) | exact HB.out)⟩⟩
                                    case round =>
                                      clear H'
                                      try clear c1
                                      try clear c2
                                      try clear p2
                                      try clear c3
                                      try clear c4
                                      try clear p4
                                      try clear q4
                                      try clear hx4
                                      try clear c5
                                      try clear c6
                                      try clear p6
                                      try clear c7
                                      try clear c8
                                      try clear c9
                                      try clear c10
                                      try clear c11
                                      try clear c13
                                      try clear c14
                                      try clear c15
                                      try clear c16
                                      try clear c17
                                      try clear c21
                                      try clear c21b0
                                      try clear c21b1
                                      try clear c21b2
                                      try clear c22
                                      try clear c22b0
                                      try clear c22b1
                                      try clear c22b2
                                      try clear c23
                                      try clear c23b0
                                      try clear c23b1
                                      try clear c23b2
                                      try clear c25
                                      try clear c26
                                      try clear c26b0
                                      try clear c26b1
                                      try clear c26b2
                                      try clear c30
                                      try clear c31
                                      try clear c32
                                      try clear c32b0
                                      try clear c32b1
                                      try clear c32b2
                                      try clear c41
                                      try clear c41b0
                                      try clear c41b1
                                      try clear c41b2
                                      try clear p46
                                      try clear q46
                                      try clear hx46
                                      try clear c56
                                      try clear p64
                                      try clear c65
                                      try clear c65b0
                                      try clear c65b1
                                      try clear c65b2
                                      try clear c69
                                      try clear c71
                                      try clear c73
                                      try clear c75
                                      try clear c87
                                      try clear c89
                                      try clear c90
                                      try clear c90b0
                                      try clear c91
                                      try clear c91b0
                                      try clear c92
                                      try clear c92b0
                                      try clear c93
                                      try clear c96
                                      try clear c96b0
                                      try clear c96b1
                                      try clear c96b2
                                      try clear c101
                                      try clear c106
                                      try clear c108
                                      try clear c112
                                      try clear hx462_0
                                      try clear p2
                                      try clear p4
                                      try clear p46
                                      try clear p462
                                      try clear p6
                                      try clear p64
                                      try clear q4
                                      try clear q46
                                      try clear q462
                                      obtain ⟨x199_7, rfl, HA, HK7, HO_14, HO_197, HB⟩ := hrel
                                      cases gk with
                                      | zero => exact absurd HA.out (by simp [laws_FnRecurrentSand.l1])
                                      | succ k7 =>
                                        have H := HA.out
                                        clear HA
                                        simp only [laws_FnRecurrentSand.l1] at H
                                        by_cases c114 : x199_7 < (t433.length : Int)
                                        · as_aux_lemma =>
                                          rw [if_pos c114] at H
                                          have c114b0 : decide (x199_7 < (t433.length : Int)) = true := decide_eq_true c114
                                          clear c114
                                          by_cases c115 : 0 ≤ x199_7
                                          · as_aux_lemma =>
                                            rw [if_pos c115] at H
                                            have c115b0 : decide (0 ≤ x199_7) = true := decide_eq_true c115
                                            clear c115
                                            by_cases c116 : x199_7 < (t433.length : Int)
                                            · as_aux_lemma =>
                                              rw [if_pos c116] at H
                                              have c116b0 : decide (x199_7 < (t433.length : Int)) = true := decide_eq_true c116
                                              clear c116
                                              have c117b0 := eq_true (of_decide_eq_true (by first | (with_reducible assumption) | assumption) : 0 ≤ x199_7)
                                              by_cases c118 : x199_7 ≤ (t433.length : Int)
                                              · as_aux_lemma =>
                                                rw [if_pos c118] at H
                                                have c118b0 := eq_true c118
                                                have c118b1 : decide (x199_7 ≤ (t433.length : Int)) = true := decide_eq_true c118
                                                clear c118
                                                obtain ⟨y473, hy473⟩ : ∃ y_ : List Int, y_ = (t433.take (x199_7 : Int).toNat) := ⟨_, rfl⟩
                                                replace H : ((laws_wHas.f k7 y473 (rd t433 x199_7)).bind fun t477 => (if t477 = true then (some false) else (laws_FnRecurrentSand.l1 k7 t433 t433 (t433.length : Int) (wrap64 (x199_7 + 1))))) = some r := by first | (rw [hy473]; with_reducible exact H) | (have H2_ := (Option.bind_some _ _).symm.trans H; rw [hy473]; with_reducible exact H2_) | (have H2_ := (Option.bind_some _ _).symm.trans H; with_reducible exact H2_) | with_reducible exact H | (rw [hy473]; exact H) | exact H
                                                have Ny473 := Aside0.mk hy473
                                                clear hy473
                                                replace H := Option.bind_eq_some_iff.mp H
                                                obtain ⟨t477, A1190, H⟩ := H
                                                replace H : (if t477 = true then (some false) else (laws_FnRecurrentSand.l1 k7 t433 t433 (t433.length : Int) (wrap64 (x199_7 + 1)))) = some r := H
                                                have A119 := Aside0.mk A1190
                                                clear A1190
                                                by_cases c120 : t477 = true
                                                · subst c120
                                                  have H1 : (some false) = some r := by rw [if_pos rfl] at H; exact H
                                                  clear H
                                                  have H := H1
                                                  clear H1
                                                  obtain rfl := Option.some.inj H
                                                  have p472 : 0 ≤ (x199_7 : Int) := of_decide_eq_true (by first | (with_reducible assumption) | assumption)
                                                  have q472 : x199_7 < (t433.length : Int) := of_decide_eq_true (by first | (with_reducible assumption) | assumption)
                                                  obtain ⟨ad472, e472, hx472_0⟩ := Kd.at_int (Kd.R_reads' HO_197.out).2.2 x199_7 p472 q472
                                                  cases e472
                                                  replace p472 := eq_true p472
                                                  replace q472 := eq_true q472
                                                  have q121 : (x199_7 : Int) ≤ ((t433.length : Int) : Int) := of_decide_eq_true (by first | (with_reducible assumption) | assumption)
                                                  obtain ⟨i0121, hi0121, _, hsz121, _⟩ := info_parts info3
                                                  have hroom121 : t433.length ≤ co113 := (Kd.R_reads' HO_14.out).2.1
                                                  have hC121 : Kd.C (Kd.int .i64) _ (some ad472) t433.length t433 := (Kd.R_reads' HO_14.out).2.2
                                                  have hcut121 := cut_to (P := Try.prog) 24 3 .i64 Try.underlying24 hi0121 (some ad472) t433.length co113 x199_7 (of_decide_eq_true (by first | (with_reducible assumption) | assumption)) q121 hroom121
                                                  have hr121 := Kd.C_take (m := (x199_7 : Int).toNat) hC121 (by omega)
                                                  have hy121 : y473.length = (x199_7 : Int).toNat := (by rw [Ny473.out, List.length_take]; omega)
                                                  rw [← Ny473.out] at hr121
                                                  rw [← hy121] at hcut121
                                                  have HR476 := Aside0.mk hr121
                                                  have HC476 := Aside0.mk (show y473.length ≤ co113 from by omega)
                                                  clear hr121 hC121 hroom121 hi0121 hsz121
                                                  have KY121 := Aside0.mk hy121
                                                  clear hy121
                                                  have KL121 := Aside0.mk (show (x199_7 : Int).toNat ≤ t433.length from by omega)
                                                  replace q121 := eq_true q121
                                                  go_wp2_with (first | ((with_reducible refine gate_callee (f := 18) rfl ?_); refine goesL_ (some 208) rfl rfl Try.func18 (by kernel_rfl) rfl #[.slice (some ad472) y473.length co113, .int .i64 (rd t433 x199_7)] rfl (by (try simp only [List.map_toArray, List.map_cons, List.map_nil]); first | done | rfl | (simp only [List.length_drop, List.length_take]; rfl)) ?_; (with_reducible refine (laws_wHas.calls k7 _ _ y473 (rd t433 x199_7) true _ ?side1 ?side2 A119.out).mono ?_); (case side1 => repeat (first | exact (by repeat (first | (with_reducible exact HR476.out) | (with_reducible refine Kd.C_alloc ?_ _) | (with_reducible refine Kd.C_drewN ?_ _) | (with_reducible refine Kd.C_drew ?_) | exact HR476.out)) | (with_reducible refine Kd.C_alloc ?_ _) | (with_reducible refine Kd.C_drewN ?_ _) | (with_reducible refine Kd.C_drew ?_))); (case side2 => exact HC476.out); rintro e w' ⟨rfl, ⟨nd, rfl⟩⟩; refine ⟨_, rfl, ?_⟩))
                                                  go_ret
                                                  exact ⟨by first | rfl | (simp [errW_none, errW_some] <;> rfl) | (simp [*, errW_none, errW_some] <;> rfl), by repeat (first | (with_reducible first | exact HB.out | apply below_alloc | apply pw_below_drewN | apply below_drew1) | exact HB.out)⟩
                                                · as_aux_lemma =>
                                                  replace c120 := Bool.eq_false_iff.mpr c120
                                                  subst c120
                                                  have H1 : (laws_FnRecurrentSand.l1 k7 t433 t433 (t433.length : Int) (wrap64 (x199_7 + 1))) = some r := by rw [if_neg (show ¬ (false = true) by decide)] at H; exact H
                                                  clear H
                                                  have H := H1
                                                  clear H1
                                                  have H' := Aside0.mk H
                                                  clear H
                                                  have p472 : 0 ≤ (x199_7 : Int) := of_decide_eq_true (by first | (with_reducible assumption) | assumption)
                                                  have q472 : x199_7 < (t433.length : Int) := of_decide_eq_true (by first | (with_reducible assumption) | assumption)
                                                  obtain ⟨ad472, e472, hx472_0⟩ := Kd.at_int (Kd.R_reads' HO_197.out).2.2 x199_7 p472 q472
                                                  cases e472
                                                  replace p472 := eq_true p472
                                                  replace q472 := eq_true q472
                                                  have q122 : (x199_7 : Int) ≤ ((t433.length : Int) : Int) := of_decide_eq_true (by first | (with_reducible assumption) | assumption)
                                                  obtain ⟨i0122, hi0122, _, hsz122, _⟩ := info_parts info3
                                                  have hroom122 : t433.length ≤ co113 := (Kd.R_reads' HO_14.out).2.1
                                                  have hC122 : Kd.C (Kd.int .i64) _ (some ad472) t433.length t433 := (Kd.R_reads' HO_14.out).2.2
                                                  have hcut122 := cut_to (P := Try.prog) 24 3 .i64 Try.underlying24 hi0122 (some ad472) t433.length co113 x199_7 (of_decide_eq_true (by first | (with_reducible assumption) | assumption)) q122 hroom122
                                                  have hr122 := Kd.C_take (m := (x199_7 : Int).toNat) hC122 (by omega)
                                                  have hy122 : y473.length = (x199_7 : Int).toNat := (by rw [Ny473.out, List.length_take]; omega)
                                                  rw [← Ny473.out] at hr122
                                                  rw [← hy122] at hcut122
                                                  have HR476 := Aside0.mk hr122
                                                  have HC476 := Aside0.mk (show y473.length ≤ co113 from by omega)
                                                  clear hr122 hC122 hroom122 hi0122 hsz122
                                                  have KY122 := Aside0.mk hy122
                                                  clear hy122
                                                  have KL122 := Aside0.mk (show (x199_7 : Int).toNat ≤ t433.length from by omega)
                                                  replace q122 := eq_true q122
                                                  go_wp2_with (first | ((with_reducible refine gate_callee (f := 18) rfl ?_); refine goesL_ (some 208) rfl rfl Try.func18 (by kernel_rfl) rfl #[.slice (some ad472) y473.length co113, .int .i64 (rd t433 x199_7)] rfl (by (try simp only [List.map_toArray, List.map_cons, List.map_nil]); first | done | rfl | (simp only [List.length_drop, List.length_take]; rfl)) ?_; (with_reducible refine (laws_wHas.calls k7 _ _ y473 (rd t433 x199_7) false _ ?side1 ?side2 A119.out).mono ?_); (case side1 => repeat (first | exact (by repeat (first | (with_reducible exact HR476.out) | (with_reducible refine Kd.C_alloc ?_ _) | (with_reducible refine Kd.C_drewN ?_ _) | (with_reducible refine Kd.C_drew ?_) | exact HR476.out)) | (with_reducible refine Kd.C_alloc ?_ _) | (with_reducible refine Kd.C_drewN ?_ _) | (with_reducible refine Kd.C_drew ?_))); (case side2 => exact HC476.out); rintro e w' ⟨rfl, ⟨nd, rfl⟩⟩; refine ⟨_, rfl, ?_⟩))
                                                  go_roundg k7
                                                  case measure => have := HJ11.out; have := HJ59.out; have := HJ69.out; have := HJ84.out; have := HJ87.out; have := HJ102.out; have := HK7.out; omega
                                                  case rel => exact ⟨(wrap64 (x199_7 + 1)), (by first | rfl | (simp; done) | (simp [*]; done)), H', ⟨by have := HJ11.out; have := HJ59.out; have := HJ69.out; have := HJ84.out; have := HJ87.out; have := HJ102.out; have := HK7.out; omega⟩, ⟨by (with_reducible repeat (first | apply Kd.R_alloc | apply Kd.R_drewN | apply Kd.R_drew)); exact HO_14.out⟩, ⟨by (with_reducible repeat (first | apply Kd.R_alloc | apply Kd.R_drewN | apply Kd.R_drew)); exact HO_197.out⟩, ⟨by repeat (first | (with_reducible first | exact HB.out | apply below_alloc | apply pw_below_drewN | apply below_drew1) | exact HB.out)⟩⟩
                                              · rw [if_neg c118] at H
                                                exact absurd H (by simp)
                                            · rw [if_neg c116] at H
                                              exact absurd H (by simp)
                                          · rw [if_neg c115] at H
                                            exact absurd H (by simp)
                                        · rw [if_neg c114] at H
                                          have c114b0 : decide (x199_7 < (t433.length : Int)) = false := decide_eq_false c114
                                          clear c114
                                          obtain rfl := Option.some.inj H
                                          go_wp2
                                          go_ret
                                          exact ⟨by first | rfl | (simp [errW_none, errW_some] <;> rfl) | (simp [*, errW_none, errW_some] <;> rfl), by repeat (first | (with_reducible first | exact HB.out | apply below_alloc | apply pw_below_drewN | apply below_drew1) | exact HB.out)⟩
                            · replace c101 := Bool.eq_false_iff.mpr c101
                              subst c101
                              have H1 : (some true) = some r := by rw [if_neg (show ¬ (false = true) by decide)] at H; exact H
                              clear H
                              have H := H1
                              clear H1
                              obtain rfl := Option.some.inj H
                              go_wp2
                              go_ret
                              exact ⟨by first | rfl | (simp [errW_none, errW_some] <;> rfl) | (simp [*, errW_none, errW_some] <;> rfl), by repeat (first | (with_reducible first | exact HB.out | apply below_alloc | apply pw_below_drewN | apply below_drew1) | exact HB.out)⟩

/-- THE ONE PURE STATEMENT of laws_FnRecurrentSand: yours. -/
def laws_FnRecurrentSand.Pure : Prop := ∀ (l0 : List Int) (l1 : List Int), l0.length ≤ maxLen → l0.length * 1 ≤ 140737488351232 → (∀ x ∈ l0, (Lit.int .u8 x).wf = true) → l1.length ≤ maxLen → l1.length * 1 ≤ 140737488351232 → (∀ x ∈ l1, (Lit.int .u8 x).wf = true) → ∃ k, laws_FnRecurrentSand.f k l0 l1 = some true
theorem laws_FnRecurrentSand.walk (P : laws_FnRecurrentSand.Pure) (a0 : Option Addr) (len0 cap0 : Nat) (z0 : List Int) (a1 : Option Addr) (len1 cap1 : Nat) (z1 : List Int) (w : World) (w0 : (a0 = none ∧ len0 = 0 ∧ cap0 = 0 ∧ z0 = []) ∨ ∃ x, a0 = some x ∧ len0 ≤ cap0 ∧ cap0 ≤ maxLen ∧ z0.length = cap0 ∧ (∀ i, i < z0.length → w.cell? (x.add i) = some (.int .u8 (z0.getD i 0))) ∧ ∀ n ∈ z0, (Lit.int .u8 n).wf = true) (y0 : len0 * 1 ≤ 140737488351232) (w1 : (a1 = none ∧ len1 = 0 ∧ cap1 = 0 ∧ z1 = []) ∨ ∃ x, a1 = some x ∧ len1 ≤ cap1 ∧ cap1 ≤ maxLen ∧ z1.length = cap1 ∧ (∀ i, i < z1.length → w.cell? (x.add i) = some (.int .u8 (z1.getD i 0))) ∧ ∀ n ∈ z1, (Lit.int .u8 n).wf = true) (y1 : len1 * 1 ≤ 140737488351232) :
    Calls Try.prog 3 #[.slice a0 len0 cap0, .slice a1 len1 cap1] w fun e w' => e = .returned (.bool true) ∧ Below w.heap.size w w' := by
  obtain ⟨l0, rfl, hr0, hm0, hw0, hc0⟩ := ReadsInt.ofRowC w0
  obtain ⟨l1, rfl, hr1, hm1, hw1, hc1⟩ := ReadsInt.ofRowC w1
  obtain ⟨k, h⟩ := P l0 l1 hm0 y0 hw0 hm1 y1 hw1
  refine (laws_FnRecurrentSand.calls k _ _ l0 _ _ l1 true w (Kd.C_of_reads (d := (0 : Int)) (h1 := fun _ => rfl) hr0) hc0 (Kd.C_of_reads (d := (0 : Int)) (h1 := fun _ => rfl) hr1) hc1 h).mono ?_
  rintro e w' ⟨rfl, hd⟩
  exact ⟨rfl, hd⟩
end Go.Proofs.Ytbncolgpgabjcaa.G
namespace Go.Proofs.Ytbncolgpgabjcaa.G
open Go.RowKit Go.Proofs.YtbncolgpgabjcaaW.PrintWords Go.Proofs.YtbncolgpgabjcaaW.PrintLast Go.Proofs.YtbncolgpgabjcaaW.PrintMore
set_option linter.unusedVariables false
set_option linter.unusedSimpArgs false
theorem wrap_id {x : Int} (h1 : -9223372036854775808 ≤ x) (h2 : x ≤ 9223372036854775807) : wrap64 x = x := by unfold wrap64; omega
theorem wrap_next {i n : Nat} (h : i < n) (hn : n ≤ 4611686018427387904) : wrap64 ((i : Int) + 1) = ((i + 1 : Nat) : Int) := by rw [wrap_id (by omega) (by omega)]; rfl
theorem succ_of {d k : Nat} (h : d < k) : ∃ m, k = m + 1 := ⟨k - 1, by omega⟩
theorem rd_nat (l : List Int) (i : Nat) : rd l (i : Int) = l.getD i 0 := by unfold rd; rw [Int.toNat_natCast]
theorem take_succ_getD {l : List Int} {i : Nat} (h : i < l.length) : l.take (i + 1) = l.take i ++ [l.getD i 0] := by
  rw [List.take_succ_eq_append_getElem h, List.getD_eq_getElem?_getD, List.getElem?_eq_getElem h]; rfl
theorem drop_getD {l : List Int} {i : Nat} (h : i < l.length) : l.drop i = l.getD i 0 :: l.drop (i + 1) := by
  rw [List.drop_eq_getElem_cons h, List.getD_eq_getElem?_getD, List.getElem?_eq_getElem h]; rfl
theorem Ev.of_all {α : Type} {g : Nat → Option α} {r : α} (K : Nat) (h : ∀ k, K < k → g k = some r) : Ev g r := ⟨K + 1, fun k hk => h k (by omega)⟩
/-- A loop that counts up: its state at each count, what is left behind the last one. -/
theorem Ev.up {σ ρ : Type} (n : Nat) (S : Nat → σ) (L : Nat → σ → Int → Option ρ) (r : ρ)
    (hstep : ∀ i, i < n → Ev (fun k => L k (S (i + 1)) ((i + 1 : Nat) : Int)) r → Ev (fun k => L k (S i) (i : Int)) r)
    (hend : Ev (fun k => L k (S n) (n : Int)) r) : ∀ m, m ≤ n → Ev (fun k => L k (S m) (m : Int)) r := by
  intro m hm
  have key : ∀ d m, m + d = n → Ev (fun k => L k (S m) (m : Int)) r := by
    intro d
    induction d with
    | zero => intro m hd; obtain rfl : m = n := by omega
              exact hend
    | succ d ih => intro m hd; exact hstep m (by omega) (ih (m + 1) (by omega))
  exact key (n - m) m (by omega)
theorem Ev.up0 {σ ρ : Type} (n : Nat) (S : Nat → σ) (L : Nat → σ → Int → Option ρ) (r : ρ)
    (hstep : ∀ i, i < n → Ev (fun k => L k (S (i + 1)) ((i + 1 : Nat) : Int)) r → Ev (fun k => L k (S i) (i : Int)) r)
    (hend : Ev (fun k => L k (S n) (n : Int)) r) : Ev (fun k => L k (S 0) 0) r := Ev.up n S L r hstep hend 0 (Nat.zero_le _)
/-- A round that needs no rounds of others. -/
theorem Ev.one {α : Type} {g f : Nat → Option α} {r : α} (k : Ev f r) (h : ∀ k, g (k + 1) = f k) : Ev g r := Ev.step h k
theorem Ev.end_ {α : Type} {g : Nat → Option α} {r : α} (h : ∀ k, g (k + 1) = some r) : Ev g r := Ev.step h (Ev.now r)
/-- The first places of a list of known numbers. -/
theorem take_snoc {R : List Int} {i : Nat} (h : i < R.length) {x : Int} (hx : R.getD i 0 = x) : R.take i ++ [x] = R.take (i + 1) := by rw [take_succ_getD h, hx]
/-- Places that were written one by one: what is new, and what is still old. -/
def mixed (R o : List Int) (i : Nat) : List Int := R.take i ++ o.drop i
theorem mixed_zero (R o : List Int) : mixed R o 0 = o := by simp [mixed]
theorem mixed_full {R o : List Int} (h : R.length = o.length) : mixed R o o.length = R := by simp [mixed, ← h]
theorem length_mixed {R o : List Int} (h : R.length = o.length) (i : Nat) : (mixed R o i).length = o.length := by simp [mixed]; omega
theorem getD_mixed {R o : List Int} (h : R.length = o.length) {i : Nat} (hi : i < o.length) : (mixed R o i).getD i 0 = o.getD i 0 := by
  unfold mixed
  rw [List.getD_eq_getElem?_getD, List.getElem?_append_right (by simp; omega), List.length_take, Nat.min_eq_left (by omega), Nat.sub_self, List.getElem?_drop, List.getD_eq_getElem?_getD]; rfl
theorem set_mixed {R o : List Int} (h : R.length = o.length) {i : Nat} (hi : i < o.length) {x : Int} (hx : R.getD i 0 = x) : (mixed R o i).set i x = mixed R o (i + 1) := by
  unfold mixed
  rw [List.set_append_right _ _ (by simp; omega), List.length_take, Nat.min_eq_left (by omega), Nat.sub_self, drop_getD hi, List.set_cons_zero, take_succ_getD (l := R) (i := i) (by omega), hx]
  simp
theorem l1In_eq (a b c : Int) : spec_l1In.f a b c = some (decide (b ≤ a ∧ a ≤ c)) := by
  unfold spec_l1In.f
  split
  · rename_i h; congr 1; rw [Bool.eq_iff_iff]; simp; omega
  · rename_i h; congr 1; rw [Bool.eq_iff_iff]; simp; omega
theorem l1All_l0 (l : List Int) (lo hi : Int) (hn : l.length ≤ 4611686018427387904) : ∀ (d k i : Nat), i + d = l.length → d < k → spec_l1All.l0 k lo hi l (l.length : Int) i = some ((l.drop i).all fun x => decide (lo ≤ x ∧ x ≤ hi)) := by
  intro d
  induction d with
  | zero =>
    intro k i hd hk
    obtain ⟨k, rfl⟩ := succ_of hk
    rw [spec_l1All.l0, if_neg (by omega), List.drop_of_length_le (by omega)]; rfl
  | succ d ih =>
    intro k i hd hk
    obtain ⟨k, rfl⟩ := succ_of hk
    rw [spec_l1All.l0, if_pos (by omega), if_pos (by omega), if_pos (by omega), l1In_eq, Option.bind_some, rd_nat, wrap_next (n := l.length) (by omega) hn, ih k (i + 1) (by omega) (by omega), drop_getD (l := l) (i := i) (by omega), List.all_cons]
    split
    · rename_i h; rw [h, Bool.true_and]
    · rename_i h; rw [Bool.not_eq_true] at h; rw [h, Bool.false_and]
theorem l1All_ev (l : List Int) (lo hi : Int) (hn : l.length ≤ 4611686018427387904) : Ev (fun k => spec_l1All.f k l lo hi) (l.all fun x => decide (lo ≤ x ∧ x ≤ hi)) := by
  refine Ev.of_all l.length fun k hk => ?_
  have := l1All_l0 l lo hi hn l.length k 0 (by omega) hk
  simpa [spec_l1All.f] using this
end Go.Proofs.Ytbncolgpgabjcaa.G
namespace SandT
theorem length_le_of_count_le : ∀ (l1 l2 : List Nat), (∀ a, l1.count a ≤ l2.count a) → l1.length ≤ l2.length
  | [], _, _ => by simp
  | a :: l1, l2, h => by
    have h1 : 0 < l2.count a := by have := h a; simp at this; omega
    have hm : a ∈ l2 := List.count_pos_iff.1 h1
    have := length_le_of_count_le l1 (l2.erase a) (fun b => by
      have hb := h b
      rw [List.count_cons] at hb
      rw [List.count_erase]
      by_cases e : a = b
      · subst e; simp at hb ⊢; omega
      · have e1 : (a == b) = false := by simpa using e
        simp [e1] at hb ⊢; omega)
    rw [List.length_erase_of_mem hm] at this
    have hp := List.length_pos_of_mem hm
    simp only [List.length_cons]
    omega
/-- Node i topples. -/
def topl (c : List Int) (i : Nat) : List Int := (c.map (· + 1)).set i (c.getD i 0 - c.length)
@[simp] theorem length_topl (c : List Int) (i : Nat) : (topl c i).length = c.length := by simp [topl]
theorem get_topl (c : List Int) (i j : Nat) (hj : j < c.length) : (topl c i).getD j 0 = if j = i then c.getD j 0 - c.length else c.getD j 0 + 1 := by
  unfold topl
  simp only [List.getD_eq_getElem?_getD, List.getElem?_set, List.getElem?_map, List.length_map]
  by_cases e : i = j
  · subst e; simp [hj]
  · simp only [e, if_false, Ne.symm e]
    rw [List.getElem?_eq_getElem hj]; simp
def run : List Int → List Nat → List Int
  | c, [] => c
  | c, i :: s => run (topl c i) s
@[simp] theorem length_run : ∀ (s : List Nat) (c : List Int), (run c s).length = c.length
  | [], _ => rfl
  | i :: s, c => by simp [run, length_run s]
theorem run_append : ∀ (s t : List Nat) (c : List Int), run c (s ++ t) = run (run c s) t
  | [], _, _ => rfl
  | i :: s, t, c => by simp [run, run_append s t]
theorem get_run : ∀ (s : List Nat) (c : List Int) (j : Nat), j < c.length → (run c s).getD j 0 = c.getD j 0 + s.length - (c.length + 1) * (s.count j : Int)
  | [], c, j, hj => by simp [run]
  | i :: s, c, j, hj => by
    rw [run, get_run s (topl c i) j (by simpa using hj), get_topl c i j hj, length_topl, List.count_cons, List.length_cons]
    by_cases e : j = i
    · subst e
      simp only [if_true, beq_self_eq_true]
      push_cast
      rw [Int.mul_add]
      omega
    · have e1 : (i == j) = false := by simpa using (Ne.symm e)
      simp only [e, if_false, e1, Bool.false_eq_true]
      push_cast
      simp
      omega
/-- Each toppling is of a node that may topple. -/
def Legal : List Int → List Nat → Prop
  | _, [] => True
  | c, i :: s => i < c.length ∧ (c.length : Int) ≤ c.getD i 0 ∧ Legal (topl c i) s
theorem legal_append : ∀ (s t : List Nat) (c : List Int), Legal c (s ++ t) ↔ Legal c s ∧ Legal (run c s) t
  | [], _, _ => by simp [Legal, run]
  | i :: s, t, c => by simp [Legal, run, legal_append s t, and_assoc]
def Stable (c : List Int) : Prop := ∀ j, j < c.length → c.getD j 0 < c.length
theorem legal_lt : ∀ (s : List Nat) (c : List Int), Legal c s → ∀ i ∈ s, i < c.length
  | [], _, _, i, h => by simp at h
  | k :: s, c, h, i, hi => by
    rcases List.mem_cons.1 hi with rfl | hi
    · exact h.1
    · simpa using legal_lt s _ h.2.2 i hi
/-- What is legal topples no node more often than what leads to stable sand. -/
theorem least (c : List Int) (t : List Nat) (ht : Stable (run c t)) : ∀ (s : List Nat), Legal c s → ∀ j, s.count j ≤ t.count j := by
  have key : ∀ (r s : List Nat), s = r.reverse → Legal c s → ∀ j, s.count j ≤ t.count j := by
    intro r
    induction r with
    | nil => intro s hs _ j; subst hs; simp
    | cons i r ih =>
      intro s hs hl j
      have hs' : s = r.reverse ++ [i] := by simpa using hs
      subst hs'
      rw [legal_append] at hl
      have h1 := ih r.reverse rfl hl.1
      rw [List.count_append]
      by_cases e : j = i
      · subst e
        have hlen := length_le_of_count_le _ _ h1
        have hj : j < c.length := by have := hl.2.1; simpa using this
        have hv := hl.2.2.1
        rw [length_run, get_run _ _ _ hj] at hv
        have hst := ht j (by simpa using hj)
        rw [length_run, get_run _ _ _ hj] at hst
        have h1j := h1 j
        simp only [List.count_cons_self, List.count_nil]
        rcases Nat.lt_or_ge (r.reverse.count j) (t.count j) with hlt | hge
        · omega
        · have heq : r.reverse.count j = t.count j := by omega
          rw [heq] at hv
          have : (r.reverse.length : Int) ≤ t.length := by omega
          omega
      · have e1 : (i == j) = false := by simpa using (Ne.symm e)
        have : [i].count j = 0 := by simp [List.count_cons, e1]
        have := h1 j
        omega
  intro s
  exact key s.reverse s (by simp)
theorem ext_getD {a b : List Int} (hl : a.length = b.length) (h : ∀ j, j < a.length → a.getD j 0 = b.getD j 0) : a = b := by
  apply List.ext_getElem hl
  intro i h1 h2
  have := h i h1
  rw [List.getD_eq_getElem?_getD, List.getD_eq_getElem?_getD, List.getElem?_eq_getElem h1, List.getElem?_eq_getElem h2] at this
  simpa using this
/-- Toppling ends alike in any order, each node as often. -/
theorem abelian {c : List Int} {s t : List Nat} (hs : Legal c s) (ht : Legal c t) (hs' : Stable (run c s)) (ht' : Stable (run c t)) : (∀ j, s.count j = t.count j) ∧ s.length = t.length ∧ run c s = run c t := by
  have h1 : ∀ j, s.count j = t.count j := fun j => Nat.le_antisymm (least c t ht' s hs j) (least c s hs' t ht j)
  have h2 : s.length = t.length := Nat.le_antisymm (length_le_of_count_le _ _ fun a => Nat.le_of_eq (h1 a)) (length_le_of_count_le _ _ fun a => Nat.le_of_eq (h1 a).symm)
  refine ⟨h1, h2, ext_getD (by simp) fun j hj => ?_⟩
  have hj' : j < c.length := by simpa using hj
  rw [get_run _ _ _ hj', get_run _ _ _ hj', h1 j, h2]
/-- The sum of two lists as long as the first one. -/
def plus (a b : List Int) : List Int := a.mapIdx fun i x => x + b.getD i 0
@[simp] theorem length_plus (a b : List Int) : (plus a b).length = a.length := by simp [plus]
theorem get_plus (a b : List Int) (j : Nat) (hj : j < a.length) : (plus a b).getD j 0 = a.getD j 0 + b.getD j 0 := by
  simp [plus, List.getD_eq_getElem?_getD, List.getElem?_mapIdx, List.getElem?_eq_getElem hj]
theorem plus_topl (a b : List Int) (i : Nat) : plus (topl a i) b = topl (plus a b) i := by
  apply ext_getD (by simp)
  intro j hj
  have hj' : j < a.length := by simpa using hj
  rw [get_plus _ _ _ (by simpa using hj'), get_topl _ _ _ hj', get_topl _ _ _ (by simpa using hj'), get_plus _ _ _ hj', length_plus]
  split <;> omega
theorem plus_run : ∀ (s : List Nat) (a b : List Int), plus (run a s) b = run (plus a b) s
  | [], _, _ => rfl
  | i :: s, a, b => by rw [run, run, plus_run s, plus_topl]
theorem legal_plus (b : List Int) (hb : ∀ j, 0 ≤ b.getD j 0) : ∀ (s : List Nat) (a : List Int), Legal a s → Legal (plus a b) s
  | [], _, _ => trivial
  | i :: s, a, h => by
    refine ⟨by simpa using h.1, ?_, ?_⟩
    · rw [length_plus, get_plus _ _ _ h.1]; have := hb i; have := h.2.1; omega
    · rw [← plus_topl]; exact legal_plus b hb s _ h.2.2
def first (c : List Int) : Option Nat := c.findIdx? fun x => decide ((c.length : Int) ≤ x)
theorem first_some {c : List Int} {i : Nat} (h : first c = some i) : i < c.length ∧ (c.length : Int) ≤ c.getD i 0 := by
  unfold first at h
  rw [List.findIdx?_eq_some_iff_getElem] at h
  obtain ⟨h1, h2, _⟩ := h
  refine ⟨h1, ?_⟩
  rw [List.getD_eq_getElem?_getD, List.getElem?_eq_getElem h1]
  simpa using h2
theorem first_none {c : List Int} (h : first c = none) : Stable c := by
  unfold first at h
  rw [List.findIdx?_eq_none_iff] at h
  intro j hj
  have := h c[j] (List.getElem_mem hj)
  rw [List.getD_eq_getElem?_getD, List.getElem?_eq_getElem hj]
  simpa using this
theorem first_of_stable {c : List Int} (h : Stable c) : first c = none := by
  cases e : first c with
  | none => rfl
  | some i => have := first_some e; have := h i this.1; omega
def settle : Nat → List Int → List Int × List Nat
  | 0, c => (c, [])
  | k + 1, c => match first c with
    | none => (c, [])
    | some i => ((settle k (topl c i)).1, i :: (settle k (topl c i)).2)
theorem settle_run : ∀ (k : Nat) (c : List Int), (settle k c).1 = run c (settle k c).2 ∧ Legal c (settle k c).2
  | 0, c => ⟨rfl, trivial⟩
  | k + 1, c => by
    unfold settle
    cases e : first c with
    | none => exact ⟨rfl, trivial⟩
    | some i => obtain ⟨h1, h2⟩ := settle_run k (topl c i); exact ⟨h1, (first_some e).1, (first_some e).2, h2⟩
theorem sum_map_one : ∀ (c : List Int), (c.map (· + 1)).sum = c.sum + c.length
  | [] => rfl
  | x :: c => by simp only [List.map_cons, List.sum_cons, sum_map_one c, List.length_cons]; push_cast; omega
theorem sum_set : ∀ (c : List Int) (i : Nat) (x : Int), i < c.length → (c.set i x).sum = c.sum - c.getD i 0 + x
  | [], i, x, h => by simp at h
  | y :: c, 0, x, h => by simp; omega
  | y :: c, i + 1, x, h => by simp only [List.set_cons_succ, List.sum_cons, sum_set c i x (by simpa using h), List.getD_cons_succ]; omega
theorem sum_topl (c : List Int) (i : Nat) (h : i < c.length) : (topl c i).sum = c.sum - 1 := by
  unfold topl
  rw [sum_set _ _ _ (by simpa using h), sum_map_one]
  rw [List.getD_eq_getElem?_getD, List.getD_eq_getElem?_getD, List.getElem?_map, List.getElem?_eq_getElem h]
  simp; omega
def Nonneg (c : List Int) : Prop := ∀ j, 0 ≤ c.getD j 0
theorem nn_topl {c : List Int} (h : Nonneg c) {i : Nat} (hi : (c.length : Int) ≤ c.getD i 0) : Nonneg (topl c i) := by
  intro j
  by_cases hj : j < c.length
  · rw [get_topl _ _ _ hj]; have := h j; split
    · subst_vars; omega
    · omega
  · rw [List.getD_eq_getElem?_getD, List.getElem?_eq_none (by simpa using hj)]; simp
theorem nn_sum : ∀ {c : List Int}, Nonneg c → 0 ≤ c.sum
  | [], _ => by simp
  | x :: c, h => by
    have h0 := h 0
    have := nn_sum (c := c) (fun j => by simpa using h (j + 1))
    simp at h0 ⊢; omega
theorem settle_stable : ∀ (k : Nat) (c : List Int), Nonneg c → c.sum < k → Stable (settle k c).1
  | 0, c, h, hk => by have := nn_sum h; omega
  | k + 1, c, h, hk => by
    unfold settle
    cases e : first c with
    | none => exact first_none e
    | some i =>
      have hi := first_some e
      exact settle_stable k _ (nn_topl h hi.2) (by rw [sum_topl _ _ hi.1]; omega)
/-- The stable sand, and the nodes in order. -/
def stab (c : List Int) : List Int × List Nat := settle (c.sum.toNat + 1) c
theorem stab_run (c : List Int) : (stab c).1 = run c (stab c).2 := (settle_run _ c).1
theorem stab_legal (c : List Int) : Legal c (stab c).2 := (settle_run _ c).2
theorem stab_stable {c : List Int} (h : Nonneg c) : Stable (stab c).1 := settle_stable _ c h (by have := nn_sum h; omega)
theorem settle_eq : ∀ (k k' : Nat) (c : List Int), Nonneg c → c.sum < k → c.sum < k' → settle k c = settle k' c
  | 0, _, c, h, hk, _ => by have := nn_sum h; omega
  | _, 0, c, h, _, hk => by have := nn_sum h; omega
  | k + 1, k' + 1, c, h, hk, hk' => by
    unfold settle
    cases e : first c with
    | none => rfl
    | some i =>
      have hi := first_some e
      have hs := sum_topl _ _ hi.1
      have := settle_eq k k' (topl c i) (nn_topl h hi.2) (by omega) (by omega)
      simp only [this]
theorem stab_step {c : List Int} (h : Nonneg c) {i : Nat} (e : first c = some i) : stab c = ((stab (topl c i)).1, i :: (stab (topl c i)).2) := by
  have hi := first_some e
  have hs := sum_topl _ _ hi.1
  have h0 := nn_sum h
  have h1 := nn_sum (nn_topl h hi.2)
  unfold stab
  rw [settle, e]
  simp only
  rw [settle_eq c.sum.toNat ((topl c i).sum.toNat + 1) (topl c i) (nn_topl h hi.2) (by omega) (by omega)]
theorem stab_end {c : List Int} (e : first c = none) : stab c = (c, []) := by unfold stab; rw [settle, e]
/-- What is stable and comes of c by legal topplings is what c settles in. -/
theorem stab_unique {c : List Int} (h : Nonneg c) {s : List Nat} (hl : Legal c s) (hs : Stable (run c s)) : (stab c).1 = run c s ∧ (stab c).2.length = s.length ∧ ∀ j, (stab c).2.count j = s.count j := by
  have hst := stab_stable h
  rw [stab_run] at hst ⊢
  obtain ⟨h1, h2, h3⟩ := abelian (stab_legal c) hl hst hs
  exact ⟨h3, h2, h1⟩
theorem stab_fix {c : List Int} (h : Stable c) : (stab c).1 = c := by rw [stab_end (first_of_stable h)]
theorem nn_run : ∀ {s : List Nat} {c : List Int}, Nonneg c → Legal c s → Nonneg (run c s)
  | [], _, h, _ => h
  | i :: s, c, h, hl => by
    rw [run]
    exact nn_run (nn_topl h hl.2.1) hl.2.2
theorem nn_plus {a b : List Int} (ha : Nonneg a) (hb : Nonneg b) : Nonneg (plus a b) := by
  intro j
  by_cases hj : j < a.length
  · rw [get_plus _ _ _ hj]; have := ha j; have := hb j; omega
  · rw [List.getD_eq_getElem?_getD, List.getElem?_eq_none (by simpa using hj)]; simp
@[simp] theorem length_stab (c : List Int) : (stab c).1.length = c.length := by rw [stab_run]; simp
/-- Legal topplings first: it settles alike. -/
theorem stab_of_run {c : List Int} (h : Nonneg c) {s : List Nat} (hl : Legal c s) : (stab c).1 = (stab (run c s)).1 := by
  have hn := nn_run h hl
  have := stab_unique h (s := s ++ (stab (run c s)).2) ((legal_append _ _ _).2 ⟨hl, stab_legal _⟩) (by rw [run_append, ← stab_run]; exact stab_stable hn)
  rw [this.1, run_append, ← stab_run]
/-- Settling in between changes nothing. -/
theorem stab_plus {a b : List Int} (ha : Nonneg a) (hb : Nonneg b) : (stab (plus (stab a).1 b)).1 = (stab (plus a b)).1 := by
  rw [stab_run a, plus_run]
  exact (stab_of_run (nn_plus ha hb) (legal_plus b hb _ _ (stab_legal a))).symm
def ones (n : Nat) : List Int := List.replicate n 1
theorem get_ones (n j : Nat) (h : j < n) : (ones n).getD j 0 = 1 := by
  simp [ones, List.getD_eq_getElem?_getD, h]
theorem nn_ones (n : Nat) : Nonneg (ones n) := by
  intro j
  unfold ones
  rw [List.getD_eq_getElem?_getD, List.getElem?_replicate]
  split <;> simp
/-- One grain more on each node. -/
def more (c : List Int) : List Int := plus c (ones c.length)
@[simp] theorem length_more (c : List Int) : (more c).length = c.length := by simp [more]
theorem get_more (c : List Int) (j : Nat) (h : j < c.length) : (more c).getD j 0 = c.getD j 0 + 1 := by rw [more, get_plus _ _ _ h, get_ones _ _ h]
theorem nn_more {c : List Int} (h : Nonneg c) : Nonneg (more c) := nn_plus h (nn_ones _)
theorem count_range (n j : Nat) : (List.range n).count j = if j < n then 1 else 0 := by
  rw [List.Nodup.count List.nodup_range]; simp
theorem run_range {c : List Int} : run (more c) (List.range c.length) = c := by
  apply ext_getD (by simp)
  intro j hj
  have hj' : j < c.length := by simpa using hj
  rw [get_run _ _ _ (by simpa using hj'), get_more _ _ hj', count_range, if_pos hj', length_more, List.length_range]
  push_cast
  omega
/-- No node topples twice. -/
theorem more_once {c : List Int} (hs : Stable c) (j : Nat) : (stab (more c)).2.count j ≤ 1 := by
  have := least (more c) (List.range c.length) (by rw [run_range]; exact hs) _ (stab_legal (more c)) j
  rw [count_range] at this
  split at this <;> omega
theorem sum_count (n : Nat) : ∀ (s : List Nat), (∀ i ∈ s, i < n) → s.length = ((List.range n).map fun j => s.count j).sum
  | [], _ => by
    simp only [List.count_nil, List.length_nil]
    induction n with
    | zero => rfl
    | succ n ih => rw [List.range_succ, List.map_append, List.sum_append, ← ih (fun i hi => by simp at hi)]; simp
  | i :: s, h => by
    have ih := sum_count n s (fun k hk => h k (by simp [hk]))
    have hi := h i (by simp)
    rw [List.length_cons, ih]
    clear ih
    have key : ∀ m, ((List.range m).map fun j => (i :: s).count j).sum = ((List.range m).map fun j => s.count j).sum + if i < m then 1 else 0 := by
      intro m
      induction m with
      | zero => simp
      | succ m ih =>
        rw [List.range_succ, List.map_append, List.map_append, List.sum_append, List.sum_append, ih]
        simp only [List.map_cons, List.map_nil, List.sum_cons, List.sum_nil, List.count_cons]
        by_cases e : i = m
        · subst e; simp; omega
        · have e1 : (i == m) = false := by simpa using e
          rw [e1]
          by_cases h1 : i < m
          · have h2 : i < m + 1 := by omega
            simp only [h1, h2, if_true, Bool.false_eq_true, if_false]; omega
          · have h2 : ¬ i < m + 1 := by omega
            simp only [h1, h2, Bool.false_eq_true, if_false]; omega
    rw [key n, if_pos hi]
/-- All that comes back has toppled just once. -/
theorem back_once {c : List Int} (h : (stab (more c)).1 = c) : (∀ j, j < c.length → (stab (more c)).2.count j = 1) ∧ (stab (more c)).2.length = c.length := by
  have hr := stab_run (more c)
  rw [h] at hr
  have hv : ∀ j, j < c.length → (c.length + 1) * ((stab (more c)).2.count j : Int) = 1 + (stab (more c)).2.length := by
    intro j hj
    have := get_run (stab (more c)).2 (more c) j (by simpa using hj)
    rw [← hr, get_more _ _ hj, length_more] at this
    omega
  have hsum := sum_count c.length (stab (more c)).2 (fun i hi => by have := legal_lt _ _ (stab_legal (more c)) i hi; simpa using this)
  rcases Nat.eq_zero_or_pos c.length with h0 | h0
  · refine ⟨fun j hj => by omega, ?_⟩
    rw [hsum, h0]; rfl
  · obtain ⟨m, hm⟩ : ∃ m, m = (stab (more c)).2.count 0 := ⟨_, rfl⟩
    have e0 := hv 0 h0
    rw [← hm] at e0
    have all : ∀ j, j < c.length → (stab (more c)).2.count j = m := by
      intro j hj
      have ej := hv j hj
      have : ((c.length : Int) + 1) * ((stab (more c)).2.count j : Int) = (c.length + 1) * (m : Int) := by omega
      have := Int.eq_of_mul_eq_mul_left (by omega) this
      omega
    have hlen : (stab (more c)).2.length = c.length * m := by
      rw [hsum]
      have : ∀ k, k ≤ c.length → ((List.range k).map fun j => (stab (more c)).2.count j).sum = k * m := by
        intro k
        induction k with
        | zero => intro _; simp
        | succ k ih => intro hk; rw [List.range_succ, List.map_append, List.sum_append, ih (by omega)]; simp [all k (by omega), Nat.add_mul]
      exact this _ (Nat.le_refl _)
    rw [hlen] at e0
    push_cast at e0
    rw [Int.add_mul] at e0
    have : m = 1 := by omega
    subst this
    exact ⟨all, by rw [hlen]; omega⟩
def Rec (c : List Int) : Prop := Stable c ∧ (stab (more c)).1 = c
def less (m : Int) (c : List Int) : Nat := (c.filter fun x => decide (x < m)).length
/-- Counting nodes by their places. -/
theorem less_places (m : Int) : ∀ (c : List Int), less m c = ((List.range c.length).filter fun j => decide (c.getD j 0 < m)).length
  | [] => rfl
  | x :: c => by
    have ih := less_places m c
    rw [List.length_cons, List.range_succ_eq_map, List.filter_cons, List.filter_map, less, List.filter_cons]
    have e : ((fun j => decide ((x :: c).getD j 0 < m)) ∘ Nat.succ) = fun j => decide (c.getD j 0 < m) := by funext j; simp
    rw [e]
    simp only [List.getD_cons_zero]
    unfold less at ih
    split
    · simp [ih]
    · simp [ih]
theorem length_filter_not {α : Type} (l : List α) (p : α → Bool) : (l.filter p).length + (l.filter fun x => !p x).length = l.length := by
  induction l with
  | nil => rfl
  | cons x l ih =>
    simp only [List.filter_cons, List.length_cons]
    cases p x <;> simp <;> omega
theorem nodup_count_one {l : List Nat} (h : ∀ j, l.count j ≤ 1) : l.Nodup := by
  rw [List.nodup_iff_count]; exact h
end SandT
