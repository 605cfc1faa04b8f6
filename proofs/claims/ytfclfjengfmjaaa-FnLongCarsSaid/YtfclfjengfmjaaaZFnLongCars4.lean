/- The law FnLongCars: part 4 of the printed functions and the facts on them that its row leans on (merged by this session's slim.py). -/
import Derived.Test.YtfclfjengfmjaaaZFnLongCars3
namespace Go.Proofs.Ytfclfjengfmjaaa.G
open Go.RowKit Go.Proofs.YtfclfjengfmjaaaW.PrintWords Go.Proofs.YtfclfjengfmjaaaW.PrintLast Go.Proofs.YtfclfjengfmjaaaW.PrintMore
attribute [local go_sem] max2_int min2_int max_two min_two max_three min_three max_four min_four   -- for this text's walks alone
set_option linter.unusedVariables false
set_option linter.unusedSimpArgs false
/-! ### laws_FnLongCars: function 9 -/
mutual
def laws_FnLongCars.j0 : Nat → List Int → List Int → List Int → List Int → Bool → Bool → Option (Bool)
  | 0, _, _, _, _, _, _ => none
  | k + 1, x1, x5, x6, x7, x8, x119 => if x119 = true then (some false) else (if x8 = true then ((laws_jSum.f k x6).bind fun t796 => (if 0 ≤ t796 then (if (t796 : Int).toNat ≤ 281474976710656 then (laws_FnLongCars.l0 k x1 x5 x6 x7 t796 (List.replicate (t796 : Int).toNat false) true x7 (x7.length : Int) 0) else (none)) else (none))) else (laws_FnLongCars.j4 k x1))
def laws_FnLongCars.j4 : Nat → List Int → Option (Bool)
  | 0, _ => none
  | k + 1, x1 => (spec_DrawStretchList.f k x1).bind fun bt811 => ((impl_StretchList.f k bt811.1 bt811.2).bind fun bt817 => ((spec_StretchList.f k bt811.1 bt811.2).bind fun bt821 => (if (bt817.2 == bt821.2) = true then ((laws_jSame.f k bt817.1 bt821.1).bind fun t825 => (some t825)) else (some false))))
def laws_FnLongCars.l0 : Nat → List Int → List Int → List Int → List Int → Int → List Bool → Bool → List Int → Int → Int → Option (Bool)
  | 0, _, _, _, _, _, _, _, _, _, _ => none
  | k + 1, x1, x5, x6, x7, x19, x20, x21, x125, x126, x127 => if x127 < x126 then (if 0 ≤ x127 then (if x127 < (x125.length : Int) then (if x21 = true then (if x127 < (x6.length : Int) then (laws_FnLongCars.j2 k x1 x5 x6 x7 x19 x20 ((rd x6 x127) == 1) x127 (rd x125 x127) x125 x126 x127) else (none)) else (laws_FnLongCars.j2 k x1 x5 x6 x7 x19 x20 false x127 (rd x125 x127) x125 x126 x127)) else (none)) else (none)) else (if x21 = true then ((impl_DriveCars.f k x5 x19).bind fun bt806 => (if bt806.2 = true then ((laws_jSame.f k bt806.1 x7).bind fun t810 => (if t810 = true then (laws_FnLongCars.j4 k x1) else (some false))) else (some false))) else (laws_FnLongCars.j4 k x1))
def laws_FnLongCars.j2 : Nat → List Int → List Int → List Int → List Int → Int → List Bool → Bool → Int → Int → List Int → Int → Int → Option (Bool)
  | 0, _, _, _, _, _, _, _, _, _, _, _, _ => none
  | k + 1, x1, x5, x6, x7, x19, x20, x21, x22, x23, x125, x126, x127 => laws_FnLongCars.l1 k x1 x5 x6 x7 x19 x20 x21 x22 x23 x23 x125 x126 x127
def laws_FnLongCars.l1 : Nat → List Int → List Int → List Int → List Int → Int → List Bool → Bool → Int → Int → Int → List Int → Int → Int → Option (Bool)
  | 0, _, _, _, _, _, _, _, _, _, _, _, _, _ => none
  | k + 1, x1, x5, x6, x7, x19, x20, x21, x22, x23, x24, x125, x126, x127 => if 0 ≤ x22 then (if x22 < (x6.length : Int) then (if x24 < (wrap64 (x23 + (rd x6 x22))) then (if 0 ≤ x24 then (if x24 < (x20.length : Int) then (if rdOf false x20 x24 = true then (some false) else (laws_FnLongCars.l1 k x1 x5 x6 x7 x19 (x20.set (x24 : Int).toNat true) x21 x22 x23 (wrap64 (x24 + 1)) x125 x126 x127)) else (none)) else (none)) else (if x22 < (x5.length : Int) then (if x23 < (rd x5 x22) then (some false) else (laws_FnLongCars.l0 k x1 x5 x6 x7 x19 x20 x21 x125 x126 (wrap64 (x127 + 1)))) else (none))) else (none)) else (none)
end
def laws_FnLongCars.f (k : Nat) (l0 : List Int) (l1 : List Int) : Option (Bool) := (laws_big.f l0 l1).bind fun t772 => (if t772 = true then (some true) else ((spec_DrawDriveLong.f k l0).bind fun bt773 => ((impl_DriveLong.f k bt773.1 bt773.2).bind fun bt779 => ((spec_DriveLong.f k bt773.1 bt773.2).bind fun bt783 => ((impl_IsLongParking.f k bt773.1 bt773.2).bind fun bt787 => ((spec_IsLongParking.f k bt773.1 bt773.2).bind fun bt789 => ((impl_BlockedCar.f k bt773.1 bt773.2).bind fun bt791 => ((spec_BlockedCar.f k bt773.1 bt773.2).bind fun bt793 => (if (bt779.2 != bt783.2) = true then (laws_FnLongCars.j0 k l1 bt773.1 bt773.2 bt779.1 bt779.2 true) else ((laws_jSame.f k bt779.1 bt783.1).bind fun t795 => (if t795 = true then (if (bt787.2 != bt789.2) = true then (laws_FnLongCars.j0 k l1 bt773.1 bt773.2 bt779.1 bt779.2 true) else (if (bt787.1 != bt789.1) = true then (laws_FnLongCars.j0 k l1 bt773.1 bt773.2 bt779.1 bt779.2 true) else (if (bt791.2 != bt793.2) = true then (laws_FnLongCars.j0 k l1 bt773.1 bt773.2 bt779.1 bt779.2 true) else (if bt791.1 = bt793.1 then (if (bt779.2 != bt787.1) = true then (laws_FnLongCars.j0 k l1 bt773.1 bt773.2 bt779.1 bt779.2 true) else (if bt787.2 = true then (laws_FnLongCars.j0 k l1 bt773.1 bt773.2 bt779.1 bt779.2 (bt791.2 != (!bt787.1))) else (laws_FnLongCars.j0 k l1 bt773.1 bt773.2 bt779.1 bt779.2 (bt791.2 != false)))) else (laws_FnLongCars.j0 k l1 bt773.1 bt773.2 bt779.1 bt779.2 true))))) else (laws_FnLongCars.j0 k l1 bt773.1 bt773.2 bt779.1 bt779.2 true))))))))))))
theorem laws_FnLongCars.mono_l : ∀ k, (∀ y0 y1 y2 y3 y4 y5, LeO (laws_FnLongCars.j0 k y0 y1 y2 y3 y4 y5) (laws_FnLongCars.j0 (k + 1) y0 y1 y2 y3 y4 y5)) ∧ (∀ y0, LeO (laws_FnLongCars.j4 k y0) (laws_FnLongCars.j4 (k + 1) y0)) ∧ (∀ y0 y1 y2 y3 y4 y5 y6 y7 y8 y9, LeO (laws_FnLongCars.l0 k y0 y1 y2 y3 y4 y5 y6 y7 y8 y9) (laws_FnLongCars.l0 (k + 1) y0 y1 y2 y3 y4 y5 y6 y7 y8 y9)) ∧ (∀ y0 y1 y2 y3 y4 y5 y6 y7 y8 y9 y10 y11, LeO (laws_FnLongCars.j2 k y0 y1 y2 y3 y4 y5 y6 y7 y8 y9 y10 y11) (laws_FnLongCars.j2 (k + 1) y0 y1 y2 y3 y4 y5 y6 y7 y8 y9 y10 y11)) ∧ (∀ y0 y1 y2 y3 y4 y5 y6 y7 y8 y9 y10 y11 y12, LeO (laws_FnLongCars.l1 k y0 y1 y2 y3 y4 y5 y6 y7 y8 y9 y10 y11 y12) (laws_FnLongCars.l1 (k + 1) y0 y1 y2 y3 y4 y5 y6 y7 y8 y9 y10 y11 y12))
  | 0 => ⟨fun _ _ _ _ _ _ r h => by simp [laws_FnLongCars.j0] at h, fun _ r h => by simp [laws_FnLongCars.j4] at h, fun _ _ _ _ _ _ _ _ _ _ r h => by simp [laws_FnLongCars.l0] at h, fun _ _ _ _ _ _ _ _ _ _ _ _ r h => by simp [laws_FnLongCars.j2] at h, fun _ _ _ _ _ _ _ _ _ _ _ _ _ r h => by simp [laws_FnLongCars.l1] at h⟩
  | k + 1 => by
    obtain ⟨ih0, ih1, ih2, ih3, ih4⟩ := laws_FnLongCars.mono_l k
    refine ⟨?_, ?_, ?_, ?_, ?_⟩
    · intro y0 y1 y2 y3 y4 y5
      unfold laws_FnLongCars.j0
      repeat' first
      | (with_reducible exact ih0 _ _ _ _ _ _)
      | (with_reducible exact ih1 _)
      | (with_reducible exact ih2 _ _ _ _ _ _ _ _ _ _)
      | (with_reducible exact ih3 _ _ _ _ _ _ _ _ _ _ _ _)
      | (with_reducible exact ih4 _ _ _ _ _ _ _ _ _ _ _ _ _)
      | (with_reducible exact impl_BlockedCar.mono _ _ _)
      | (with_reducible exact impl_DriveCars.mono _ _ _)
      | (with_reducible exact impl_DriveLong.mono _ _ _)
      | (with_reducible exact impl_IsLongParking.mono _ _ _)
      | (with_reducible exact impl_StretchList.mono _ _ _)
      | (with_reducible exact laws_jSame.mono _ _ _)
      | (with_reducible exact laws_jSum.mono _ _)
      | (with_reducible exact spec_BlockedCar.mono _ _ _)
      | (with_reducible exact spec_DrawDriveLong.mono _ _)
      | (with_reducible exact spec_DrawStretchList.mono _ _)
      | (with_reducible exact spec_DriveLong.mono _ _ _)
      | (with_reducible exact spec_IsLongParking.mono _ _ _)
      | (with_reducible exact spec_StretchList.mono _ _ _)
      | (with_reducible exact LeO.refl _)
      | (with_reducible exact LeO.none _)
      | (with_reducible refine LeO.ite ?_ ?_)
      | (with_reducible refine LeO.bind ?_ (fun _ => ?_))
      | exact ih0 _ _ _ _ _ _
      | exact ih1 _
      | exact ih2 _ _ _ _ _ _ _ _ _ _
      | exact ih3 _ _ _ _ _ _ _ _ _ _ _ _
      | exact ih4 _ _ _ _ _ _ _ _ _ _ _ _ _
      | exact impl_BlockedCar.mono _ _ _
      | exact impl_DriveCars.mono _ _ _
      | exact impl_DriveLong.mono _ _ _
      | exact impl_IsLongParking.mono _ _ _
      | exact impl_StretchList.mono _ _ _
      | exact laws_jSame.mono _ _ _
      | exact laws_jSum.mono _ _
      | exact spec_BlockedCar.mono _ _ _
      | exact spec_DrawDriveLong.mono _ _
      | exact spec_DrawStretchList.mono _ _
      | exact spec_DriveLong.mono _ _ _
      | exact spec_IsLongParking.mono _ _ _
      | exact spec_StretchList.mono _ _ _
      | exact LeO.none _
      | refine LeO.ite ?_ ?_
      | refine LeO.bind ?_ (fun _ => ?_)
    · intro y0
      unfold laws_FnLongCars.j4
      repeat' first
      | (with_reducible exact ih0 _ _ _ _ _ _)
      | (with_reducible exact ih1 _)
      | (with_reducible exact ih2 _ _ _ _ _ _ _ _ _ _)
      | (with_reducible exact ih3 _ _ _ _ _ _ _ _ _ _ _ _)
      | (with_reducible exact ih4 _ _ _ _ _ _ _ _ _ _ _ _ _)
      | (with_reducible exact impl_BlockedCar.mono _ _ _)
      | (with_reducible exact impl_DriveCars.mono _ _ _)
      | (with_reducible exact impl_DriveLong.mono _ _ _)
      | (with_reducible exact impl_IsLongParking.mono _ _ _)
      | (with_reducible exact impl_StretchList.mono _ _ _)
      | (with_reducible exact laws_jSame.mono _ _ _)
      | (with_reducible exact laws_jSum.mono _ _)
      | (with_reducible exact spec_BlockedCar.mono _ _ _)
      | (with_reducible exact spec_DrawDriveLong.mono _ _)
      | (with_reducible exact spec_DrawStretchList.mono _ _)
      | (with_reducible exact spec_DriveLong.mono _ _ _)
      | (with_reducible exact spec_IsLongParking.mono _ _ _)
      | (with_reducible exact spec_StretchList.mono _ _ _)
      | (with_reducible exact LeO.refl _)
      | (with_reducible exact LeO.none _)
      | (with_reducible refine LeO.ite ?_ ?_)
      | (with_reducible refine LeO.bind ?_ (fun _ => ?_))
      | exact ih0 _ _ _ _ _ _
      | exact ih1 _
      | exact ih2 _ _ _ _ _ _ _ _ _ _
      | exact ih3 _ _ _ _ _ _ _ _ _ _ _ _
      | exact ih4 _ _ _ _ _ _ _ _ _ _ _ _ _
      | exact impl_BlockedCar.mono _ _ _
      | exact impl_DriveCars.mono _ _ _
      | exact impl_DriveLong.mono _ _ _
      | exact impl_IsLongParking.mono _ _ _
      | exact impl_StretchList.mono _ _ _
      | exact laws_jSame.mono _ _ _
      | exact laws_jSum.mono _ _
      | exact spec_BlockedCar.mono _ _ _
      | exact spec_DrawDriveLong.mono _ _
      | exact spec_DrawStretchList.mono _ _
      | exact spec_DriveLong.mono _ _ _
      | exact spec_IsLongParking.mono _ _ _
      | exact spec_StretchList.mono _ _ _
      | exact LeO.none _
      | refine LeO.ite ?_ ?_
      | refine LeO.bind ?_ (fun _ => ?_)
    · intro y0 y1 y2 y3 y4 y5 y6 y7 y8 y9
      unfold laws_FnLongCars.l0
      repeat' first
      | (with_reducible exact ih0 _ _ _ _ _ _)
      | (with_reducible exact ih1 _)
      | (with_reducible exact ih2 _ _ _ _ _ _ _ _ _ _)
      | (with_reducible exact ih3 _ _ _ _ _ _ _ _ _ _ _ _)
      | (with_reducible exact ih4 _ _ _ _ _ _ _ _ _ _ _ _ _)
      | (with_reducible exact impl_BlockedCar.mono _ _ _)
      | (with_reducible exact impl_DriveCars.mono _ _ _)
      | (with_reducible exact impl_DriveLong.mono _ _ _)
      | (with_reducible exact impl_IsLongParking.mono _ _ _)
      | (with_reducible exact impl_StretchList.mono _ _ _)
      | (with_reducible exact laws_jSame.mono _ _ _)
      | (with_reducible exact laws_jSum.mono _ _)
      | (with_reducible exact spec_BlockedCar.mono _ _ _)
      | (with_reducible exact spec_DrawDriveLong.mono _ _)
      | (with_reducible exact spec_DrawStretchList.mono _ _)
      | (with_reducible exact spec_DriveLong.mono _ _ _)
      | (with_reducible exact spec_IsLongParking.mono _ _ _)
      | (with_reducible exact spec_StretchList.mono _ _ _)
      | (with_reducible exact LeO.refl _)
      | (with_reducible exact LeO.none _)
      | (with_reducible refine LeO.ite ?_ ?_)
      | (with_reducible refine LeO.bind ?_ (fun _ => ?_))
      | exact ih0 _ _ _ _ _ _
      | exact ih1 _
      | exact ih2 _ _ _ _ _ _ _ _ _ _
      | exact ih3 _ _ _ _ _ _ _ _ _ _ _ _
      | exact ih4 _ _ _ _ _ _ _ _ _ _ _ _ _
      | exact impl_BlockedCar.mono _ _ _
      | exact impl_DriveCars.mono _ _ _
      | exact impl_DriveLong.mono _ _ _
      | exact impl_IsLongParking.mono _ _ _
      | exact impl_StretchList.mono _ _ _
      | exact laws_jSame.mono _ _ _
      | exact laws_jSum.mono _ _
      | exact spec_BlockedCar.mono _ _ _
      | exact spec_DrawDriveLong.mono _ _
      | exact spec_DrawStretchList.mono _ _
      | exact spec_DriveLong.mono _ _ _
      | exact spec_IsLongParking.mono _ _ _
      | exact spec_StretchList.mono _ _ _
      | exact LeO.none _
      | refine LeO.ite ?_ ?_
      | refine LeO.bind ?_ (fun _ => ?_)
    · intro y0 y1 y2 y3 y4 y5 y6 y7 y8 y9 y10 y11
      unfold laws_FnLongCars.j2
      repeat' first
      | (with_reducible exact ih0 _ _ _ _ _ _)
      | (with_reducible exact ih1 _)
      | (with_reducible exact ih2 _ _ _ _ _ _ _ _ _ _)
      | (with_reducible exact ih3 _ _ _ _ _ _ _ _ _ _ _ _)
      | (with_reducible exact ih4 _ _ _ _ _ _ _ _ _ _ _ _ _)
      | (with_reducible exact impl_BlockedCar.mono _ _ _)
      | (with_reducible exact impl_DriveCars.mono _ _ _)
      | (with_reducible exact impl_DriveLong.mono _ _ _)
      | (with_reducible exact impl_IsLongParking.mono _ _ _)
      | (with_reducible exact impl_StretchList.mono _ _ _)
      | (with_reducible exact laws_jSame.mono _ _ _)
      | (with_reducible exact laws_jSum.mono _ _)
      | (with_reducible exact spec_BlockedCar.mono _ _ _)
      | (with_reducible exact spec_DrawDriveLong.mono _ _)
      | (with_reducible exact spec_DrawStretchList.mono _ _)
      | (with_reducible exact spec_DriveLong.mono _ _ _)
      | (with_reducible exact spec_IsLongParking.mono _ _ _)
      | (with_reducible exact spec_StretchList.mono _ _ _)
      | (with_reducible exact LeO.refl _)
      | (with_reducible exact LeO.none _)
      | (with_reducible refine LeO.ite ?_ ?_)
      | (with_reducible refine LeO.bind ?_ (fun _ => ?_))
      | exact ih0 _ _ _ _ _ _
      | exact ih1 _
      | exact ih2 _ _ _ _ _ _ _ _ _ _
      | exact ih3 _ _ _ _ _ _ _ _ _ _ _ _
      | exact ih4 _ _ _ _ _ _ _ _ _ _ _ _ _
      | exact impl_BlockedCar.mono _ _ _
      | exact impl_DriveCars.mono _ _ _
      | exact impl_DriveLong.mono _ _ _
      | exact impl_IsLongParking.mono _ _ _
      | exact impl_StretchList.mono _ _ _
      | exact laws_jSame.mono _ _ _
      | exact laws_jSum.mono _ _
      | exact spec_BlockedCar.mono _ _ _
      | exact spec_DrawDriveLong.mono _ _
      | exact spec_DrawStretchList.mono _ _
      | exact spec_DriveLong.mono _ _ _
      | exact spec_IsLongParking.mono _ _ _
      | exact spec_StretchList.mono _ _ _
      | exact LeO.none _
      | refine LeO.ite ?_ ?_
      | refine LeO.bind ?_ (fun _ => ?_)
    · intro y0 y1 y2 y3 y4 y5 y6 y7 y8 y9 y10 y11 y12
      unfold laws_FnLongCars.l1
      repeat' first
      | (with_reducible exact ih0 _ _ _ _ _ _)
      | (with_reducible exact ih1 _)
      | (with_reducible exact ih2 _ _ _ _ _ _ _ _ _ _)
      | (with_reducible exact ih3 _ _ _ _ _ _ _ _ _ _ _ _)
      | (with_reducible exact ih4 _ _ _ _ _ _ _ _ _ _ _ _ _)
      | (with_reducible exact impl_BlockedCar.mono _ _ _)
      | (with_reducible exact impl_DriveCars.mono _ _ _)
      | (with_reducible exact impl_DriveLong.mono _ _ _)
      | (with_reducible exact impl_IsLongParking.mono _ _ _)
      | (with_reducible exact impl_StretchList.mono _ _ _)
      | (with_reducible exact laws_jSame.mono _ _ _)
      | (with_reducible exact laws_jSum.mono _ _)
      | (with_reducible exact spec_BlockedCar.mono _ _ _)
      | (with_reducible exact spec_DrawDriveLong.mono _ _)
      | (with_reducible exact spec_DrawStretchList.mono _ _)
      | (with_reducible exact spec_DriveLong.mono _ _ _)
      | (with_reducible exact spec_IsLongParking.mono _ _ _)
      | (with_reducible exact spec_StretchList.mono _ _ _)
      | (with_reducible exact LeO.refl _)
      | (with_reducible exact LeO.none _)
      | (with_reducible refine LeO.ite ?_ ?_)
      | (with_reducible refine LeO.bind ?_ (fun _ => ?_))
      | exact ih0 _ _ _ _ _ _
      | exact ih1 _
      | exact ih2 _ _ _ _ _ _ _ _ _ _
      | exact ih3 _ _ _ _ _ _ _ _ _ _ _ _
      | exact ih4 _ _ _ _ _ _ _ _ _ _ _ _ _
      | exact impl_BlockedCar.mono _ _ _
      | exact impl_DriveCars.mono _ _ _
      | exact impl_DriveLong.mono _ _ _
      | exact impl_IsLongParking.mono _ _ _
      | exact impl_StretchList.mono _ _ _
      | exact laws_jSame.mono _ _ _
      | exact laws_jSum.mono _ _
      | exact spec_BlockedCar.mono _ _ _
      | exact spec_DrawDriveLong.mono _ _
      | exact spec_DrawStretchList.mono _ _
      | exact spec_DriveLong.mono _ _ _
      | exact spec_IsLongParking.mono _ _ _
      | exact spec_StretchList.mono _ _ _
      | exact LeO.none _
      | refine LeO.ite ?_ ?_
      | refine LeO.bind ?_ (fun _ => ?_)
theorem laws_FnLongCars.mono : ∀ a0 a1 k, LeO (laws_FnLongCars.f k a0 a1) (laws_FnLongCars.f (k + 1) a0 a1) := by
  intro a0 a1 k
  obtain ⟨ih0, ih1, ih2, ih3, ih4⟩ := laws_FnLongCars.mono_l k
  unfold laws_FnLongCars.f
  repeat' first
      | (with_reducible exact ih0 _ _ _ _ _ _)
      | (with_reducible exact ih1 _)
      | (with_reducible exact ih2 _ _ _ _ _ _ _ _ _ _)
      | (with_reducible exact ih3 _ _ _ _ _ _ _ _ _ _ _ _)
      | (with_reducible exact ih4 _ _ _ _ _ _ _ _ _ _ _ _ _)
      | (with_reducible exact impl_BlockedCar.mono _ _ _)
      | (with_reducible exact impl_DriveCars.mono _ _ _)
      | (with_reducible exact impl_DriveLong.mono _ _ _)
      | (with_reducible exact impl_IsLongParking.mono _ _ _)
      | (with_reducible exact impl_StretchList.mono _ _ _)
      | (with_reducible exact laws_jSame.mono _ _ _)
      | (with_reducible exact laws_jSum.mono _ _)
      | (with_reducible exact spec_BlockedCar.mono _ _ _)
      | (with_reducible exact spec_DrawDriveLong.mono _ _)
      | (with_reducible exact spec_DrawStretchList.mono _ _)
      | (with_reducible exact spec_DriveLong.mono _ _ _)
      | (with_reducible exact spec_IsLongParking.mono _ _ _)
      | (with_reducible exact spec_StretchList.mono _ _ _)
      | (with_reducible exact LeO.refl _)
      | (with_reducible exact LeO.none _)
      | (with_reducible refine LeO.ite ?_ ?_)
      | (with_reducible refine LeO.bind ?_ (fun _ => ?_))
      | exact ih0 _ _ _ _ _ _
      | exact ih1 _
      | exact ih2 _ _ _ _ _ _ _ _ _ _
      | exact ih3 _ _ _ _ _ _ _ _ _ _ _ _
      | exact ih4 _ _ _ _ _ _ _ _ _ _ _ _ _
      | exact impl_BlockedCar.mono _ _ _
      | exact impl_DriveCars.mono _ _ _
      | exact impl_DriveLong.mono _ _ _
      | exact impl_IsLongParking.mono _ _ _
      | exact impl_StretchList.mono _ _ _
      | exact laws_jSame.mono _ _ _
      | exact laws_jSum.mono _ _
      | exact spec_BlockedCar.mono _ _ _
      | exact spec_DrawDriveLong.mono _ _
      | exact spec_DrawStretchList.mono _ _
      | exact spec_DriveLong.mono _ _ _
      | exact spec_IsLongParking.mono _ _ _
      | exact spec_StretchList.mono _ _ _
      | exact LeO.none _
      | refine LeO.ite ?_ ?_
      | refine LeO.bind ?_ (fun _ => ?_)
set_option maxHeartbeats 8000000 in
set_option maxRecDepth 100000 in
theorem laws_FnLongCars.calls (k : Nat) (A0 : Option Addr) (c0 : Nat) (l0 : List Int) (A1 : Option Addr) (c1 : Nat) (l1 : List Int) (r : Bool) (w : World) (hr0 : Kd.C (Kd.int .u8) w A0 l0.length l0) (hc0 : l0.length ≤ c0) (hr1 : Kd.C (Kd.int .u8) w A1 l1.length l1) (hc1 : l1.length ≤ c1) (h : laws_FnLongCars.f k l0 l1 = some r) :
    Calls Try.prog 9 #[.slice A0 l0.length c0, .slice A1 l1.length c1] w fun e w' => e = .returned (.bool r) ∧ Below w.heap.size w w' := by
  have HR0 := Aside0.mk hr0
  have HC0 := Aside0.mk hc0
  clear hr0 hc0
  have HR1 := Aside0.mk hr1
  have HC1 := Aside0.mk hc1
  clear hr1 hc1
  have HB := Aside0.mk (Below.refl w.heap.size w)
  have H : ((laws_big.f l0 l1).bind fun t772 => (if t772 = true then (some true) else ((spec_DrawDriveLong.f k l0).bind fun bt773 => ((impl_DriveLong.f k bt773.1 bt773.2).bind fun bt779 => ((spec_DriveLong.f k bt773.1 bt773.2).bind fun bt783 => ((impl_IsLongParking.f k bt773.1 bt773.2).bind fun bt787 => ((spec_IsLongParking.f k bt773.1 bt773.2).bind fun bt789 => ((impl_BlockedCar.f k bt773.1 bt773.2).bind fun bt791 => ((spec_BlockedCar.f k bt773.1 bt773.2).bind fun bt793 => (if (bt779.2 != bt783.2) = true then (laws_FnLongCars.j0 k l1 bt773.1 bt773.2 bt779.1 bt779.2 true) else ((laws_jSame.f k bt779.1 bt783.1).bind fun t795 => (if t795 = true then (if (bt787.2 != bt789.2) = true then (laws_FnLongCars.j0 k l1 bt773.1 bt773.2 bt779.1 bt779.2 true) else (if (bt787.1 != bt789.1) = true then (laws_FnLongCars.j0 k l1 bt773.1 bt773.2 bt779.1 bt779.2 true) else (if (bt791.2 != bt793.2) = true then (laws_FnLongCars.j0 k l1 bt773.1 bt773.2 bt779.1 bt779.2 true) else (if bt791.1 = bt793.1 then (if (bt779.2 != bt787.1) = true then (laws_FnLongCars.j0 k l1 bt773.1 bt773.2 bt779.1 bt779.2 true) else (if bt787.2 = true then (laws_FnLongCars.j0 k l1 bt773.1 bt773.2 bt779.1 bt779.2 (bt791.2 != (!bt787.1))) else (laws_FnLongCars.j0 k l1 bt773.1 bt773.2 bt779.1 bt779.2 (bt791.2 != false)))) else (laws_FnLongCars.j0 k l1 bt773.1 bt773.2 bt779.1 bt779.2 true))))) else (laws_FnLongCars.j0 k l1 bt773.1 bt773.2 bt779.1 bt779.2 true))))))))))))) = some r := h
  clear h
  replace H := Option.bind_eq_some_iff.mp H
  obtain ⟨t772, A30, H⟩ := H
  replace H : (if t772 = true then (some true) else ((spec_DrawDriveLong.f k l0).bind fun bt773 => ((impl_DriveLong.f k bt773.1 bt773.2).bind fun bt779 => ((spec_DriveLong.f k bt773.1 bt773.2).bind fun bt783 => ((impl_IsLongParking.f k bt773.1 bt773.2).bind fun bt787 => ((spec_IsLongParking.f k bt773.1 bt773.2).bind fun bt789 => ((impl_BlockedCar.f k bt773.1 bt773.2).bind fun bt791 => ((spec_BlockedCar.f k bt773.1 bt773.2).bind fun bt793 => (if (bt779.2 != bt783.2) = true then (laws_FnLongCars.j0 k l1 bt773.1 bt773.2 bt779.1 bt779.2 true) else ((laws_jSame.f k bt779.1 bt783.1).bind fun t795 => (if t795 = true then (if (bt787.2 != bt789.2) = true then (laws_FnLongCars.j0 k l1 bt773.1 bt773.2 bt779.1 bt779.2 true) else (if (bt787.1 != bt789.1) = true then (laws_FnLongCars.j0 k l1 bt773.1 bt773.2 bt779.1 bt779.2 true) else (if (bt791.2 != bt793.2) = true then (laws_FnLongCars.j0 k l1 bt773.1 bt773.2 bt779.1 bt779.2 true) else (if bt791.1 = bt793.1 then (if (bt779.2 != bt787.1) = true then (laws_FnLongCars.j0 k l1 bt773.1 bt773.2 bt779.1 bt779.2 true) else (if bt787.2 = true then (laws_FnLongCars.j0 k l1 bt773.1 bt773.2 bt779.1 bt779.2 (bt791.2 != (!bt787.1))) else (laws_FnLongCars.j0 k l1 bt773.1 bt773.2 bt779.1 bt779.2 (bt791.2 != false)))) else (laws_FnLongCars.j0 k l1 bt773.1 bt773.2 bt779.1 bt779.2 true))))) else (laws_FnLongCars.j0 k l1 bt773.1 bt773.2 bt779.1 bt779.2 true)))))))))))) = some r := H
  have A3 := Aside0.mk A30
  clear A30
  by_cases c4 : t772 = true
  · subst c4
    have H1 : (some true) = some r := by rw [if_pos rfl] at H; exact H
    clear H
    have H := H1
    clear H1
    obtain rfl := Option.some.inj H
    go_enter Try.func9, Try.ntmps9
    go_wp2_with (first | ((with_reducible refine gate_callee (f := 17) rfl ?_); refine goesL_ (some 35) rfl rfl Try.func17 (by kernel_rfl) rfl #[.slice A0 l0.length c0, .slice A1 l1.length c1] rfl (by (try simp only [List.map_toArray, List.map_cons, List.map_nil]); first | done | rfl | (simp only [List.length_drop, List.length_take]; rfl)) ?_; (with_reducible refine (laws_big.calls _ _ l0 _ _ l1 true _ ?side1 ?side2 ?side3 ?side4 A3.out).mono ?_); (case side1 => repeat (first | exact HR0.out | (with_reducible refine Kd.C_alloc ?_ _) | (with_reducible refine Kd.C_drewN ?_ _) | (with_reducible refine Kd.C_drew ?_))); (case side2 => exact HC0.out); (case side3 => repeat (first | exact HR1.out | (with_reducible refine Kd.C_alloc ?_ _) | (with_reducible refine Kd.C_drewN ?_ _) | (with_reducible refine Kd.C_drew ?_))); (case side4 => exact HC1.out); rintro e w' ⟨rfl, ⟨nd, rfl⟩⟩; refine ⟨_, rfl, ?_⟩))
    go_ret
    exact ⟨by first | rfl | (simp [errW_none, errW_some] <;> rfl) | (simp [*, errW_none, errW_some] <;> rfl), by repeat (first | (with_reducible first | exact HB.out | apply below_alloc | apply pw_below_drewN | apply below_drew1) | exact HB.out)⟩
  · replace c4 := Bool.eq_false_iff.mpr c4
    subst c4
    have H1 : ((spec_DrawDriveLong.f k l0).bind fun bt773 => ((impl_DriveLong.f k bt773.1 bt773.2).bind fun bt779 => ((spec_DriveLong.f k bt773.1 bt773.2).bind fun bt783 => ((impl_IsLongParking.f k bt773.1 bt773.2).bind fun bt787 => ((spec_IsLongParking.f k bt773.1 bt773.2).bind fun bt789 => ((impl_BlockedCar.f k bt773.1 bt773.2).bind fun bt791 => ((spec_BlockedCar.f k bt773.1 bt773.2).bind fun bt793 => (if (bt779.2 != bt783.2) = true then (laws_FnLongCars.j0 k l1 bt773.1 bt773.2 bt779.1 bt779.2 true) else ((laws_jSame.f k bt779.1 bt783.1).bind fun t795 => (if t795 = true then (if (bt787.2 != bt789.2) = true then (laws_FnLongCars.j0 k l1 bt773.1 bt773.2 bt779.1 bt779.2 true) else (if (bt787.1 != bt789.1) = true then (laws_FnLongCars.j0 k l1 bt773.1 bt773.2 bt779.1 bt779.2 true) else (if (bt791.2 != bt793.2) = true then (laws_FnLongCars.j0 k l1 bt773.1 bt773.2 bt779.1 bt779.2 true) else (if bt791.1 = bt793.1 then (if (bt779.2 != bt787.1) = true then (laws_FnLongCars.j0 k l1 bt773.1 bt773.2 bt779.1 bt779.2 true) else (if bt787.2 = true then (laws_FnLongCars.j0 k l1 bt773.1 bt773.2 bt779.1 bt779.2 (bt791.2 != (!bt787.1))) else (laws_FnLongCars.j0 k l1 bt773.1 bt773.2 bt779.1 bt779.2 (bt791.2 != false)))) else (laws_FnLongCars.j0 k l1 bt773.1 bt773.2 bt779.1 bt779.2 true))))) else (laws_FnLongCars.j0 k l1 bt773.1 bt773.2 bt779.1 bt779.2 true))))))))))) = some r := by rw [if_neg (show ¬ (false = true) by decide)] at H; exact H
    clear H
    have H := H1
    clear H1
    replace H := Option.bind_eq_some_iff.mp H
    obtain ⟨⟨t773, t774⟩, A50, H⟩ := H
    replace H : ((impl_DriveLong.f k t773 t774).bind fun bt779 => ((spec_DriveLong.f k t773 t774).bind fun bt783 => ((impl_IsLongParking.f k t773 t774).bind fun bt787 => ((spec_IsLongParking.f k t773 t774).bind fun bt789 => ((impl_BlockedCar.f k t773 t774).bind fun bt791 => ((spec_BlockedCar.f k t773 t774).bind fun bt793 => (if (bt779.2 != bt783.2) = true then (laws_FnLongCars.j0 k l1 t773 t774 bt779.1 bt779.2 true) else ((laws_jSame.f k bt779.1 bt783.1).bind fun t795 => (if t795 = true then (if (bt787.2 != bt789.2) = true then (laws_FnLongCars.j0 k l1 t773 t774 bt779.1 bt779.2 true) else (if (bt787.1 != bt789.1) = true then (laws_FnLongCars.j0 k l1 t773 t774 bt779.1 bt779.2 true) else (if (bt791.2 != bt793.2) = true then (laws_FnLongCars.j0 k l1 t773 t774 bt779.1 bt779.2 true) else (if bt791.1 = bt793.1 then (if (bt779.2 != bt787.1) = true then (laws_FnLongCars.j0 k l1 t773 t774 bt779.1 bt779.2 true) else (if bt787.2 = true then (laws_FnLongCars.j0 k l1 t773 t774 bt779.1 bt779.2 (bt791.2 != (!bt787.1))) else (laws_FnLongCars.j0 k l1 t773 t774 bt779.1 bt779.2 (bt791.2 != false)))) else (laws_FnLongCars.j0 k l1 t773 t774 bt779.1 bt779.2 true))))) else (laws_FnLongCars.j0 k l1 t773 t774 bt779.1 bt779.2 true)))))))))) = some r := H
    have A5 := Aside0.mk A50
    clear A50
    replace H := Option.bind_eq_some_iff.mp H
    obtain ⟨⟨t779, t780⟩, A60, H⟩ := H
    replace H : ((spec_DriveLong.f k t773 t774).bind fun bt783 => ((impl_IsLongParking.f k t773 t774).bind fun bt787 => ((spec_IsLongParking.f k t773 t774).bind fun bt789 => ((impl_BlockedCar.f k t773 t774).bind fun bt791 => ((spec_BlockedCar.f k t773 t774).bind fun bt793 => (if (t780 != bt783.2) = true then (laws_FnLongCars.j0 k l1 t773 t774 t779 t780 true) else ((laws_jSame.f k t779 bt783.1).bind fun t795 => (if t795 = true then (if (bt787.2 != bt789.2) = true then (laws_FnLongCars.j0 k l1 t773 t774 t779 t780 true) else (if (bt787.1 != bt789.1) = true then (laws_FnLongCars.j0 k l1 t773 t774 t779 t780 true) else (if (bt791.2 != bt793.2) = true then (laws_FnLongCars.j0 k l1 t773 t774 t779 t780 true) else (if bt791.1 = bt793.1 then (if (t780 != bt787.1) = true then (laws_FnLongCars.j0 k l1 t773 t774 t779 t780 true) else (if bt787.2 = true then (laws_FnLongCars.j0 k l1 t773 t774 t779 t780 (bt791.2 != (!bt787.1))) else (laws_FnLongCars.j0 k l1 t773 t774 t779 t780 (bt791.2 != false)))) else (laws_FnLongCars.j0 k l1 t773 t774 t779 t780 true))))) else (laws_FnLongCars.j0 k l1 t773 t774 t779 t780 true))))))))) = some r := H
    have A6 := Aside0.mk A60
    clear A60
    replace H := Option.bind_eq_some_iff.mp H
    obtain ⟨⟨t783, t784⟩, A70, H⟩ := H
    replace H : ((impl_IsLongParking.f k t773 t774).bind fun bt787 => ((spec_IsLongParking.f k t773 t774).bind fun bt789 => ((impl_BlockedCar.f k t773 t774).bind fun bt791 => ((spec_BlockedCar.f k t773 t774).bind fun bt793 => (if (t780 != t784) = true then (laws_FnLongCars.j0 k l1 t773 t774 t779 t780 true) else ((laws_jSame.f k t779 t783).bind fun t795 => (if t795 = true then (if (bt787.2 != bt789.2) = true then (laws_FnLongCars.j0 k l1 t773 t774 t779 t780 true) else (if (bt787.1 != bt789.1) = true then (laws_FnLongCars.j0 k l1 t773 t774 t779 t780 true) else (if (bt791.2 != bt793.2) = true then (laws_FnLongCars.j0 k l1 t773 t774 t779 t780 true) else (if bt791.1 = bt793.1 then (if (t780 != bt787.1) = true then (laws_FnLongCars.j0 k l1 t773 t774 t779 t780 true) else (if bt787.2 = true then (laws_FnLongCars.j0 k l1 t773 t774 t779 t780 (bt791.2 != (!bt787.1))) else (laws_FnLongCars.j0 k l1 t773 t774 t779 t780 (bt791.2 != false)))) else (laws_FnLongCars.j0 k l1 t773 t774 t779 t780 true))))) else (laws_FnLongCars.j0 k l1 t773 t774 t779 t780 true)))))))) = some r := H
    have A7 := Aside0.mk A70
    clear A70
    replace H := Option.bind_eq_some_iff.mp H
    obtain ⟨⟨t787, t788⟩, A80, H⟩ := H
    replace H : ((spec_IsLongParking.f k t773 t774).bind fun bt789 => ((impl_BlockedCar.f k t773 t774).bind fun bt791 => ((spec_BlockedCar.f k t773 t774).bind fun bt793 => (if (t780 != t784) = true then (laws_FnLongCars.j0 k l1 t773 t774 t779 t780 true) else ((laws_jSame.f k t779 t783).bind fun t795 => (if t795 = true then (if (t788 != bt789.2) = true then (laws_FnLongCars.j0 k l1 t773 t774 t779 t780 true) else (if (t787 != bt789.1) = true then (laws_FnLongCars.j0 k l1 t773 t774 t779 t780 true) else (if (bt791.2 != bt793.2) = true then (laws_FnLongCars.j0 k l1 t773 t774 t779 t780 true) else (if bt791.1 = bt793.1 then (if (t780 != t787) = true then (laws_FnLongCars.j0 k l1 t773 t774 t779 t780 true) else (if t788 = true then (laws_FnLongCars.j0 k l1 t773 t774 t779 t780 (bt791.2 != (!t787))) else (laws_FnLongCars.j0 k l1 t773 t774 t779 t780 (bt791.2 != false)))) else (laws_FnLongCars.j0 k l1 t773 t774 t779 t780 true))))) else (laws_FnLongCars.j0 k l1 t773 t774 t779 t780 true))))))) = some r := H
    have A8 := Aside0.mk A80
    clear A80
    replace H := Option.bind_eq_some_iff.mp H
    obtain ⟨⟨t789, t790⟩, A90, H⟩ := H
    replace H : ((impl_BlockedCar.f k t773 t774).bind fun bt791 => ((spec_BlockedCar.f k t773 t774).bind fun bt793 => (if (t780 != t784) = true then (laws_FnLongCars.j0 k l1 t773 t774 t779 t780 true) else ((laws_jSame.f k t779 t783).bind fun t795 => (if t795 = true then (if (t788 != t790) = true then (laws_FnLongCars.j0 k l1 t773 t774 t779 t780 true) else (if (t787 != t789) = true then (laws_FnLongCars.j0 k l1 t773 t774 t779 t780 true) else (if (bt791.2 != bt793.2) = true then (laws_FnLongCars.j0 k l1 t773 t774 t779 t780 true) else (if bt791.1 = bt793.1 then (if (t780 != t787) = true then (laws_FnLongCars.j0 k l1 t773 t774 t779 t780 true) else (if t788 = true then (laws_FnLongCars.j0 k l1 t773 t774 t779 t780 (bt791.2 != (!t787))) else (laws_FnLongCars.j0 k l1 t773 t774 t779 t780 (bt791.2 != false)))) else (laws_FnLongCars.j0 k l1 t773 t774 t779 t780 true))))) else (laws_FnLongCars.j0 k l1 t773 t774 t779 t780 true)))))) = some r := H
    have A9 := Aside0.mk A90
    clear A90
    replace H := Option.bind_eq_some_iff.mp H
    obtain ⟨⟨t791, t792⟩, A100, H⟩ := H
    replace H : ((spec_BlockedCar.f k t773 t774).bind fun bt793 => (if (t780 != t784) = true then (laws_FnLongCars.j0 k l1 t773 t774 t779 t780 true) else ((laws_jSame.f k t779 t783).bind fun t795 => (if t795 = true then (if (t788 != t790) = true then (laws_FnLongCars.j0 k l1 t773 t774 t779 t780 true) else (if (t787 != t789) = true then (laws_FnLongCars.j0 k l1 t773 t774 t779 t780 true) else (if (t792 != bt793.2) = true then (laws_FnLongCars.j0 k l1 t773 t774 t779 t780 true) else (if t791 = bt793.1 then (if (t780 != t787) = true then (laws_FnLongCars.j0 k l1 t773 t774 t779 t780 true) else (if t788 = true then (laws_FnLongCars.j0 k l1 t773 t774 t779 t780 (t792 != (!t787))) else (laws_FnLongCars.j0 k l1 t773 t774 t779 t780 (t792 != false)))) else (laws_FnLongCars.j0 k l1 t773 t774 t779 t780 true))))) else (laws_FnLongCars.j0 k l1 t773 t774 t779 t780 true))))) = some r := H
    have A10 := Aside0.mk A100
    clear A100
    replace H := Option.bind_eq_some_iff.mp H
    obtain ⟨⟨t793, t794⟩, A110, H⟩ := H
    replace H : (if (t780 != t784) = true then (laws_FnLongCars.j0 k l1 t773 t774 t779 t780 true) else ((laws_jSame.f k t779 t783).bind fun t795 => (if t795 = true then (if (t788 != t790) = true then (laws_FnLongCars.j0 k l1 t773 t774 t779 t780 true) else (if (t787 != t789) = true then (laws_FnLongCars.j0 k l1 t773 t774 t779 t780 true) else (if (t792 != t794) = true then (laws_FnLongCars.j0 k l1 t773 t774 t779 t780 true) else (if t791 = t793 then (if (t780 != t787) = true then (laws_FnLongCars.j0 k l1 t773 t774 t779 t780 true) else (if t788 = true then (laws_FnLongCars.j0 k l1 t773 t774 t779 t780 (t792 != (!t787))) else (laws_FnLongCars.j0 k l1 t773 t774 t779 t780 (t792 != false)))) else (laws_FnLongCars.j0 k l1 t773 t774 t779 t780 true))))) else (laws_FnLongCars.j0 k l1 t773 t774 t779 t780 true)))) = some r := H
    have A11 := Aside0.mk A110
    clear A110
    have HC12 := Aside0.mk H
    clear H
    go_enter Try.func9, Try.ntmps9
    go_upto_region 10 with (first | ((with_reducible refine gate_callee (f := 17) rfl ?_); refine goesL_ (some 35) rfl rfl Try.func17 (by kernel_rfl) rfl #[.slice A0 l0.length c0, .slice A1 l1.length c1] rfl (by (try simp only [List.map_toArray, List.map_cons, List.map_nil]); first | done | rfl | (simp only [List.length_drop, List.length_take]; rfl)) ?_; (with_reducible refine (laws_big.calls _ _ l0 _ _ l1 false _ ?side1 ?side2 ?side3 ?side4 A3.out).mono ?_); (case side1 => repeat (first | exact HR0.out | (with_reducible refine Kd.C_alloc ?_ _) | (with_reducible refine Kd.C_drewN ?_ _) | (with_reducible refine Kd.C_drew ?_))); (case side2 => exact HC0.out); (case side3 => repeat (first | exact HR1.out | (with_reducible refine Kd.C_alloc ?_ _) | (with_reducible refine Kd.C_drewN ?_ _) | (with_reducible refine Kd.C_drew ?_))); (case side4 => exact HC1.out); rintro e w' ⟨rfl, ⟨nd, rfl⟩⟩; refine ⟨_, rfl, ?_⟩) | ((with_reducible refine gate_callee (f := 41) rfl ?_); refine goesL_ (some 38) rfl rfl Try.func41 (by kernel_rfl) rfl #[.slice A0 l0.length c0] rfl (by (try simp only [List.map_toArray, List.map_cons, List.map_nil]); first | done | rfl | (simp only [List.length_drop, List.length_take]; rfl)) ?_; (with_reducible refine (spec_DrawDriveLong.calls k _ _ l0 t773 t774 _ ?side1 ?side2 A5.out).mono ?_); (case side1 => repeat (first | exact HR0.out | (with_reducible refine Kd.C_alloc ?_ _) | (with_reducible refine Kd.C_drewN ?_ _) | (with_reducible refine Kd.C_drew ?_))); (case side2 => exact HC0.out); rintro e w13 ⟨v775, v777, rfl, ho0, ho1, hb⟩; refine ⟨_, rfl, ?_⟩; have n0_ := Aside0.mk (Kd.R_lower ho0 (below_size (by repeat (first | (with_reducible first | exact HB.out | apply below_alloc | apply pw_below_drewN | apply below_drew1) | exact HB.out)))); have n1_ := Aside0.mk (Kd.R_lower ho1 (below_size (by repeat (first | (with_reducible first | exact HB.out | apply below_alloc | apply pw_below_drewN | apply below_drew1) | exact HB.out)))); have n2_ := Aside0.mk (below_step (by repeat (first | (with_reducible first | exact HB.out | apply below_alloc | apply pw_below_drewN | apply below_drew1) | exact HB.out)) hb); clear HB; have HO776 := n0_; have HO778 := n1_; have HB := n2_; clear n0_ n1_ n2_; (try clear hb); (try clear hb2); (try clear hk); (try clear hi); (try clear ho0); (try clear ho1); obtain ⟨Ao14, co14, eo14⟩ := Kd.R_slice HO776.out; subst eo14; obtain ⟨Ao15, co15, eo15⟩ := Kd.R_slice HO778.out; subst eo15) | ((with_reducible refine gate_callee (f := 13) rfl ?_); refine goesL_ (some 44) rfl rfl Try.func13 (by kernel_rfl) rfl #[.slice Ao14 t773.length co14, .slice Ao15 t774.length co15] rfl (by (try simp only [List.map_toArray, List.map_cons, List.map_nil]); first | done | rfl | (simp only [List.length_drop, List.length_take]; rfl)) ?_; (with_reducible refine (impl_DriveLong.calls k _ _ t773 _ _ t774 t779 t780 _ ?side1 ?side2 ?side3 ?side4 A6.out).mono ?_); (case side1 => repeat (first | exact (Kd.R_reads' HO776.out).2.2 | (with_reducible refine Kd.C_alloc ?_ _) | (with_reducible refine Kd.C_drewN ?_ _) | (with_reducible refine Kd.C_drew ?_))); (case side2 => exact (Kd.R_reads' HO776.out).2.1); (case side3 => repeat (first | exact (Kd.R_reads' HO778.out).2.2 | (with_reducible refine Kd.C_alloc ?_ _) | (with_reducible refine Kd.C_drewN ?_ _) | (with_reducible refine Kd.C_drew ?_))); (case side4 => exact (Kd.R_reads' HO778.out).2.1); rintro e w16 ⟨v781, rfl, ho0, hb⟩; refine ⟨_, rfl, ?_⟩; have n0_ := Aside0.mk (Kd.R_elder' (by (with_reducible repeat (first | apply Kd.R_alloc | apply Kd.R_drewN | apply Kd.R_drew)); exact HO776.out) (Kd.R_base ho0) hb); have n1_ := Aside0.mk (Kd.R_elder' (by (with_reducible repeat (first | apply Kd.R_alloc | apply Kd.R_drewN | apply Kd.R_drew)); exact HO778.out) (Kd.R_base ho0) hb); have n2_ := Aside0.mk (Kd.R_lower (Kd.R_new' (Kd.R_new' ho0 (Kd.R_lt (by (with_reducible repeat (first | apply Kd.R_alloc | apply Kd.R_drewN | apply Kd.R_drew)); exact HO776.out))) (Kd.R_lt (by (with_reducible repeat (first | apply Kd.R_alloc | apply Kd.R_drewN | apply Kd.R_drew)); exact HO778.out))) (below_size (by repeat (first | (with_reducible first | exact HB.out | apply below_alloc | apply pw_below_drewN | apply below_drew1) | exact HB.out)))); have n3_ := Aside0.mk (below_step (by repeat (first | (with_reducible first | exact HB.out | apply below_alloc | apply pw_below_drewN | apply below_drew1) | exact HB.out)) hb); clear HO776; clear HO778; clear HB; have HO776 := n0_; have HO778 := n1_; have HO782 := n2_; have HB := n3_; clear n0_ n1_ n2_ n3_; (try clear hb); (try clear hb2); (try clear hk); (try clear hi); (try clear ho0)) | ((with_reducible refine gate_callee (f := 11) rfl ?_); refine goesL_ (some 50) rfl rfl Try.func11 (by kernel_rfl) rfl #[.slice Ao14 t773.length co14, .slice Ao15 t774.length co15] rfl (by (try simp only [List.map_toArray, List.map_cons, List.map_nil]); first | done | rfl | (simp only [List.length_drop, List.length_take]; rfl)) ?_; (with_reducible refine (spec_DriveLong.calls k _ _ t773 _ _ t774 t783 t784 _ ?side1 ?side2 ?side3 ?side4 A7.out).mono ?_); (case side1 => repeat (first | exact (Kd.R_reads' HO776.out).2.2 | (with_reducible refine Kd.C_alloc ?_ _) | (with_reducible refine Kd.C_drewN ?_ _) | (with_reducible refine Kd.C_drew ?_))); (case side2 => exact (Kd.R_reads' HO776.out).2.1); (case side3 => repeat (first | exact (Kd.R_reads' HO778.out).2.2 | (with_reducible refine Kd.C_alloc ?_ _) | (with_reducible refine Kd.C_drewN ?_ _) | (with_reducible refine Kd.C_drew ?_))); (case side4 => exact (Kd.R_reads' HO778.out).2.1); rintro e w17 ⟨v785, rfl, ho0, hb⟩; refine ⟨_, rfl, ?_⟩; have n0_ := Aside0.mk (Kd.R_elder' (by (with_reducible repeat (first | apply Kd.R_alloc | apply Kd.R_drewN | apply Kd.R_drew)); exact HO776.out) (Kd.R_base ho0) hb); have n1_ := Aside0.mk (Kd.R_elder' (by (with_reducible repeat (first | apply Kd.R_alloc | apply Kd.R_drewN | apply Kd.R_drew)); exact HO778.out) (Kd.R_base ho0) hb); have n2_ := Aside0.mk (Kd.R_elder' (by (with_reducible repeat (first | apply Kd.R_alloc | apply Kd.R_drewN | apply Kd.R_drew)); exact HO782.out) (Kd.R_base ho0) hb); have n3_ := Aside0.mk (Kd.R_lower (Kd.R_new' (Kd.R_new' (Kd.R_new' ho0 (Kd.R_lt (by (with_reducible repeat (first | apply Kd.R_alloc | apply Kd.R_drewN | apply Kd.R_drew)); exact HO776.out))) (Kd.R_lt (by (with_reducible repeat (first | apply Kd.R_alloc | apply Kd.R_drewN | apply Kd.R_drew)); exact HO778.out))) (Kd.R_lt (by (with_reducible repeat (first | apply Kd.R_alloc | apply Kd.R_drewN | apply Kd.R_drew)); exact HO782.out))) (below_size (by repeat (first | (with_reducible first | exact HB.out | apply below_alloc | apply pw_below_drewN | apply below_drew1) | exact HB.out)))); have n4_ := Aside0.mk (below_step (by repeat (first | (with_reducible first | exact HB.out | apply below_alloc | apply pw_below_drewN | apply below_drew1) | exact HB.out)) hb); clear HO776; clear HO778; clear HO782; clear HB; have HO776 := n0_; have HO778 := n1_; have HO782 := n2_; have HO786 := n3_; have HB := n4_; clear n0_ n1_ n2_ n3_ n4_; (try clear hb); (try clear hb2); (try clear hk); (try clear hi); (try clear ho0)) | ((with_reducible refine gate_callee (f := 22) rfl ?_); refine goesL_ (some 56) rfl rfl Try.func22 (by kernel_rfl) rfl #[.slice Ao14 t773.length co14, .slice Ao15 t774.length co15] rfl (by (try simp only [List.map_toArray, List.map_cons, List.map_nil]); first | done | rfl | (simp only [List.length_drop, List.length_take]; rfl)) ?_; (with_reducible refine (impl_IsLongParking.calls k _ _ t773 _ _ t774 t787 t788 _ ?side1 ?side2 ?side3 ?side4 A8.out).mono ?_); (case side1 => repeat (first | exact (Kd.R_reads' HO776.out).2.2 | (with_reducible refine Kd.C_alloc ?_ _) | (with_reducible refine Kd.C_drewN ?_ _) | (with_reducible refine Kd.C_drew ?_))); (case side2 => exact (Kd.R_reads' HO776.out).2.1); (case side3 => repeat (first | exact (Kd.R_reads' HO778.out).2.2 | (with_reducible refine Kd.C_alloc ?_ _) | (with_reducible refine Kd.C_drewN ?_ _) | (with_reducible refine Kd.C_drew ?_))); (case side4 => exact (Kd.R_reads' HO778.out).2.1); rintro e w18 ⟨rfl, hb⟩; refine ⟨_, rfl, ?_⟩; have n0_ := Aside0.mk (Kd.R_below (by (with_reducible repeat (first | apply Kd.R_alloc | apply Kd.R_drewN | apply Kd.R_drew)); exact HO776.out) hb); have n1_ := Aside0.mk (Kd.R_below (by (with_reducible repeat (first | apply Kd.R_alloc | apply Kd.R_drewN | apply Kd.R_drew)); exact HO778.out) hb); have n2_ := Aside0.mk (Kd.R_below (by (with_reducible repeat (first | apply Kd.R_alloc | apply Kd.R_drewN | apply Kd.R_drew)); exact HO782.out) hb); have n3_ := Aside0.mk (Kd.R_below (by (with_reducible repeat (first | apply Kd.R_alloc | apply Kd.R_drewN | apply Kd.R_drew)); exact HO786.out) hb); have n4_ := Aside0.mk (below_step (by repeat (first | (with_reducible first | exact HB.out | apply below_alloc | apply pw_below_drewN | apply below_drew1) | exact HB.out)) hb); clear HO776; clear HO778; clear HO782; clear HO786; clear HB; have HO776 := n0_; have HO778 := n1_; have HO782 := n2_; have HO786 := n3_; have HB := n4_; clear n0_ n1_ n2_ n3_ n4_; (try clear hb); (try clear hb2); (try clear hk); (try clear hi)) | ((with_reducible refine gate_callee (f := 42) rfl ?_); refine goesL_ (some 62) rfl rfl Try.func42 (by kernel_rfl) rfl #[.slice Ao14 t773.length co14, .slice Ao15 t774.length co15] rfl (by (try simp only [List.map_toArray, List.map_cons, List.map_nil]); first | done | rfl | (simp only [List.length_drop, List.length_take]; rfl)) ?_; (with_reducible refine (spec_IsLongParking.calls k _ _ t773 _ _ t774 t789 t790 _ ?side1 ?side2 ?side3 ?side4 A9.out).mono ?_); (case side1 => repeat (first | exact (Kd.R_reads' HO776.out).2.2 | (with_reducible refine Kd.C_alloc ?_ _) | (with_reducible refine Kd.C_drewN ?_ _) | (with_reducible refine Kd.C_drew ?_))); (case side2 => exact (Kd.R_reads' HO776.out).2.1); (case side3 => repeat (first | exact (Kd.R_reads' HO778.out).2.2 | (with_reducible refine Kd.C_alloc ?_ _) | (with_reducible refine Kd.C_drewN ?_ _) | (with_reducible refine Kd.C_drew ?_))); (case side4 => exact (Kd.R_reads' HO778.out).2.1); rintro e w19 ⟨rfl, hb⟩; refine ⟨_, rfl, ?_⟩; have n0_ := Aside0.mk (Kd.R_below (by (with_reducible repeat (first | apply Kd.R_alloc | apply Kd.R_drewN | apply Kd.R_drew)); exact HO776.out) hb); have n1_ := Aside0.mk (Kd.R_below (by (with_reducible repeat (first | apply Kd.R_alloc | apply Kd.R_drewN | apply Kd.R_drew)); exact HO778.out) hb); have n2_ := Aside0.mk (Kd.R_below (by (with_reducible repeat (first | apply Kd.R_alloc | apply Kd.R_drewN | apply Kd.R_drew)); exact HO782.out) hb); have n3_ := Aside0.mk (Kd.R_below (by (with_reducible repeat (first | apply Kd.R_alloc | apply Kd.R_drewN | apply Kd.R_drew)); exact HO786.out) hb); have n4_ := Aside0.mk (below_step (by repeat (first | (with_reducible first | exact HB.out | apply below_alloc | apply pw_below_drewN | apply below_drew1) | exact HB.out)) hb); clear HO776; clear HO778; clear HO782; clear HO786; clear HB; have HO776 := n0_; have HO778 := n1_; have HO782 := n2_; have HO786 := n3_; have HB := n4_; clear n0_ n1_ n2_ n3_ n4_; (try clear hb); (try clear hb2); (try clear hk); (try clear hi)) | ((with_reducible refine gate_callee (f := 43) rfl ?_); refine goesL_ (some 68) rfl rfl Try.func43 (by kernel_rfl) rfl #[.slice Ao14 t773.length co14, .slice Ao15 t774.length co15] rfl (by (try simp only [List.map_toArray, List.map_cons, List.map_nil]); first | done | rfl | (simp only [List.length_drop, List.length_take]; rfl)) ?_; (with_reducible refine (impl_BlockedCar.calls k _ _ t773 _ _ t774 t791 t792 _ ?side1 ?side2 ?side3 ?side4 A10.out).mono ?_); (case side1 => repeat (first | exact (Kd.R_reads' HO776.out).2.2 | (with_reducible refine Kd.C_alloc ?_ _) | (with_reducible refine Kd.C_drewN ?_ _) | (with_reducible refine Kd.C_drew ?_))); (case side2 => exact (Kd.R_reads' HO776.out).2.1); (case side3 => repeat (first | exact (Kd.R_reads' HO778.out).2.2 | (with_reducible refine Kd.C_alloc ?_ _) | (with_reducible refine Kd.C_drewN ?_ _) | (with_reducible refine Kd.C_drew ?_))); (case side4 => exact (Kd.R_reads' HO778.out).2.1); rintro e w20 ⟨rfl, hb⟩; refine ⟨_, rfl, ?_⟩; have n0_ := Aside0.mk (Kd.R_below (by (with_reducible repeat (first | apply Kd.R_alloc | apply Kd.R_drewN | apply Kd.R_drew)); exact HO776.out) hb); have n1_ := Aside0.mk (Kd.R_below (by (with_reducible repeat (first | apply Kd.R_alloc | apply Kd.R_drewN | apply Kd.R_drew)); exact HO778.out) hb); have n2_ := Aside0.mk (Kd.R_below (by (with_reducible repeat (first | apply Kd.R_alloc | apply Kd.R_drewN | apply Kd.R_drew)); exact HO782.out) hb); have n3_ := Aside0.mk (Kd.R_below (by (with_reducible repeat (first | apply Kd.R_alloc | apply Kd.R_drewN | apply Kd.R_drew)); exact HO786.out) hb); have n4_ := Aside0.mk (below_step (by repeat (first | (with_reducible first | exact HB.out | apply below_alloc | apply pw_below_drewN | apply below_drew1) | exact HB.out)) hb); clear HO776; clear HO778; clear HO782; clear HO786; clear HB; have HO776 := n0_; have HO778 := n1_; have HO782 := n2_; have HO786 := n3_; have HB := n4_; clear n0_ n1_ n2_ n3_ n4_; (try clear hb); (try clear hb2); (try clear hk); (try clear hi)) | ((with_reducible refine gate_callee (f := 44) rfl ?_); refine goesL_ (some 74) rfl rfl Try.func44 (by kernel_rfl) rfl #[.slice Ao14 t773.length co14, .slice Ao15 t774.length co15] rfl (by (try simp only [List.map_toArray, List.map_cons, List.map_nil]); first | done | rfl | (simp only [List.length_drop, List.length_take]; rfl)) ?_; (with_reducible refine (spec_BlockedCar.calls k _ _ t773 _ _ t774 t793 t794 _ ?side1 ?side2 ?side3 ?side4 A11.out).mono ?_); (case side1 => repeat (first | exact (Kd.R_reads' HO776.out).2.2 | (with_reducible refine Kd.C_alloc ?_ _) | (with_reducible refine Kd.C_drewN ?_ _) | (with_reducible refine Kd.C_drew ?_))); (case side2 => exact (Kd.R_reads' HO776.out).2.1); (case side3 => repeat (first | exact (Kd.R_reads' HO778.out).2.2 | (with_reducible refine Kd.C_alloc ?_ _) | (with_reducible refine Kd.C_drewN ?_ _) | (with_reducible refine Kd.C_drew ?_))); (case side4 => exact (Kd.R_reads' HO778.out).2.1); rintro e w21 ⟨rfl, hb⟩; refine ⟨_, rfl, ?_⟩; have n0_ := Aside0.mk (Kd.R_below (by (with_reducible repeat (first | apply Kd.R_alloc | apply Kd.R_drewN | apply Kd.R_drew)); exact HO776.out) hb); have n1_ := Aside0.mk (Kd.R_below (by (with_reducible repeat (first | apply Kd.R_alloc | apply Kd.R_drewN | apply Kd.R_drew)); exact HO778.out) hb); have n2_ := Aside0.mk (Kd.R_below (by (with_reducible repeat (first | apply Kd.R_alloc | apply Kd.R_drewN | apply Kd.R_drew)); exact HO782.out) hb); have n3_ := Aside0.mk (Kd.R_below (by (with_reducible repeat (first | apply Kd.R_alloc | apply Kd.R_drewN | apply Kd.R_drew)); exact HO786.out) hb); have n4_ := Aside0.mk (below_step (by repeat (first | (with_reducible first | exact HB.out | apply below_alloc | apply pw_below_drewN | apply below_drew1) | exact HB.out)) hb); clear HO776; clear HO778; clear HO782; clear HO786; clear HB; have HO776 := n0_; have HO778 := n1_; have HO782 := n2_; have HO786 := n3_; have HB := n4_; clear n0_ n1_ n2_ n3_ n4_; (try clear hb); (try clear hb2); (try clear hk); (try clear hi)))
    (try simp only [Act.put, List.setIfInBounds_toArray, List.set_cons_zero, List.set_cons_succ])
    go_cut [119] (fun v119 wc => ∃ (kq : Nat) (x119_11 : Bool), v119 = .bool x119_11 ∧ Aside0 (laws_FnLongCars.j0 kq l1 t773 t774 t779 t780 x119_11 = some r) ∧ Aside0 (kq ≤ k) ∧ Aside0 (Kd.R (Kd.int .i64) 3 wc w.heap.size (fun k_ => some k_ ≠ ((.slice Ao15 t774.length co15) : Value).ownBlock ∧ some k_ ≠ (v781 : Value).ownBlock) (.slice Ao14 t773.length co14) t773) ∧ Aside0 (Kd.R (Kd.int .i64) 3 wc w.heap.size (fun k_ => some k_ ≠ ((.slice Ao14 t773.length co14) : Value).ownBlock ∧ some k_ ≠ (v781 : Value).ownBlock) (.slice Ao15 t774.length co15) t774) ∧ Aside0 (Kd.R (Kd.int .i64) 3 wc w.heap.size (fun k_ => some k_ ≠ ((.slice Ao14 t773.length co14) : Value).ownBlock ∧ some k_ ≠ ((.slice Ao15 t774.length co15) : Value).ownBlock) v781 t779) ∧ Aside0 (Below w.heap.size w wc))
    case first =>
      have H := HC12.out
      clear HC12
      by_cases c22 : (t780 != t784) = true
      · rw [if_pos c22] at H
        have c22b0 : (t780 != t784) = true := c22
        (try (have c22b1 : decide (t780 = t784) = false := by simpa using c22))
        (try (have c22b2 : (t780 == t784) = false := by simpa using c22))
        (try (have c22b3 : ¬ (t780 = t784) := by simpa using c22))
        clear c22
        (first | rw [c22b0] | (simp only [i64_w, i32_w]; rw [c22b0]) | skip)
        have H' := Aside0.mk H
        clear H
        go_wp2
        go_meet
        case rel => exact ⟨_, (true), (by first | rfl | (simp; done) | (simp [*]; done)), H', ⟨by first | omega | exact Nat.le_refl _⟩, ⟨by (with_reducible repeat (first | apply Kd.R_alloc | apply Kd.R_drewN | apply Kd.R_drew)); exact Kd.R_mono HO776.out (fun _ hk => ⟨hk.1.1, hk.1.2⟩)⟩, ⟨by (with_reducible repeat (first | apply Kd.R_alloc | apply Kd.R_drewN | apply Kd.R_drew)); exact Kd.R_mono HO778.out (fun _ hk => ⟨hk.1.1, hk.1.2⟩)⟩, ⟨by (with_reducible repeat (first | apply Kd.R_alloc | apply Kd.R_drewN | apply Kd.R_drew)); exact Kd.R_mono HO782.out (fun _ hk => ⟨hk.1.1.2, hk.1.2⟩)⟩, ⟨by repeat (first | (with_reducible first | exact HB.out | apply below_alloc | apply pw_below_drewN | apply below_drew1) | exact HB.out)⟩⟩
      · rw [if_neg c22] at H
        have c22b0 : (t780 != t784) = false := by simpa using c22
        (try (have c22b1 : decide (t780 = t784) = true := by simpa using c22))
        (try (have c22b2 : (t780 == t784) = true := by simpa using c22))
        clear c22
        (first | rw [c22b0] | (simp only [i64_w, i32_w]; rw [c22b0]) | skip)
        replace H := Option.bind_eq_some_iff.mp H
        obtain ⟨t795, A230, H⟩ := H
        replace H : (if t795 = true then (if (t788 != t790) = true then (laws_FnLongCars.j0 k l1 t773 t774 t779 t780 true) else (if (t787 != t789) = true then (laws_FnLongCars.j0 k l1 t773 t774 t779 t780 true) else (if (t792 != t794) = true then (laws_FnLongCars.j0 k l1 t773 t774 t779 t780 true) else (if t791 = t793 then (if (t780 != t787) = true then (laws_FnLongCars.j0 k l1 t773 t774 t779 t780 true) else (if t788 = true then (laws_FnLongCars.j0 k l1 t773 t774 t779 t780 (t792 != (!t787))) else (laws_FnLongCars.j0 k l1 t773 t774 t779 t780 (t792 != false)))) else (laws_FnLongCars.j0 k l1 t773 t774 t779 t780 true))))) else (laws_FnLongCars.j0 k l1 t773 t774 t779 t780 true)) = some r := H
        have A23 := Aside0.mk A230
        clear A230
        by_cases c24 : t795 = true
        · subst c24
          have H1 : (if (t788 != t790) = true then (laws_FnLongCars.j0 k l1 t773 t774 t779 t780 true) else (if (t787 != t789) = true then (laws_FnLongCars.j0 k l1 t773 t774 t779 t780 true) else (if (t792 != t794) = true then (laws_FnLongCars.j0 k l1 t773 t774 t779 t780 true) else (if t791 = t793 then (if (t780 != t787) = true then (laws_FnLongCars.j0 k l1 t773 t774 t779 t780 true) else (if t788 = true then (laws_FnLongCars.j0 k l1 t773 t774 t779 t780 (t792 != (!t787))) else (laws_FnLongCars.j0 k l1 t773 t774 t779 t780 (t792 != false)))) else (laws_FnLongCars.j0 k l1 t773 t774 t779 t780 true))))) = some r := by rw [if_pos rfl] at H; exact H
          clear H
          have H := H1
          clear H1
          by_cases c25 : (t788 != t790) = true
          · rw [if_pos c25] at H
            have c25b0 : (t788 != t790) = true := c25
            (try (have c25b1 : decide (t788 = t790) = false := by simpa using c25))
            (try (have c25b2 : (t788 == t790) = false := by simpa using c25))
            (try (have c25b3 : ¬ (t788 = t790) := by simpa using c25))
            clear c25
            have H' := Aside0.mk H
            clear H
            obtain ⟨Ao26, co26, eo26⟩ := Kd.R_slice HO782.out
            subst eo26
            obtain ⟨Ao27, co27, eo27⟩ := Kd.R_slice HO786.out
            subst eo27
            go_wp2_with (first | (go_at_call 34; (with_reducible refine (laws_jSame.calls k _ _ t779 _ _ t783 true _ ?side1 ?side2 ?side3 ?side4 A23.out).mono ?_); (case side1 => repeat (first | exact (Kd.R_reads' HO782.out).2.2 | (with_reducible refine Kd.C_alloc ?_ _) | (with_reducible refine Kd.C_drewN ?_ _) | (with_reducible refine Kd.C_drew ?_))); (case side2 => exact (Kd.R_reads' HO782.out).2.1); (case side3 => repeat (first | exact (Kd.R_reads' HO786.out).2.2 | (with_reducible refine Kd.C_alloc ?_ _) | (with_reducible refine Kd.C_drewN ?_ _) | (with_reducible refine Kd.C_drew ?_))); (case side4 => exact (Kd.R_reads' HO786.out).2.1); rintro e w' ⟨rfl, ⟨nd, rfl⟩⟩))
            go_meet
            case rel => exact ⟨_, (true), (by first | rfl | (simp; done) | (simp [*]; done)), H', ⟨by first | omega | exact Nat.le_refl _⟩, ⟨by (with_reducible repeat (first | apply Kd.R_alloc | apply Kd.R_drewN | apply Kd.R_drew)); exact Kd.R_mono HO776.out (fun _ hk => ⟨hk.1.1, hk.1.2⟩)⟩, ⟨by (with_reducible repeat (first | apply Kd.R_alloc | apply Kd.R_drewN | apply Kd.R_drew)); exact Kd.R_mono HO778.out (fun _ hk => ⟨hk.1.1, hk.1.2⟩)⟩, ⟨by (with_reducible repeat (first | apply Kd.R_alloc | apply Kd.R_drewN | apply Kd.R_drew)); exact Kd.R_mono HO782.out (fun _ hk => ⟨hk.1.1.2, hk.1.2⟩)⟩, ⟨by repeat (first | (with_reducible first | exact HB.out | apply below_alloc | apply pw_below_drewN | apply below_drew1) | exact HB.out)⟩⟩
          · rw [if_neg c25] at H
            have c25b0 : (t788 != t790) = false := by simpa using c25
            (try (have c25b1 : decide (t788 = t790) = true := by simpa using c25))
            (try (have c25b2 : (t788 == t790) = true := by simpa using c25))
            clear c25
            by_cases c28 : (t787 != t789) = true
            · rw [if_pos c28] at H
              have c28b0 : (t787 != t789) = true := c28
              (try (have c28b1 : decide (t787 = t789) = false := by simpa using c28))
              (try (have c28b2 : (t787 == t789) = false := by simpa using c28))
              (try (have c28b3 : ¬ (t787 = t789) := by simpa using c28))
              clear c28
              have H' := Aside0.mk H
              clear H
              obtain ⟨Ao29, co29, eo29⟩ := Kd.R_slice HO782.out
              subst eo29
              obtain ⟨Ao30, co30, eo30⟩ := Kd.R_slice HO786.out
              subst eo30
              go_wp2_with (first | (go_at_call 34; (with_reducible refine (laws_jSame.calls k _ _ t779 _ _ t783 true _ ?side1 ?side2 ?side3 ?side4 A23.out).mono ?_); (case side1 => repeat (first | exact (Kd.R_reads' HO782.out).2.2 | (with_reducible refine Kd.C_alloc ?_ _) | (with_reducible refine Kd.C_drewN ?_ _) | (with_reducible refine Kd.C_drew ?_))); (case side2 => exact (Kd.R_reads' HO782.out).2.1); (case side3 => repeat (first | exact (Kd.R_reads' HO786.out).2.2 | (with_reducible refine Kd.C_alloc ?_ _) | (with_reducible refine Kd.C_drewN ?_ _) | (with_reducible refine Kd.C_drew ?_))); (case side4 => exact (Kd.R_reads' HO786.out).2.1); rintro e w' ⟨rfl, ⟨nd, rfl⟩⟩))
              go_meet
              case rel => exact ⟨_, (true), (by first | rfl | (simp; done) | (simp [*]; done)), H', ⟨by first | omega | exact Nat.le_refl _⟩, ⟨by (with_reducible repeat (first | apply Kd.R_alloc | apply Kd.R_drewN | apply Kd.R_drew)); exact Kd.R_mono HO776.out (fun _ hk => ⟨hk.1.1, hk.1.2⟩)⟩, ⟨by (with_reducible repeat (first | apply Kd.R_alloc | apply Kd.R_drewN | apply Kd.R_drew)); exact Kd.R_mono HO778.out (fun _ hk => ⟨hk.1.1, hk.1.2⟩)⟩, ⟨by (with_reducible repeat (first | apply Kd.R_alloc | apply Kd.R_drewN | apply Kd.R_drew)); exact Kd.R_mono HO782.out (fun _ hk => ⟨hk.1.1.2, hk.1.2⟩)⟩, ⟨by repeat (first | (with_reducible first | exact HB.out | apply below_alloc | apply pw_below_drewN | apply below_drew1) | exact HB.out)⟩⟩
            · rw [if_neg c28] at H
              have c28b0 : (t787 != t789) = false := by simpa using c28
              (try (have c28b1 : decide (t787 = t789) = true := by simpa using c28))
              (try (have c28b2 : (t787 == t789) = true := by simpa using c28))
              clear c28
              by_cases c31 : (t792 != t794) = true
              · rw [if_pos c31] at H
                have c31b0 : (t792 != t794) = true := c31
                (try (have c31b1 : decide (t792 = t794) = false := by simpa using c31))
                (try (have c31b2 : (t792 == t794) = false := by simpa using c31))
                (try (have c31b3 : ¬ (t792 = t794) := by simpa using c31))
                clear c31
                have H' := Aside0.mk H
                clear H
                obtain ⟨Ao32, co32, eo32⟩ := Kd.R_slice HO782.out
                subst eo32
                obtain ⟨Ao33, co33, eo33⟩ := Kd.R_slice HO786.out
                subst eo33
                go_wp2_with (first | (go_at_call 34; (with_reducible refine (laws_jSame.calls k _ _ t779 _ _ t783 true _ ?side1 ?side2 ?side3 ?side4 A23.out).mono ?_); (case side1 => repeat (first | exact (Kd.R_reads' HO782.out).2.2 | (with_reducible refine Kd.C_alloc ?_ _) | (with_reducible refine Kd.C_drewN ?_ _) | (with_reducible refine Kd.C_drew ?_))); (case side2 => exact (Kd.R_reads' HO782.out).2.1); (case side3 => repeat (first | exact (Kd.R_reads' HO786.out).2.2 | (with_reducible refine Kd.C_alloc ?_ _) | (with_reducible refine Kd.C_drewN ?_ _) | (with_reducible refine Kd.C_drew ?_))); (case side4 => exact (Kd.R_reads' HO786.out).2.1); rintro e w' ⟨rfl, ⟨nd, rfl⟩⟩))
                go_meet
                case rel => exact ⟨_, (true), (by first | rfl | (simp; done) | (simp [*]; done)), H', ⟨by first | omega | exact Nat.le_refl _⟩, ⟨by (with_reducible repeat (first | apply Kd.R_alloc | apply Kd.R_drewN | apply Kd.R_drew)); exact Kd.R_mono HO776.out (fun _ hk => ⟨hk.1.1, hk.1.2⟩)⟩, ⟨by (with_reducible repeat (first | apply Kd.R_alloc | apply Kd.R_drewN | apply Kd.R_drew)); exact Kd.R_mono HO778.out (fun _ hk => ⟨hk.1.1, hk.1.2⟩)⟩, ⟨by (with_reducible repeat (first | apply Kd.R_alloc | apply Kd.R_drewN | apply Kd.R_drew)); exact Kd.R_mono HO782.out (fun _ hk => ⟨hk.1.1.2, hk.1.2⟩)⟩, ⟨by repeat (first | (with_reducible first | exact HB.out | apply below_alloc | apply pw_below_drewN | apply below_drew1) | exact HB.out)⟩⟩
              · rw [if_neg c31] at H
                have c31b0 : (t792 != t794) = false := by simpa using c31
                (try (have c31b1 : decide (t792 = t794) = true := by simpa using c31))
                (try (have c31b2 : (t792 == t794) = true := by simpa using c31))
                clear c31
                by_cases c34 : t791 = t793
                · rw [if_pos c34] at H
                  have c34b0 : (t791 == t793) = true := beq_iff_eq.mpr c34
                  have c34b1 : (t791 != t793) = false := bne_eq_false_iff_eq.mpr c34
                  clear c34
                  by_cases c35 : (t780 != t787) = true
                  · rw [if_pos c35] at H
                    have c35b0 : (t780 != t787) = true := c35
                    (try (have c35b1 : decide (t780 = t787) = false := by simpa using c35))
                    (try (have c35b2 : (t780 == t787) = false := by simpa using c35))
                    (try (have c35b3 : ¬ (t780 = t787) := by simpa using c35))
                    clear c35
                    have H' := Aside0.mk H
                    clear H
                    obtain ⟨Ao36, co36, eo36⟩ := Kd.R_slice HO782.out
                    subst eo36
                    obtain ⟨Ao37, co37, eo37⟩ := Kd.R_slice HO786.out
                    subst eo37
                    go_wp2_with (first | (go_at_call 34; (with_reducible refine (laws_jSame.calls k _ _ t779 _ _ t783 true _ ?side1 ?side2 ?side3 ?side4 A23.out).mono ?_); (case side1 => repeat (first | exact (Kd.R_reads' HO782.out).2.2 | (with_reducible refine Kd.C_alloc ?_ _) | (with_reducible refine Kd.C_drewN ?_ _) | (with_reducible refine Kd.C_drew ?_))); (case side2 => exact (Kd.R_reads' HO782.out).2.1); (case side3 => repeat (first | exact (Kd.R_reads' HO786.out).2.2 | (with_reducible refine Kd.C_alloc ?_ _) | (with_reducible refine Kd.C_drewN ?_ _) | (with_reducible refine Kd.C_drew ?_))); (case side4 => exact (Kd.R_reads' HO786.out).2.1); rintro e w' ⟨rfl, ⟨nd, rfl⟩⟩))
                    go_meet
                    case rel => exact ⟨_, (true), (by first | rfl | (simp; done) | (simp [*]; done)), H', ⟨by first | omega | exact Nat.le_refl _⟩, ⟨by (with_reducible repeat (first | apply Kd.R_alloc | apply Kd.R_drewN | apply Kd.R_drew)); exact Kd.R_mono HO776.out (fun _ hk => ⟨hk.1.1, hk.1.2⟩)⟩, ⟨by (with_reducible repeat (first | apply Kd.R_alloc | apply Kd.R_drewN | apply Kd.R_drew)); exact Kd.R_mono HO778.out (fun _ hk => ⟨hk.1.1, hk.1.2⟩)⟩, ⟨by (with_reducible repeat (first | apply Kd.R_alloc | apply Kd.R_drewN | apply Kd.R_drew)); exact Kd.R_mono HO782.out (fun _ hk => ⟨hk.1.1.2, hk.1.2⟩)⟩, ⟨by repeat (first | (with_reducible first | exact HB.out | apply below_alloc | apply pw_below_drewN | apply below_drew1) | exact HB.out)⟩⟩
                  · rw [if_neg c35] at H
                    have c35b0 : (t780 != t787) = false := by simpa using c35
                    (try (have c35b1 : decide (t780 = t787) = true := by simpa using c35))
                    (try (have c35b2 : (t780 == t787) = true := by simpa using c35))
                    clear c35
                    by_cases c38 : t788 = true
                    · subst c38
                      have H1 : (laws_FnLongCars.j0 k l1 t773 t774 t779 t780 (t792 != (!t787))) = some r := by rw [if_pos rfl] at H; exact H
                      clear H
                      have H := H1
                      clear H1
                      have H' := Aside0.mk H
                      clear H
                      obtain ⟨Ao39, co39, eo39⟩ := Kd.R_slice HO782.out
                      subst eo39
                      obtain ⟨Ao40, co40, eo40⟩ := Kd.R_slice HO786.out
                      subst eo40
                      go_wp2_with (first | (go_at_call 34; (with_reducible refine (laws_jSame.calls k _ _ t779 _ _ t783 true _ ?side1 ?side2 ?side3 ?side4 A23.out).mono ?_); (case side1 => repeat (first | exact (Kd.R_reads' HO782.out).2.2 | (with_reducible refine Kd.C_alloc ?_ _) | (with_reducible refine Kd.C_drewN ?_ _) | (with_reducible refine Kd.C_drew ?_))); (case side2 => exact (Kd.R_reads' HO782.out).2.1); (case side3 => repeat (first | exact (Kd.R_reads' HO786.out).2.2 | (with_reducible refine Kd.C_alloc ?_ _) | (with_reducible refine Kd.C_drewN ?_ _) | (with_reducible refine Kd.C_drew ?_))); (case side4 => exact (Kd.R_reads' HO786.out).2.1); rintro e w' ⟨rfl, ⟨nd, rfl⟩⟩))
                      go_meet
                      case rel => exact ⟨_, ((t792 != (!t787))), (by first | rfl | (simp; done) | (simp [*]; done)), H', ⟨by first | omega | exact Nat.le_refl _⟩, ⟨by (with_reducible repeat (first | apply Kd.R_alloc | apply Kd.R_drewN | apply Kd.R_drew)); exact Kd.R_mono HO776.out (fun _ hk => ⟨hk.1.1, hk.1.2⟩)⟩, ⟨by (with_reducible repeat (first | apply Kd.R_alloc | apply Kd.R_drewN | apply Kd.R_drew)); exact Kd.R_mono HO778.out (fun _ hk => ⟨hk.1.1, hk.1.2⟩)⟩, ⟨by (with_reducible repeat (first | apply Kd.R_alloc | apply Kd.R_drewN | apply Kd.R_drew)); exact Kd.R_mono HO782.out (fun _ hk => ⟨hk.1.1.2, hk.1.2⟩)⟩, ⟨by repeat (first | (with_reducible first | exact HB.out | apply below_alloc | apply pw_below_drewN | apply below_drew1) | exact HB.out)⟩⟩
                    · replace c38 := Bool.eq_false_iff.mpr c38
                      subst c38
                      have H1 : (laws_FnLongCars.j0 k l1 t773 t774 t779 t780 (t792 != false)) = some r := by rw [if_neg (show ¬ (false = true) by decide)] at H; exact H
                      clear H
                      have H := H1
                      clear H1
                      have H' := Aside0.mk H
                      clear H
                      obtain ⟨Ao41, co41, eo41⟩ := Kd.R_slice HO782.out
                      subst eo41
                      obtain ⟨Ao42, co42, eo42⟩ := Kd.R_slice HO786.out
                      subst eo42
                      go_wp2_with (first | (go_at_call 34; (with_reducible refine (laws_jSame.calls k _ _ t779 _ _ t783 true _ ?side1 ?side2 ?side3 ?side4 A23.out).mono ?_); (case side1 => repeat (first | exact (Kd.R_reads' HO782.out).2.2 | (with_reducible refine Kd.C_alloc ?_ _) | (with_reducible refine Kd.C_drewN ?_ _) | (with_reducible refine Kd.C_drew ?_))); (case side2 => exact (Kd.R_reads' HO782.out).2.1); (case side3 => repeat (first | exact (Kd.R_reads' HO786.out).2.2 | (with_reducible refine Kd.C_alloc ?_ _) | (with_reducible refine Kd.C_drewN ?_ _) | (with_reducible refine Kd.C_drew ?_))); (case side4 => exact (Kd.R_reads' HO786.out).2.1); rintro e w' ⟨rfl, ⟨nd, rfl⟩⟩))
                      go_meet
                      case rel => exact ⟨_, ((t792 != false)), (by first | rfl | (simp; done) | (simp [*]; done)), H', ⟨by first | omega | exact Nat.le_refl _⟩, ⟨by (with_reducible repeat (first | apply Kd.R_alloc | apply Kd.R_drewN | apply Kd.R_drew)); exact Kd.R_mono HO776.out (fun _ hk => ⟨hk.1.1, hk.1.2⟩)⟩, ⟨by (with_reducible repeat (first | apply Kd.R_alloc | apply Kd.R_drewN | apply Kd.R_drew)); exact Kd.R_mono HO778.out (fun _ hk => ⟨hk.1.1, hk.1.2⟩)⟩, ⟨by (with_reducible repeat (first | apply Kd.R_alloc | apply Kd.R_drewN | apply Kd.R_drew)); exact Kd.R_mono HO782.out (fun _ hk => ⟨hk.1.1.2, hk.1.2⟩)⟩, ⟨by repeat (first | (with_reducible first | exact HB.out | apply below_alloc | apply pw_below_drewN | apply below_drew1) | exact HB.out)⟩⟩
                · rw [if_neg c34] at H
                  have c34b0 : (t791 == t793) = false := beq_eq_false_iff_ne.mpr c34
                  have c34b1 : (t791 != t793) = true := bne_iff_ne.mpr c34
                  have H' := Aside0.mk H
                  clear H
                  obtain ⟨Ao43, co43, eo43⟩ := Kd.R_slice HO782.out
                  subst eo43
                  obtain ⟨Ao44, co44, eo44⟩ := Kd.R_slice HO786.out
                  subst eo44
                  go_wp2_with (first | (go_at_call 34; (with_reducible refine (laws_jSame.calls k _ _ t779 _ _ t783 true _ ?side1 ?side2 ?side3 ?side4 A23.out).mono ?_); (case side1 => repeat (first | exact (Kd.R_reads' HO782.out).2.2 | (with_reducible refine Kd.C_alloc ?_ _) | (with_reducible refine Kd.C_drewN ?_ _) | (with_reducible refine Kd.C_drew ?_))); (case side2 => exact (Kd.R_reads' HO782.out).2.1); (case side3 => repeat (first | exact (Kd.R_reads' HO786.out).2.2 | (with_reducible refine Kd.C_alloc ?_ _) | (with_reducible refine Kd.C_drewN ?_ _) | (with_reducible refine Kd.C_drew ?_))); (case side4 => exact (Kd.R_reads' HO786.out).2.1); rintro e w' ⟨rfl, ⟨nd, rfl⟩⟩))
                  go_meet
                  case rel => exact ⟨_, (true), (by first | rfl | (simp; done) | (simp [*]; done)), H', ⟨by first | omega | exact Nat.le_refl _⟩, ⟨by (with_reducible repeat (first | apply Kd.R_alloc | apply Kd.R_drewN | apply Kd.R_drew)); exact Kd.R_mono HO776.out (fun _ hk => ⟨hk.1.1, hk.1.2⟩)⟩, ⟨by (with_reducible repeat (first | apply Kd.R_alloc | apply Kd.R_drewN | apply Kd.R_drew)); exact Kd.R_mono HO778.out (fun _ hk => ⟨hk.1.1, hk.1.2⟩)⟩, ⟨by (with_reducible repeat (first | apply Kd.R_alloc | apply Kd.R_drewN | apply Kd.R_drew)); exact Kd.R_mono HO782.out (fun _ hk => ⟨hk.1.1.2, hk.1.2⟩)⟩, ⟨by repeat (first | (with_reducible first | exact HB.out | apply below_alloc | apply pw_below_drewN | apply below_drew1) | exact HB.out)⟩⟩
        · replace c24 := Bool.eq_false_iff.mpr c24
          subst c24
          have H1 : (laws_FnLongCars.j0 k l1 t773 t774 t779 t780 true) = some r := by rw [if_neg (show ¬ (false = true) by decide)] at H; exact H
          clear H
          have H := H1
          clear H1
          have H' := Aside0.mk H
          clear H
          obtain ⟨Ao45, co45, eo45⟩ := Kd.R_slice HO782.out
          subst eo45
          obtain ⟨Ao46, co46, eo46⟩ := Kd.R_slice HO786.out
          subst eo46
          go_wp2_with (first | (go_at_call 34; (with_reducible refine (laws_jSame.calls k _ _ t779 _ _ t783 false _ ?side1 ?side2 ?side3 ?side4 A23.out).mono ?_); (case side1 => repeat (first | exact (Kd.R_reads' HO782.out).2.2 | (with_reducible refine Kd.C_alloc ?_ _) | (with_reducible refine Kd.C_drewN ?_ _) | (with_reducible refine Kd.C_drew ?_))); (case side2 => exact (Kd.R_reads' HO782.out).2.1); (case side3 => repeat (first | exact (Kd.R_reads' HO786.out).2.2 | (with_reducible refine Kd.C_alloc ?_ _) | (with_reducible refine Kd.C_drewN ?_ _) | (with_reducible refine Kd.C_drew ?_))); (case side4 => exact (Kd.R_reads' HO786.out).2.1); rintro e w' ⟨rfl, ⟨nd, rfl⟩⟩))
          go_meet
          case rel => exact ⟨_, (true), (by first | rfl | (simp; done) | (simp [*]; done)), H', ⟨by first | omega | exact Nat.le_refl _⟩, ⟨by (with_reducible repeat (first | apply Kd.R_alloc | apply Kd.R_drewN | apply Kd.R_drew)); exact Kd.R_mono HO776.out (fun _ hk => ⟨hk.1.1, hk.1.2⟩)⟩, ⟨by (with_reducible repeat (first | apply Kd.R_alloc | apply Kd.R_drewN | apply Kd.R_drew)); exact Kd.R_mono HO778.out (fun _ hk => ⟨hk.1.1, hk.1.2⟩)⟩, ⟨by (with_reducible repeat (first | apply Kd.R_alloc | apply Kd.R_drewN | apply Kd.R_drew)); exact Kd.R_mono HO782.out (fun _ hk => ⟨hk.1.1.2, hk.1.2⟩)⟩, ⟨by repeat (first | (with_reducible first | exact HB.out | apply below_alloc | apply pw_below_drewN | apply below_drew1) | exact HB.out)⟩⟩
    case rest =>
      clear HC12
      try clear c1
      try clear c2
      try clear p2
      try clear c3
      try clear c4
      try clear c9
      try clear c11
      try clear c13
      try clear c17
      try clear c22
      try clear c22b0
      try clear c22b1
      try clear c22b2
      try clear c24
      try clear c25
      try clear c25b0
      try clear c25b1
      try clear c25b2
      try clear c28
      try clear c28b0
      try clear c28b1
      try clear c28b2
      try clear c31
      try clear c31b0
      try clear c31b1
      try clear c31b2
      try clear c34
      try clear c34b0
      try clear c34b1
      try clear c35
      try clear c35b0
      try clear c35b1
      try clear c35b2
      try clear c38
      try clear c41
      try clear c42
      try clear c43
      try clear c44
      obtain ⟨kq, x119_11, rfl, HA, HJ11, HO_5, HO_6, HO_7, HB⟩ := hcut
      cases kq with
      | zero => exact absurd HA.out (by simp [laws_FnLongCars.j0])
      | succ kj11 =>
        have H := HA.out
        clear HA
        simp only [laws_FnLongCars.j0] at H
        by_cases c47 : x119_11 = true
        · subst c47
          have H1 : (some false) = some r := by rw [if_pos rfl] at H; exact H
          clear H
          have H := H1
          clear H1
          obtain rfl := Option.some.inj H
          go_wp2
          go_ret
          exact ⟨by first | rfl | (simp [errW_none, errW_some] <;> rfl) | (simp [*, errW_none, errW_some] <;> rfl), by repeat (first | (with_reducible first | exact HB.out | apply below_alloc | apply pw_below_drewN | apply below_drew1) | exact HB.out)⟩
        · replace c47 := Bool.eq_false_iff.mpr c47
          subst c47
          have H1 : (if t780 = true then ((laws_jSum.f kj11 t774).bind fun t796 => (if 0 ≤ t796 then (if (t796 : Int).toNat ≤ 281474976710656 then (laws_FnLongCars.l0 kj11 l1 t773 t774 t779 t796 (List.replicate (t796 : Int).toNat false) true t779 (t779.length : Int) 0) else (none)) else (none))) else (laws_FnLongCars.j4 kj11 l1)) = some r := by rw [if_neg (show ¬ (false = true) by decide)] at H; exact H
          clear H
          have H := H1
          clear H1
          have HC48 := Aside0.mk H
          clear H
          go_upto_if 120 with (fail)
          go_cut [] (fun wc => ∃ (kq : Nat), Aside0 (laws_FnLongCars.j4 kq l1 = some r) ∧ Aside0 (kq ≤ kj11) ∧ Aside0 (Below w.heap.size w wc))
          case first =>
            have H := HC48.out
            clear HC48
            by_cases c49 : t780 = true
            · subst c49
              have H1 : ((laws_jSum.f kj11 t774).bind fun t796 => (if 0 ≤ t796 then (if (t796 : Int).toNat ≤ 281474976710656 then (laws_FnLongCars.l0 kj11 l1 t773 t774 t779 t796 (List.replicate (t796 : Int).toNat false) true t779 (t779.length : Int) 0) else (none)) else (none))) = some r := by rw [if_pos rfl] at H; exact H
              clear H
              have H := H1
              clear H1
              replace H := Option.bind_eq_some_iff.mp H
              obtain ⟨t796, A500, H⟩ := H
              replace H : (if 0 ≤ t796 then (if (t796 : Int).toNat ≤ 281474976710656 then (laws_FnLongCars.l0 kj11 l1 t773 t774 t779 t796 (List.replicate (t796 : Int).toNat false) true t779 (t779.length : Int) 0) else (none)) else (none)) = some r := H
              have A50 := Aside0.mk A500
              clear A500
              by_cases c51 : 0 ≤ t796
              · rw [if_pos c51] at H
                have c51b0 := eq_true c51
                have c51b1 : decide (0 ≤ t796) = true := decide_eq_true c51
                clear c51
                by_cases c52 : (t796 : Int).toNat ≤ 281474976710656
                · rw [if_pos c52] at H
                  have c52b0 := eq_true c52
                  have c52b1 : decide ((t796 : Int).toNat ≤ 281474976710656) = true := decide_eq_true c52
                  clear c52
                  obtain ⟨y797, hy797⟩ : ∃ y_ : List Bool, y_ = (List.replicate (t796 : Int).toNat false) := ⟨_, rfl⟩
                  replace H : (laws_FnLongCars.l0 kj11 l1 t773 t774 t779 t796 y797 true t779 (t779.length : Int) 0) = some r := by first | (rw [hy797]; with_reducible exact H) | (have H2_ := (Option.bind_some _ _).symm.trans H; rw [hy797]; with_reducible exact H2_) | (have H2_ := (Option.bind_some _ _).symm.trans H; with_reducible exact H2_) | with_reducible exact H | (rw [hy797]; exact H) | exact H
                  have Ny797 := Aside0.mk hy797
                  clear hy797
                  have H' := Aside0.mk H
                  clear H
                  go_wp2_with (first | ((with_reducible refine gate_callee (f := 21) rfl ?_); refine goesL_ (some 122) rfl rfl Try.func21 (by kernel_rfl) rfl #[.slice Ao15 t774.length co15] rfl (by (try simp only [List.map_toArray, List.map_cons, List.map_nil]); first | done | rfl | (simp only [List.length_drop, List.length_take]; rfl)) ?_; (with_reducible refine (laws_jSum.calls kj11 _ _ t774 t796 _ ?side1 ?side2 A50.out).mono ?_); (case side1 => repeat (first | exact (Kd.R_reads' HO_6.out).2.2 | (with_reducible refine Kd.C_alloc ?_ _) | (with_reducible refine Kd.C_drewN ?_ _) | (with_reducible refine Kd.C_drew ?_))); (case side2 => exact (Kd.R_reads' HO_6.out).2.1); rintro e w' ⟨rfl, ⟨nd, rfl⟩⟩; refine ⟨_, rfl, ?_⟩) | ((with_reducible refine gate_dst (N := 124) rfl ?_); refine Kd.R_make Kd.bool _ 4 rfl (N := 124) rfl 53 _ _ rfl t796 rfl rfl Try.underlying53 (.bool false) 1 info4 rfl (by decide) (by omega) false (ok := fun _ => True) (okp := fun _ => True) rfl (fun _ hk => hk) trivial (of_decide_eq_true (by first | (with_reducible assumption) | assumption)) (Nat.le_trans (Nat.mul_le_mul_right _ (of_decide_eq_true (by first | (with_reducible assumption) | assumption) : t796.toNat ≤ 281474976710656)) (by omega)) (Below.refl _ _) (Nat.le_refl _) ?_; intro v798 w53 ho54 hb hg_ hnew_; clear hg_ hnew_; (first | rw [← Ny797.out] at ho54 | (simp only [Int.reduceToNat] at ho54; rw [← Ny797.out] at ho54)); have n0_ := Aside0.mk (Kd.R_below (by (with_reducible repeat (first | apply Kd.R_alloc | apply Kd.R_drewN | apply Kd.R_drew)); exact HO_5.out) hb); have n1_ := Aside0.mk (Kd.R_below (by (with_reducible repeat (first | apply Kd.R_alloc | apply Kd.R_drewN | apply Kd.R_drew)); exact HO_6.out) hb); have n2_ := Aside0.mk (Kd.R_below (by (with_reducible repeat (first | apply Kd.R_alloc | apply Kd.R_drewN | apply Kd.R_drew)); exact HO_7.out) hb); have n3_ := Aside0.mk (Kd.R_lower ho54 (below_size (by repeat (first | (with_reducible first | exact HB.out | apply below_alloc | apply pw_below_drewN | apply below_drew1) | exact HB.out)))); have n4_ := Aside0.mk (below_step (by repeat (first | (with_reducible first | exact HB.out | apply below_alloc | apply pw_below_drewN | apply below_drew1) | exact HB.out)) hb); clear HO_5; clear HO_6; clear HO_7; clear HB; have HO_5 := n0_; have HO_6 := n1_; have HO_7 := n2_; have HO799 := n3_; have HB := n4_; clear n0_ n1_ n2_ n3_ n4_; clear hb ho54; obtain ⟨Ao55, co55, eo55⟩ := Kd.R_slice HO_7.out; subst eo55))
                  go_loopg [21, 127] kj11 (fun kq v21 v127 w' => ∃ (x20_2 : List Bool) (x21_2 : Bool) (x127_2 : Int), v21 = .bool x21_2 ∧ v127 = .int .i64 x127_2 ∧ Aside0 (laws_FnLongCars.l0 kq l1 t773 t774 t779 t796 x20_2 x21_2 t779 (t779.length : Int) x127_2 = some r) ∧ Aside0 (kq ≤ kj11) ∧ Aside0 (Kd.R (Kd.int .i64) 3 w' w.heap.size (fun k_ => some k_ ≠ ((.slice Ao15 t774.length co15) : Value).ownBlock ∧ some k_ ≠ ((.slice Ao55 t779.length co55) : Value).ownBlock ∧ some k_ ≠ ((.slice Ao55 t779.length co55) : Value).ownBlock) (.slice Ao14 t773.length co14) t773) ∧ Aside0 (Kd.R (Kd.int .i64) 3 w' w.heap.size (fun k_ => some k_ ≠ ((.slice Ao14 t773.length co14) : Value).ownBlock ∧ some k_ ≠ ((.slice Ao55 t779.length co55) : Value).ownBlock ∧ some k_ ≠ ((.slice Ao55 t779.length co55) : Value).ownBlock) (.slice Ao15 t774.length co15) t774) ∧ Aside0 (Kd.R (Kd.int .i64) 3 w' w.heap.size (fun k_ => some k_ ≠ ((.slice Ao14 t773.length co14) : Value).ownBlock ∧ some k_ ≠ ((.slice Ao15 t774.length co15) : Value).ownBlock) (.slice Ao55 t779.length co55) t779) ∧ Aside0 (Kd.R Kd.bool 4 w' w.heap.size (fun _ => True) v798 x20_2) ∧ Aside0 (Kd.R (Kd.int .i64) 3 w' w.heap.size (fun k_ => some k_ ≠ ((.slice Ao14 t773.length co14) : Value).ownBlock ∧ some k_ ≠ ((.slice Ao15 t774.length co15) : Value).ownBlock) (.slice Ao55 t779.length co55) t779) ∧ Aside0 (Below w.heap.size w w'))
                  case atStart => exact ⟨(y797), (true), (0), (by first | rfl | (simp; done) | (simp [*]; done)), (by first | rfl | (simp; done) | (simp [*]; done)), H', ⟨Nat.le_refl _⟩, ⟨by (with_reducible repeat (first | apply Kd.R_alloc | apply Kd.R_drewN | apply Kd.R_drew)); exact Kd.R_mono HO_5.out (fun _ hk => ⟨hk.1, ⟨hk.2, hk.2⟩⟩)⟩, ⟨by (with_reducible repeat (first | apply Kd.R_alloc | apply Kd.R_drewN | apply Kd.R_drew)); exact Kd.R_mono HO_6.out (fun _ hk => ⟨hk.1, ⟨hk.2, hk.2⟩⟩)⟩, ⟨by (with_reducible repeat (first | apply Kd.R_alloc | apply Kd.R_drewN | apply Kd.R_drew)); exact HO_7.out⟩, ⟨by (with_reducible repeat (first | apply Kd.R_alloc | apply Kd.R_drewN | apply Kd.R_drew)); exact HO799.out⟩, ⟨by (with_reducible repeat (first | apply Kd.R_alloc | apply Kd.R_drewN | apply Kd.R_drew)); exact HO_7.out⟩, ⟨by repeat (first | (with_reducible first | exact HB.out | apply below_alloc | apply pw_below_drewN | apply below_drew1) | exact HB.out)⟩⟩
                  case round =>
                    clear H'
                    try clear c1
                    try clear c2
                    try clear p2
                    try clear c3
                    try clear c4
                    try clear c5
                    try clear c9
                    try clear c11
                    try clear c13
                    try clear c17
                    try clear c21
                    try clear c22
                    try clear c22b0
                    try clear c22b1
                    try clear c22b2
                    try clear c24
                    try clear c25
                    try clear c25b0
                    try clear c25b1
                    try clear c25b2
                    try clear c28
                    try clear c28b0
                    try clear c28b1
                    try clear c28b2
                    try clear c31
                    try clear c31b0
                    try clear c31b1
                    try clear c31b2
                    try clear c34
                    try clear c34b0
                    try clear c34b1
                    try clear c35
                    try clear c35b0
                    try clear c35b1
                    try clear c35b2
                    try clear c38
                    try clear c41
                    try clear c42
                    try clear c43
                    try clear c44
                    try clear c47
                    try clear c49
                    try clear c51
                    try clear c51b0
                    try clear c51b1
                    try clear c52
                    try clear c52b0
                    try clear c52b1
                    try clear p2
                    obtain ⟨x20_2, x21_2, x127_2, rfl, rfl, HA, HK2, HO_5, HO_6, HO_7, HO_20, HO_125, HB⟩ := hrel
                    cases gk with
                    | zero => exact absurd HA.out (by simp [laws_FnLongCars.l0])
                    | succ k2 =>
                      have H := HA.out
                      clear HA
                      simp only [laws_FnLongCars.l0] at H
                      by_cases c56 : x127_2 < (t779.length : Int)
                      · rw [if_pos c56] at H
                        have c56b0 : decide (x127_2 < (t779.length : Int)) = true := decide_eq_true c56
                        clear c56
                        (first | rw [c56b0] | (simp only [i64_w, i32_w]; rw [c56b0]) | skip)
                        by_cases c57 : 0 ≤ x127_2
                        · rw [if_pos c57] at H
                          have c57b0 : decide (0 ≤ x127_2) = true := decide_eq_true c57
                          clear c57
                          by_cases c58 : x127_2 < (t779.length : Int)
                          · rw [if_pos c58] at H
                            have c58b0 : decide (x127_2 < (t779.length : Int)) = true := decide_eq_true c58
                            clear c58
                            have HC59 := Aside0.mk H
                            clear H
                            have p800 : 0 ≤ (x127_2 : Int) := of_decide_eq_true (by first | (with_reducible assumption) | assumption)
                            have q800 : x127_2 < (t779.length : Int) := of_decide_eq_true (by first | (with_reducible assumption) | assumption)
                            obtain ⟨ad800, e800, hx800_0⟩ := Kd.at_int (Kd.R_reads' HO_125.out).2.2 x127_2 p800 q800
                            cases e800
                            replace p800 := eq_true p800
                            replace q800 := eq_true q800
                            go_upto_region 19 with (fail)
                            go_cut [21] (fun v21 wc => ∃ (kq : Nat) (x21_58 : Bool), v21 = .bool x21_58 ∧ Aside0 (laws_FnLongCars.j2 kq l1 t773 t774 t779 t796 x20_2 x21_58 x127_2 (rd t779 x127_2) t779 (t779.length : Int) x127_2 = some r) ∧ Aside0 (kq ≤ k2) ∧ Aside0 (Kd.R (Kd.int .i64) 3 wc w.heap.size (fun k_ => some k_ ≠ ((.slice Ao15 t774.length co15) : Value).ownBlock ∧ some k_ ≠ ((.slice (some ad800) t779.length co55) : Value).ownBlock ∧ some k_ ≠ ((.slice (some ad800) t779.length co55) : Value).ownBlock) (.slice Ao14 t773.length co14) t773) ∧ Aside0 (Kd.R (Kd.int .i64) 3 wc w.heap.size (fun k_ => some k_ ≠ ((.slice Ao14 t773.length co14) : Value).ownBlock ∧ some k_ ≠ ((.slice (some ad800) t779.length co55) : Value).ownBlock ∧ some k_ ≠ ((.slice (some ad800) t779.length co55) : Value).ownBlock) (.slice Ao15 t774.length co15) t774) ∧ Aside0 (Kd.R (Kd.int .i64) 3 wc w.heap.size (fun k_ => some k_ ≠ ((.slice Ao14 t773.length co14) : Value).ownBlock ∧ some k_ ≠ ((.slice Ao15 t774.length co15) : Value).ownBlock) (.slice (some ad800) t779.length co55) t779) ∧ Aside0 (Kd.R Kd.bool 4 wc w.heap.size (fun _ => True) v798 x20_2) ∧ Aside0 (Kd.R (Kd.int .i64) 3 wc w.heap.size (fun k_ => some k_ ≠ ((.slice Ao14 t773.length co14) : Value).ownBlock ∧ some k_ ≠ ((.slice Ao15 t774.length co15) : Value).ownBlock) (.slice (some ad800) t779.length co55) t779) ∧ Aside0 (Below w.heap.size w wc))
                            case first =>
                              have H := HC59.out
                              clear HC59
                              by_cases c60 : x21_2 = true
                              · subst c60
                                have H1 : (if x127_2 < (t774.length : Int) then (laws_FnLongCars.j2 k2 l1 t773 t774 t779 t796 x20_2 ((rd t774 x127_2) == 1) x127_2 (rd t779 x127_2) t779 (t779.length : Int) x127_2) else (none)) = some r := by rw [if_pos rfl] at H; exact H
                                clear H
                                have H := H1
                                clear H1
                                by_cases c61 : x127_2 < (t774.length : Int)
                                · rw [if_pos c61] at H
                                  have c61b0 : decide (x127_2 < (t774.length : Int)) = true := decide_eq_true c61
                                  clear c61
                                  (first | rw [c61b0] | (simp only [i64_w, i32_w]; rw [c61b0]) | skip)
                                  have H' := Aside0.mk H
                                  clear H
                                  have p801 : 0 ≤ (x127_2 : Int) := of_decide_eq_true (by first | (with_reducible assumption) | assumption)
                                  have q801 : x127_2 < (t774.length : Int) := of_decide_eq_true (by first | (with_reducible assumption) | assumption)
                                  obtain ⟨ad801, e801, hx801_0⟩ := Kd.at_int (Kd.R_reads' HO_6.out).2.2 x127_2 p801 q801
                                  cases e801
                                  replace p801 := eq_true p801
                                  replace q801 := eq_true q801
                                  go_wp2
                                  go_meet
                                  case rel => exact ⟨_, (((rd t774 x127_2) == 1)), (by first | rfl | (simp; done) | (simp [*]; done)), H', ⟨by have := HJ11.out; have := HK2.out; first | omega | exact Nat.le_refl _⟩, ⟨by (with_reducible repeat (first | apply Kd.R_alloc | apply Kd.R_drewN | apply Kd.R_drew)); exact HO_5.out⟩, ⟨by (with_reducible repeat (first | apply Kd.R_alloc | apply Kd.R_drewN | apply Kd.R_drew)); exact HO_6.out⟩, ⟨by (with_reducible repeat (first | apply Kd.R_alloc | apply Kd.R_drewN | apply Kd.R_drew)); exact HO_7.out⟩, ⟨by (with_reducible repeat (first | apply Kd.R_alloc | apply Kd.R_drewN | apply Kd.R_drew)); exact HO_20.out⟩, ⟨by (with_reducible repeat (first | apply Kd.R_alloc | apply Kd.R_drewN | apply Kd.R_drew)); exact HO_125.out⟩, ⟨by repeat (first | (with_reducible first | exact HB.out | apply below_alloc | apply pw_below_drewN | apply below_drew1) | exact HB.out)⟩⟩
                                · rw [if_neg c61] at H
                                  exact absurd H (by simp)
                              · replace c60 := Bool.eq_false_iff.mpr c60
                                subst c60
                                have H1 : (laws_FnLongCars.j2 k2 l1 t773 t774 t779 t796 x20_2 false x127_2 (rd t779 x127_2) t779 (t779.length : Int) x127_2) = some r := by rw [if_neg (show ¬ (false = true) by decide)] at H; exact H
                                clear H
                                have H := H1
                                clear H1
                                have H' := Aside0.mk H
                                clear H
                                go_wp2
                                go_meet
                                case rel => exact ⟨_, (false), (by first | rfl | (simp; done) | (simp [*]; done)), H', ⟨by have := HJ11.out; have := HK2.out; first | omega | exact Nat.le_refl _⟩, ⟨by (with_reducible repeat (first | apply Kd.R_alloc | apply Kd.R_drewN | apply Kd.R_drew)); exact HO_5.out⟩, ⟨by (with_reducible repeat (first | apply Kd.R_alloc | apply Kd.R_drewN | apply Kd.R_drew)); exact HO_6.out⟩, ⟨by (with_reducible repeat (first | apply Kd.R_alloc | apply Kd.R_drewN | apply Kd.R_drew)); exact HO_7.out⟩, ⟨by (with_reducible repeat (first | apply Kd.R_alloc | apply Kd.R_drewN | apply Kd.R_drew)); exact HO_20.out⟩, ⟨by (with_reducible repeat (first | apply Kd.R_alloc | apply Kd.R_drewN | apply Kd.R_drew)); exact HO_125.out⟩, ⟨by repeat (first | (with_reducible first | exact HB.out | apply below_alloc | apply pw_below_drewN | apply below_drew1) | exact HB.out)⟩⟩
                            case rest =>
                              clear HC59
                              try clear c1
                              try clear c2
                              try clear p2
                              try clear c3
                              try clear c4
                              try clear c5
                              try clear c6
                              try clear p8
                              try clear q8
                              try clear hx8
                              try clear c9
                              try clear c11
                              try clear c13
                              try clear c17
                              try clear c21
                              try clear c22
                              try clear c22b0
                              try clear c22b1
                              try clear c22b2
                              try clear c24
                              try clear c25
                              try clear c25b0
                              try clear c25b1
                              try clear c25b2
                              try clear c28
                              try clear c28b0
                              try clear c28b1
                              try clear c28b2
                              try clear c31
                              try clear c31b0
                              try clear c31b1
                              try clear c31b2
                              try clear c34
                              try clear c34b0
                              try clear c34b1
                              try clear c35
                              try clear c35b0
                              try clear c35b1
                              try clear c35b2
                              try clear c38
                              try clear c41
                              try clear c42
                              try clear c43
                              try clear c44
                              try clear c47
                              try clear c49
                              try clear c51
                              try clear c51b0
                              try clear c51b1
                              try clear c52
                              try clear c52b0
                              try clear c52b1
                              try clear c56
                              try clear c56b0
                              try clear c57
                              try clear c57b0
                              try clear c58
                              try clear c58b0
                              try clear c60
                              try clear c61
                              try clear c61b0
                              try clear hx800_0
                              try clear hx801_0
                              try clear p2
                              try clear p800
                              try clear p801
                              try clear q800
                              try clear q801
                              obtain ⟨kq, x21_58, rfl, HA, HJ58, HO_5, HO_6, HO_7, HO_20, HO_125, HB⟩ := hcut
                              cases kq with
                              | zero => exact absurd HA.out (by simp [laws_FnLongCars.j2])
                              | succ kj58 =>
                                have H := HA.out
                                clear HA
                                simp only [laws_FnLongCars.j2] at H
                                have H' := Aside0.mk H
                                clear H
                                go_wp2
                                go_loopg [24] kj58 (fun kq v24 w' => ∃ (x20_4 : List Bool) (x24_4 : Int), v24 = .int .i64 x24_4 ∧ Aside0 (laws_FnLongCars.l1 kq l1 t773 t774 t779 t796 x20_4 x21_58 x127_2 (rd t779 x127_2) x24_4 t779 (t779.length : Int) x127_2 = some r) ∧ Aside0 (kq ≤ kj58) ∧ Aside0 (Kd.R (Kd.int .i64) 3 w' w.heap.size (fun k_ => some k_ ≠ ((.slice Ao15 t774.length co15) : Value).ownBlock ∧ some k_ ≠ ((.slice (some ad800) t779.length co55) : Value).ownBlock ∧ some k_ ≠ ((.slice (some ad800) t779.length co55) : Value).ownBlock) (.slice Ao14 t773.length co14) t773) ∧ Aside0 (Kd.R (Kd.int .i64) 3 w' w.heap.size (fun k_ => some k_ ≠ ((.slice Ao14 t773.length co14) : Value).ownBlock ∧ some k_ ≠ ((.slice (some ad800) t779.length co55) : Value).ownBlock ∧ some k_ ≠ ((.slice (some ad800) t779.length co55) : Value).ownBlock) (.slice Ao15 t774.length co15) t774) ∧ Aside0 (Kd.R (Kd.int .i64) 3 w' w.heap.size (fun k_ => some k_ ≠ ((.slice Ao14 t773.length co14) : Value).ownBlock ∧ some k_ ≠ ((.slice Ao15 t774.length co15) : Value).ownBlock) (.slice (some ad800) t779.length co55) t779) ∧ Aside0 (Kd.R Kd.bool 4 w' w.heap.size (fun _ => True) v798 x20_4) ∧ Aside0 (Kd.R (Kd.int .i64) 3 w' w.heap.size (fun k_ => some k_ ≠ ((.slice Ao14 t773.length co14) : Value).ownBlock ∧ some k_ ≠ ((.slice Ao15 t774.length co15) : Value).ownBlock) (.slice (some ad800) t779.length co55) t779) ∧ Aside0 (Below w.heap.size w w'))
                                case atStart => exact ⟨(x20_2), ((rd t779 x127_2)), (by first | rfl | (simp; done) | (simp [*]; done)), H', ⟨Nat.le_refl _⟩, ⟨by (with_reducible repeat (first | apply Kd.R_alloc | apply Kd.R_drewN | apply Kd.R_drew)); exact HO_5.out⟩, ⟨by (with_reducible repeat (first | apply Kd.R_alloc | apply Kd.R_drewN | apply Kd.R_drew)); exact HO_6.out⟩, ⟨by (with_reducible repeat (first | apply Kd.R_alloc | apply Kd.R_drewN | apply Kd.R_drew)); exact HO_7.out⟩, ⟨by (with_reducible repeat (first | apply Kd.R_alloc | apply Kd.R_drewN | apply Kd.R_drew)); exact HO_20.out⟩, ⟨by (with_reducible repeat (first | apply Kd.R_alloc | apply Kd.R_drewN | apply Kd.R_drew)); exact HO_125.out⟩, ⟨by repeat (first | (with_reducible first | exact HB.out | apply below_alloc | apply pw_below_drewN | apply below_drew1) | exact HB.out)⟩⟩
                                case round =>
                                  clear H'
                                  try clear c1
                                  try clear c2
                                  try clear p2
                                  try clear c3
                                  try clear c4
                                  try clear c5
                                  try clear c6
                                  try clear p8
                                  try clear q8
                                  try clear hx8
                                  try clear c9
                                  try clear c11
                                  try clear c13
                                  try clear c17
                                  try clear c21
                                  try clear c22
                                  try clear c22b0
                                  try clear c22b1
                                  try clear c22b2
                                  try clear c24
                                  try clear c25
                                  try clear c25b0
                                  try clear c25b1
                                  try clear c25b2
                                  try clear c28
                                  try clear c28b0
                                  try clear c28b1
                                  try clear c28b2
                                  try clear c31
                                  try clear c31b0
                                  try clear c31b1
                                  try clear c31b2
                                  try clear c34
                                  try clear c34b0
                                  try clear c34b1
                                  try clear c35
                                  try clear c35b0
                                  try clear c35b1
                                  try clear c35b2
                                  try clear c38
                                  try clear c41
                                  try clear c42
                                  try clear c43
                                  try clear c44
                                  try clear c47
                                  try clear c49
                                  try clear c51
                                  try clear c51b0
                                  try clear c51b1
                                  try clear c52
                                  try clear c52b0
                                  try clear c52b1
                                  try clear c56
                                  try clear c56b0
                                  try clear c57
                                  try clear c57b0
                                  try clear c58
                                  try clear c58b0
                                  try clear c60
                                  try clear c61
                                  try clear c61b0
                                  try clear hx800_0
                                  try clear hx801_0
                                  try clear p2
                                  try clear p8
                                  try clear p800
                                  try clear p801
                                  try clear q8
                                  try clear q800
                                  try clear q801
                                  obtain ⟨x20_4, x24_4, rfl, HA, HK4, HO_5, HO_6, HO_7, HO_20, HO_125, HB⟩ := hrel
                                  cases gk with
                                  | zero => exact absurd HA.out (by simp [laws_FnLongCars.l1])
                                  | succ k4 =>
                                    have H := HA.out
                                    clear HA
                                    simp only [laws_FnLongCars.l1] at H
                                    by_cases c62 : 0 ≤ x127_2
                                    · rw [if_pos c62] at H
                                      have c62b0 : decide (0 ≤ x127_2) = true := decide_eq_true c62
                                      clear c62
                                      by_cases c63 : x127_2 < (t774.length : Int)
                                      · rw [if_pos c63] at H
                                        have c63b0 : decide (x127_2 < (t774.length : Int)) = true := decide_eq_true c63
                                        clear c63
                                        by_cases c64 : x24_4 < (wrap64 ((rd t779 x127_2) + (rd t774 x127_2)))
                                        · rw [if_pos c64] at H
                                          have c64b0 : decide (x24_4 < (wrap64 ((rd t779 x127_2) + (rd t774 x127_2)))) = true := decide_eq_true c64
                                          clear c64
                                          by_cases c65 : 0 ≤ x24_4
                                          · rw [if_pos c65] at H
                                            have c65b0 : decide (0 ≤ x24_4) = true := decide_eq_true c65
                                            clear c65
                                            by_cases c66 : x24_4 < (x20_4.length : Int)
                                            · rw [if_pos c66] at H
                                              have c66b0 : decide (x24_4 < (x20_4.length : Int)) = true := decide_eq_true c66
                                              clear c66
                                              obtain ⟨bq67, hbq67⟩ : ∃ b_ : Bool, b_ = (rdOf false x20_4 x24_4) := ⟨_, rfl⟩
                                              replace H : (if bq67 = true then (some false) else (laws_FnLongCars.l1 k4 l1 t773 t774 t779 t796 (x20_4.set (x24_4 : Int).toNat true) x21_58 x127_2 (rd t779 x127_2) (wrap64 (x24_4 + 1)) t779 (t779.length : Int) x127_2)) = some r := by rw [← hbq67] at H; exact H
                                              have Nbq67 := Aside0.mk hbq67
                                              clear hbq67
                                              by_cases c68 : bq67 = true
                                              · subst c68
                                                have H1 : (some false) = some r := by rw [if_pos rfl] at H; exact H
                                                clear H
                                                have H := H1
                                                clear H1
                                                obtain rfl := Option.some.inj H
                                                have p802 : 0 ≤ (x127_2 : Int) := of_decide_eq_true (by first | (with_reducible assumption) | assumption)
                                                have q802 : x127_2 < (t774.length : Int) := of_decide_eq_true (by first | (with_reducible assumption) | assumption)
                                                obtain ⟨ad802, e802, hx802_0⟩ := Kd.at_int (Kd.R_reads' HO_6.out).2.2 x127_2 p802 q802
                                                cases e802
                                                replace p802 := eq_true p802
                                                replace q802 := eq_true q802
                                                obtain ⟨Ao69, co69, eo69⟩ := Kd.R_slice HO_20.out
                                                subst eo69
                                                have p803 : 0 ≤ (x24_4 : Int) := of_decide_eq_true (by first | (with_reducible assumption) | assumption)
                                                have q803 : x24_4 < (x20_4.length : Int) := of_decide_eq_true (by first | (with_reducible assumption) | assumption)
                                                obtain ⟨ad803, e803, hx803_0⟩ := Kd.at_bool (Kd.R_reads' HO_20.out).2.2 x24_4 p803 q803
                                                (try rw [← Nbq67.out] at hx803_0)
                                                cases e803
                                                replace p803 := eq_true p803
                                                replace q803 := eq_true q803
                                                go_wp2
                                                go_ret
                                                exact ⟨by first | rfl | (simp [errW_none, errW_some] <;> rfl) | (simp [*, errW_none, errW_some] <;> rfl), by repeat (first | (with_reducible first | exact HB.out | apply below_alloc | apply pw_below_drewN | apply below_drew1) | exact HB.out)⟩
                                              · replace c68 := Bool.eq_false_iff.mpr c68
                                                subst c68
                                                have H1 : (laws_FnLongCars.l1 k4 l1 t773 t774 t779 t796 (x20_4.set (x24_4 : Int).toNat true) x21_58 x127_2 (rd t779 x127_2) (wrap64 (x24_4 + 1)) t779 (t779.length : Int) x127_2) = some r := by rw [if_neg (show ¬ (false = true) by decide)] at H; exact H
                                                clear H
                                                have H := H1
                                                clear H1
                                                obtain ⟨y804, hy804⟩ : ∃ y_ : List Bool, y_ = (x20_4.set (x24_4 : Int).toNat true) := ⟨_, rfl⟩
                                                replace H : (laws_FnLongCars.l1 k4 l1 t773 t774 t779 t796 y804 x21_58 x127_2 (rd t779 x127_2) (wrap64 (x24_4 + 1)) t779 (t779.length : Int) x127_2) = some r := by first | (rw [hy804]; with_reducible exact H) | (have H2_ := (Option.bind_some _ _).symm.trans H; rw [hy804]; with_reducible exact H2_) | (have H2_ := (Option.bind_some _ _).symm.trans H; with_reducible exact H2_) | with_reducible exact H | (rw [hy804]; exact H) | exact H
                                                have Ny804 := Aside0.mk hy804
                                                clear hy804
                                                have H' := Aside0.mk H
                                                clear H
                                                have p802 : 0 ≤ (x127_2 : Int) := of_decide_eq_true (by first | (with_reducible assumption) | assumption)
                                                have q802 : x127_2 < (t774.length : Int) := of_decide_eq_true (by first | (with_reducible assumption) | assumption)
                                                obtain ⟨ad802, e802, hx802_0⟩ := Kd.at_int (Kd.R_reads' HO_6.out).2.2 x127_2 p802 q802
                                                cases e802
                                                replace p802 := eq_true p802
                                                replace q802 := eq_true q802
                                                obtain ⟨Ao71, co71, eo71⟩ := Kd.R_slice HO_20.out
                                                subst eo71
                                                have p803 : 0 ≤ (x24_4 : Int) := of_decide_eq_true (by first | (with_reducible assumption) | assumption)
                                                have q803 : x24_4 < (x20_4.length : Int) := of_decide_eq_true (by first | (with_reducible assumption) | assumption)
                                                obtain ⟨ad803, e803, hx803_0⟩ := Kd.at_bool (Kd.R_reads' HO_20.out).2.2 x24_4 p803 q803
                                                (try rw [← Nbq67.out] at hx803_0)
                                                cases e803
                                                replace p803 := eq_true p803
                                                replace q803 := eq_true q803
                                                have p70 : 0 ≤ (x24_4 : Int) := of_decide_eq_true (by first | (with_reducible assumption) | assumption)
                                                have q70 : (x24_4 : Int) < ((x20_4.length : Int) : Int) := of_decide_eq_true (by first | (with_reducible assumption) | assumption)
                                                obtain ⟨go70, co70, eo70, gb70, gl70, cl70, HG70⟩ := Kd.R_form HO_20.out (by omega)
                                                (first | cases eo70 | (injection eo70 with ea_ en_ ec_; (first | subst ea_ | (injection ea_ with ea_; subst ea_)); subst ec_; clear en_))
                                                have GB70 := Aside0.mk gb70
                                                have GG70 := Aside0.mk HG70
                                                clear gb70 gl70 HG70
                                                (first | simp only [add_plain] at hx803_0 | skip)
                                                obtain ⟨hx70_0, hf70_0⟩ := Kd.R_celln false HO_20.out (x24_4 : Int) p70 q70
                                                replace p70 := eq_true p70
                                                replace q70 := eq_true q70
                                                have HP72 := Kd.R_putg HO_20.out (x24_4 : Int) true
                                                go_wp2_with (first | ((with_reducible refine gate_store (t := 4) (p := 157) rfl ?_); refine store_event (t := 4) (p := 157) (v := ?vo_w73) (w1 := (wr.setCell ⟨go70, (x24_4 : Int).toNat, none⟩ (.bool true))) ?hg ?ho ?hn ?hr ?_; (case ho => rfl); (case hg => rfl); (case hn => rfl); (case hr => first | (go_simp; done) | (go_simp; rfl)); intro w73 hw; have hg : wr.grownBy w73 (some go70) := (by rw [hw]; exact HP72.2); have hp_ : Kd.R Kd.bool 4 w73 w.heap.size (fun _ => True) (.slice (some ⟨go70, 0, none⟩) x20_4.length co71) y804 := (by rw [hw, Ny804.out]; exact HP72.1); clear HP72; have n0_ := Aside0.mk (Kd.R_over' (v := (.slice (some ⟨go70, 0, none⟩) x20_4.length co71)) (by (with_reducible repeat (first | apply Kd.R_alloc | apply Kd.R_drewN | apply Kd.R_drew)); exact HO_5.out) (Kd.R_typed HO_20.out) (by decide) hg); have n1_ := Aside0.mk (Kd.R_over' (v := (.slice (some ⟨go70, 0, none⟩) x20_4.length co71)) (by (with_reducible repeat (first | apply Kd.R_alloc | apply Kd.R_drewN | apply Kd.R_drew)); exact HO_6.out) (Kd.R_typed HO_20.out) (by decide) hg); have n2_ := Aside0.mk (Kd.R_over' (v := (.slice (some ⟨go70, 0, none⟩) x20_4.length co71)) (by (with_reducible repeat (first | apply Kd.R_alloc | apply Kd.R_drewN | apply Kd.R_drew)); exact HO_7.out) (Kd.R_typed HO_20.out) (by decide) hg); have n3_ := Aside0.mk (hp_); have n4_ := Aside0.mk (Kd.R_over' (v := (.slice (some ⟨go70, 0, none⟩) x20_4.length co71)) (by (with_reducible repeat (first | apply Kd.R_alloc | apply Kd.R_drewN | apply Kd.R_drew)); exact HO_125.out) (Kd.R_typed HO_20.out) (by decide) hg); have n5_ := Aside0.mk ((by rw [hw]; exact below_set (HB.out) GB70.out : Below w.heap.size w w73)); clear HO_5; clear HO_6; clear HO_7; clear HO_20; clear HO_125; clear HB; have HO_5 := n0_; have HO_6 := n1_; have HO_7 := n2_; have HO_20 := n3_; have HO_125 := n4_; have HB := n5_; clear n0_ n1_ n2_ n3_ n4_ n5_; clear hg hw hp_))
                                                go_roundg k4
                                                case measure => have := HJ11.out; have := HK2.out; have := HJ58.out; have := HK4.out; omega
                                                case rel => exact ⟨(y804), (wrap64 (x24_4 + 1)), (by first | rfl | (simp; done) | (simp [*]; done)), H', ⟨by have := HJ11.out; have := HK2.out; have := HJ58.out; have := HK4.out; omega⟩, ⟨by (with_reducible repeat (first | apply Kd.R_alloc | apply Kd.R_drewN | apply Kd.R_drew)); exact HO_5.out⟩, ⟨by (with_reducible repeat (first | apply Kd.R_alloc | apply Kd.R_drewN | apply Kd.R_drew)); exact HO_6.out⟩, ⟨by (with_reducible repeat (first | apply Kd.R_alloc | apply Kd.R_drewN | apply Kd.R_drew)); exact HO_7.out⟩, ⟨by (with_reducible repeat (first | apply Kd.R_alloc | apply Kd.R_drewN | apply Kd.R_drew)); exact HO_20.out⟩, ⟨by (with_reducible repeat (first | apply Kd.R_alloc | apply Kd.R_drewN | apply Kd.R_drew)); exact HO_125.out⟩, ⟨by repeat (first | (with_reducible first | exact HB.out | apply below_alloc | apply pw_below_drewN | apply below_drew1) | exact HB.out)⟩⟩
                                            · rw [if_neg c66] at H
                                              exact absurd H (by simp)
                                          · rw [if_neg c65] at H
                                            exact absurd H (by simp)
                                        · rw [if_neg c64] at H
                                          have c64b0 : decide (x24_4 < (wrap64 ((rd t779 x127_2) + (rd t774 x127_2)))) = false := decide_eq_false c64
                                          clear c64
                                          by_cases c74 : x127_2 < (t773.length : Int)
                                          · rw [if_pos c74] at H
                                            have c74b0 : decide (x127_2 < (t773.length : Int)) = true := decide_eq_true c74
                                            clear c74
                                            by_cases c75 : (rd t779 x127_2) < (rd t773 x127_2)
                                            · rw [if_pos c75] at H
                                              have c75b0 : decide ((rd t779 x127_2) < (rd t773 x127_2)) = true := decide_eq_true c75
                                              clear c75
                                              obtain rfl := Option.some.inj H
                                              have p802 : 0 ≤ (x127_2 : Int) := of_decide_eq_true (by first | (with_reducible assumption) | assumption)
                                              have q802 : x127_2 < (t774.length : Int) := of_decide_eq_true (by first | (with_reducible assumption) | assumption)
                                              obtain ⟨ad802, e802, hx802_0⟩ := Kd.at_int (Kd.R_reads' HO_6.out).2.2 x127_2 p802 q802
                                              cases e802
                                              replace p802 := eq_true p802
                                              replace q802 := eq_true q802
                                              have p805 : 0 ≤ (x127_2 : Int) := of_decide_eq_true (by first | (with_reducible assumption) | assumption)
                                              have q805 : x127_2 < (t773.length : Int) := of_decide_eq_true (by first | (with_reducible assumption) | assumption)
                                              obtain ⟨ad805, e805, hx805_0⟩ := Kd.at_int (Kd.R_reads' HO_5.out).2.2 x127_2 p805 q805
                                              cases e805
                                              replace p805 := eq_true p805
                                              replace q805 := eq_true q805
                                              go_wp2
                                              go_ret
                                              exact ⟨by first | rfl | (simp [errW_none, errW_some] <;> rfl) | (simp [*, errW_none, errW_some] <;> rfl), by repeat (first | (with_reducible first | exact HB.out | apply below_alloc | apply pw_below_drewN | apply below_drew1) | exact HB.out)⟩
                                            · rw [if_neg c75] at H
                                              have c75b0 : decide ((rd t779 x127_2) < (rd t773 x127_2)) = false := decide_eq_false c75
                                              clear c75
                                              have H' := Aside0.mk H
                                              clear H
                                              have p802 : 0 ≤ (x127_2 : Int) := of_decide_eq_true (by first | (with_reducible assumption) | assumption)
                                              have q802 : x127_2 < (t774.length : Int) := of_decide_eq_true (by first | (with_reducible assumption) | assumption)
                                              obtain ⟨ad802, e802, hx802_0⟩ := Kd.at_int (Kd.R_reads' HO_6.out).2.2 x127_2 p802 q802
                                              cases e802
                                              replace p802 := eq_true p802
                                              replace q802 := eq_true q802
                                              have p805 : 0 ≤ (x127_2 : Int) := of_decide_eq_true (by first | (with_reducible assumption) | assumption)
                                              have q805 : x127_2 < (t773.length : Int) := of_decide_eq_true (by first | (with_reducible assumption) | assumption)
                                              obtain ⟨ad805, e805, hx805_0⟩ := Kd.at_int (Kd.R_reads' HO_5.out).2.2 x127_2 p805 q805
                                              cases e805
                                              replace p805 := eq_true p805
                                              replace q805 := eq_true q805
                                              go_wp2
                                              go_roundg k4
                                              case measure => have := HJ11.out; have := HK2.out; have := HJ58.out; have := HK4.out; omega
                                              case rel => exact ⟨(x20_4), (x21_58), (wrap64 (x127_2 + 1)), (by first | rfl | (simp; done) | (simp [*]; done)), (by first | rfl | (simp; done) | (simp [*]; done)), H', ⟨by have := HJ11.out; have := HK2.out; have := HJ58.out; have := HK4.out; omega⟩, ⟨by (with_reducible repeat (first | apply Kd.R_alloc | apply Kd.R_drewN | apply Kd.R_drew)); exact HO_5.out⟩, ⟨by (with_reducible repeat (first | apply Kd.R_alloc | apply Kd.R_drewN | apply Kd.R_drew)); exact HO_6.out⟩, ⟨by (with_reducible repeat (first | apply Kd.R_alloc | apply Kd.R_drewN | apply Kd.R_drew)); exact HO_7.out⟩, ⟨by (with_reducible repeat (first | apply Kd.R_alloc | apply Kd.R_drewN | apply Kd.R_drew)); exact HO_20.out⟩, ⟨by (with_reducible repeat (first | apply Kd.R_alloc | apply Kd.R_drewN | apply Kd.R_drew)); exact HO_125.out⟩, ⟨by repeat (first | (with_reducible first | exact HB.out | apply below_alloc | apply pw_below_drewN | apply below_drew1) | exact HB.out)⟩⟩
                                          · rw [if_neg c74] at H
                                            exact absurd H (by simp)
                                      · rw [if_neg c63] at H
                                        exact absurd H (by simp)
                                    · rw [if_neg c62] at H
                                      exact absurd H (by simp)
                          · rw [if_neg c58] at H
                            exact absurd H (by simp)
                        · rw [if_neg c57] at H
                          exact absurd H (by simp)
                      · rw [if_neg c56] at H
                        have c56b0 : decide (x127_2 < (t779.length : Int)) = false := decide_eq_false c56
                        clear c56
                        (first | rw [c56b0] | (simp only [i64_w, i32_w]; rw [c56b0]) | skip)
                        by_cases c76 : x21_2 = true
                        · subst c76
                          have H1 : ((impl_DriveCars.f k2 t773 t796).bind fun bt806 => (if bt806.2 = true then ((laws_jSame.f k2 bt806.1 t779).bind fun t810 => (if t810 = true then (laws_FnLongCars.j4 k2 l1) else (some false))) else (some false))) = some r := by rw [if_pos rfl] at H; exact H
                          clear H
                          have H := H1
                          clear H1
                          replace H := Option.bind_eq_some_iff.mp H
                          obtain ⟨⟨t806, t807⟩, A770, H⟩ := H
                          replace H : (if t807 = true then ((laws_jSame.f k2 t806 t779).bind fun t810 => (if t810 = true then (laws_FnLongCars.j4 k2 l1) else (some false))) else (some false)) = some r := H
                          have A77 := Aside0.mk A770
                          clear A770
                          by_cases c78 : t807 = true
                          · subst c78
                            have H1 : ((laws_jSame.f k2 t806 t779).bind fun t810 => (if t810 = true then (laws_FnLongCars.j4 k2 l1) else (some false))) = some r := by rw [if_pos rfl] at H; exact H
                            clear H
                            have H := H1
                            clear H1
                            replace H := Option.bind_eq_some_iff.mp H
                            obtain ⟨t810, A790, H⟩ := H
                            replace H : (if t810 = true then (laws_FnLongCars.j4 k2 l1) else (some false)) = some r := H
                            have A79 := Aside0.mk A790
                            clear A790
                            by_cases c80 : t810 = true
                            · subst c80
                              have H1 : (laws_FnLongCars.j4 k2 l1) = some r := by rw [if_pos rfl] at H; exact H
                              clear H
                              have H := H1
                              clear H1
                              have H' := Aside0.mk H
                              clear H
                              go_wp2_with (first | ((with_reducible refine gate_callee (f := 38) rfl ?_); refine goesL_ (some 169) rfl rfl Try.func38 (by kernel_rfl) rfl #[.slice Ao14 t773.length co14, .int .i64 t796] rfl (by (try simp only [List.map_toArray, List.map_cons, List.map_nil]); first | done | rfl | (simp only [List.length_drop, List.length_take]; rfl)) ?_; (with_reducible refine (impl_DriveCars.calls k2 _ _ t773 t796 t806 true _ ?side1 ?side2 A77.out).mono ?_); (case side1 => repeat (first | exact (Kd.R_reads' HO_5.out).2.2 | (with_reducible refine Kd.C_alloc ?_ _) | (with_reducible refine Kd.C_drewN ?_ _) | (with_reducible refine Kd.C_drew ?_))); (case side2 => exact (Kd.R_reads' HO_5.out).2.1); rintro e w81 ⟨v808, rfl, ho0, hb⟩; refine ⟨_, rfl, ?_⟩; have n0_ := Aside0.mk (Kd.R_elder' (by (with_reducible repeat (first | apply Kd.R_alloc | apply Kd.R_drewN | apply Kd.R_drew)); exact HO_5.out) (Kd.R_base ho0) hb); have n1_ := Aside0.mk (Kd.R_elder' (by (with_reducible repeat (first | apply Kd.R_alloc | apply Kd.R_drewN | apply Kd.R_drew)); exact HO_6.out) (Kd.R_base ho0) hb); have n2_ := Aside0.mk (Kd.R_elder' (by (with_reducible repeat (first | apply Kd.R_alloc | apply Kd.R_drewN | apply Kd.R_drew)); exact HO_7.out) (Kd.R_base ho0) hb); have n3_ := Aside0.mk (Kd.R_below (by (with_reducible repeat (first | apply Kd.R_alloc | apply Kd.R_drewN | apply Kd.R_drew)); exact HO_20.out) hb); have n4_ := Aside0.mk (Kd.R_elder' (by (with_reducible repeat (first | apply Kd.R_alloc | apply Kd.R_drewN | apply Kd.R_drew)); exact HO_125.out) (Kd.R_base ho0) hb); have n5_ := Aside0.mk (Kd.R_lower (Kd.R_new' (Kd.R_new' (Kd.R_new' (Kd.R_new' ho0 (Kd.R_lt (by (with_reducible repeat (first | apply Kd.R_alloc | apply Kd.R_drewN | apply Kd.R_drew)); exact HO_5.out))) (Kd.R_lt (by (with_reducible repeat (first | apply Kd.R_alloc | apply Kd.R_drewN | apply Kd.R_drew)); exact HO_6.out))) (Kd.R_lt (by (with_reducible repeat (first | apply Kd.R_alloc | apply Kd.R_drewN | apply Kd.R_drew)); exact HO_7.out))) (Kd.R_lt (by (with_reducible repeat (first | apply Kd.R_alloc | apply Kd.R_drewN | apply Kd.R_drew)); exact HO_125.out))) (below_size (by repeat (first | (with_reducible first | exact HB.out | apply below_alloc | apply pw_below_drewN | apply below_drew1) | exact HB.out)))); have n6_ := Aside0.mk (below_step (by repeat (first | (with_reducible first | exact HB.out | apply below_alloc | apply pw_below_drewN | apply below_drew1) | exact HB.out)) hb); clear HO_5; clear HO_6; clear HO_7; clear HO_20; clear HO_125; clear HB; have HO_5 := n0_; have HO_6 := n1_; have HO_7 := n2_; have HO_20 := n3_; have HO_125 := n4_; have HO809 := n5_; have HB := n6_; clear n0_ n1_ n2_ n3_ n4_ n5_ n6_; (try clear hb); (try clear hb2); (try clear hk); (try clear hi); (try clear ho0); obtain ⟨Ao82, co82, eo82⟩ := Kd.R_slice HO809.out; subst eo82) | (go_at_call 34; (with_reducible refine (laws_jSame.calls k2 _ _ t806 _ _ t779 true _ ?side1 ?side2 ?side3 ?side4 A79.out).mono ?_); (case side1 => repeat (first | exact (Kd.R_reads' HO809.out).2.2 | (with_reducible refine Kd.C_alloc ?_ _) | (with_reducible refine Kd.C_drewN ?_ _) | (with_reducible refine Kd.C_drew ?_))); (case side2 => exact (Kd.R_reads' HO809.out).2.1); (case side3 => repeat (first | exact (Kd.R_reads' HO_7.out).2.2 | (with_reducible refine Kd.C_alloc ?_ _) | (with_reducible refine Kd.C_drewN ?_ _) | (with_reducible refine Kd.C_drew ?_))); (case side4 => exact (Kd.R_reads' HO_7.out).2.1); rintro e w' ⟨rfl, ⟨nd, rfl⟩⟩))
                              go_meet
                              case rel => exact ⟨_, H', ⟨by have := HJ11.out; have := HK2.out; first | omega | exact Nat.le_refl _⟩, ⟨by repeat (first | (with_reducible first | exact HB.out | apply below_alloc | apply pw_below_drewN | apply below_drew1) | exact HB.out)⟩⟩
                            · replace c80 := Bool.eq_false_iff.mpr c80
                              subst c80
                              have H1 : (some false) = some r := by rw [if_neg (show ¬ (false = true) by decide)] at H; exact H
                              clear H
                              have H := H1
                              clear H1
                              obtain rfl := Option.some.inj H
                              go_wp2_with (first | ((with_reducible refine gate_callee (f := 38) rfl ?_); refine goesL_ (some 169) rfl rfl Try.func38 (by kernel_rfl) rfl #[.slice Ao14 t773.length co14, .int .i64 t796] rfl (by (try simp only [List.map_toArray, List.map_cons, List.map_nil]); first | done | rfl | (simp only [List.length_drop, List.length_take]; rfl)) ?_; (with_reducible refine (impl_DriveCars.calls k2 _ _ t773 t796 t806 true _ ?side1 ?side2 A77.out).mono ?_); (case side1 => repeat (first | exact (Kd.R_reads' HO_5.out).2.2 | (with_reducible refine Kd.C_alloc ?_ _) | (with_reducible refine Kd.C_drewN ?_ _) | (with_reducible refine Kd.C_drew ?_))); (case side2 => exact (Kd.R_reads' HO_5.out).2.1); rintro e w83 ⟨v808, rfl, ho0, hb⟩; refine ⟨_, rfl, ?_⟩; have n0_ := Aside0.mk (Kd.R_elder' (by (with_reducible repeat (first | apply Kd.R_alloc | apply Kd.R_drewN | apply Kd.R_drew)); exact HO_5.out) (Kd.R_base ho0) hb); have n1_ := Aside0.mk (Kd.R_elder' (by (with_reducible repeat (first | apply Kd.R_alloc | apply Kd.R_drewN | apply Kd.R_drew)); exact HO_6.out) (Kd.R_base ho0) hb); have n2_ := Aside0.mk (Kd.R_elder' (by (with_reducible repeat (first | apply Kd.R_alloc | apply Kd.R_drewN | apply Kd.R_drew)); exact HO_7.out) (Kd.R_base ho0) hb); have n3_ := Aside0.mk (Kd.R_below (by (with_reducible repeat (first | apply Kd.R_alloc | apply Kd.R_drewN | apply Kd.R_drew)); exact HO_20.out) hb); have n4_ := Aside0.mk (Kd.R_elder' (by (with_reducible repeat (first | apply Kd.R_alloc | apply Kd.R_drewN | apply Kd.R_drew)); exact HO_125.out) (Kd.R_base ho0) hb); have n5_ := Aside0.mk (Kd.R_lower (Kd.R_new' (Kd.R_new' (Kd.R_new' (Kd.R_new' ho0 (Kd.R_lt (by (with_reducible repeat (first | apply Kd.R_alloc | apply Kd.R_drewN | apply Kd.R_drew)); exact HO_5.out))) (Kd.R_lt (by (with_reducible repeat (first | apply Kd.R_alloc | apply Kd.R_drewN | apply Kd.R_drew)); exact HO_6.out))) (Kd.R_lt (by (with_reducible repeat (first | apply Kd.R_alloc | apply Kd.R_drewN | apply Kd.R_drew)); exact HO_7.out))) (Kd.R_lt (by (with_reducible repeat (first | apply Kd.R_alloc | apply Kd.R_drewN | apply Kd.R_drew)); exact HO_125.out))) (below_size (by repeat (first | (with_reducible first | exact HB.out | apply below_alloc | apply pw_below_drewN | apply below_drew1) | exact HB.out)))); have n6_ := Aside0.mk (below_step (by repeat (first | (with_reducible first | exact HB.out | apply below_alloc | apply pw_below_drewN | apply below_drew1) | exact HB.out)) hb); clear HO_5; clear HO_6; clear HO_7; clear HO_20; clear HO_125; clear HB; have HO_5 := n0_; have HO_6 := n1_; have HO_7 := n2_; have HO_20 := n3_; have HO_125 := n4_; have HO809 := n5_; have HB := n6_; clear n0_ n1_ n2_ n3_ n4_ n5_ n6_; (try clear hb); (try clear hb2); (try clear hk); (try clear hi); (try clear ho0); obtain ⟨Ao84, co84, eo84⟩ := Kd.R_slice HO809.out; subst eo84) | (go_at_call 34; (with_reducible refine (laws_jSame.calls k2 _ _ t806 _ _ t779 false _ ?side1 ?side2 ?side3 ?side4 A79.out).mono ?_); (case side1 => repeat (first | exact (Kd.R_reads' HO809.out).2.2 | (with_reducible refine Kd.C_alloc ?_ _) | (with_reducible refine Kd.C_drewN ?_ _) | (with_reducible refine Kd.C_drew ?_))); (case side2 => exact (Kd.R_reads' HO809.out).2.1); (case side3 => repeat (first | exact (Kd.R_reads' HO_7.out).2.2 | (with_reducible refine Kd.C_alloc ?_ _) | (with_reducible refine Kd.C_drewN ?_ _) | (with_reducible refine Kd.C_drew ?_))); (case side4 => exact (Kd.R_reads' HO_7.out).2.1); rintro e w' ⟨rfl, ⟨nd, rfl⟩⟩))
                              go_ret
                              exact ⟨by first | rfl | (simp [errW_none, errW_some] <;> rfl) | (simp [*, errW_none, errW_some] <;> rfl), by repeat (first | (with_reducible first | exact HB.out | apply below_alloc | apply pw_below_drewN | apply below_drew1) | exact HB.out)⟩
                          · replace c78 := Bool.eq_false_iff.mpr c78
                            subst c78
                            have H1 : (some false) = some r := by rw [if_neg (show ¬ (false = true) by decide)] at H; exact H
                            clear H
                            have H := H1
                            clear H1
                            obtain rfl := Option.some.inj H
                            go_wp2_with (first | ((with_reducible refine gate_callee (f := 38) rfl ?_); refine goesL_ (some 169) rfl rfl Try.func38 (by kernel_rfl) rfl #[.slice Ao14 t773.length co14, .int .i64 t796] rfl (by (try simp only [List.map_toArray, List.map_cons, List.map_nil]); first | done | rfl | (simp only [List.length_drop, List.length_take]; rfl)) ?_; (with_reducible refine (impl_DriveCars.calls k2 _ _ t773 t796 t806 false _ ?side1 ?side2 A77.out).mono ?_); (case side1 => repeat (first | exact (Kd.R_reads' HO_5.out).2.2 | (with_reducible refine Kd.C_alloc ?_ _) | (with_reducible refine Kd.C_drewN ?_ _) | (with_reducible refine Kd.C_drew ?_))); (case side2 => exact (Kd.R_reads' HO_5.out).2.1); rintro e w85 ⟨v808, rfl, ho0, hb⟩; refine ⟨_, rfl, ?_⟩; have n0_ := Aside0.mk (Kd.R_elder' (by (with_reducible repeat (first | apply Kd.R_alloc | apply Kd.R_drewN | apply Kd.R_drew)); exact HO_5.out) (Kd.R_base ho0) hb); have n1_ := Aside0.mk (Kd.R_elder' (by (with_reducible repeat (first | apply Kd.R_alloc | apply Kd.R_drewN | apply Kd.R_drew)); exact HO_6.out) (Kd.R_base ho0) hb); have n2_ := Aside0.mk (Kd.R_elder' (by (with_reducible repeat (first | apply Kd.R_alloc | apply Kd.R_drewN | apply Kd.R_drew)); exact HO_7.out) (Kd.R_base ho0) hb); have n3_ := Aside0.mk (Kd.R_below (by (with_reducible repeat (first | apply Kd.R_alloc | apply Kd.R_drewN | apply Kd.R_drew)); exact HO_20.out) hb); have n4_ := Aside0.mk (Kd.R_elder' (by (with_reducible repeat (first | apply Kd.R_alloc | apply Kd.R_drewN | apply Kd.R_drew)); exact HO_125.out) (Kd.R_base ho0) hb); have n5_ := Aside0.mk (Kd.R_lower (Kd.R_new' (Kd.R_new' (Kd.R_new' (Kd.R_new' ho0 (Kd.R_lt (by (with_reducible repeat (first | apply Kd.R_alloc | apply Kd.R_drewN | apply Kd.R_drew)); exact HO_5.out))) (Kd.R_lt (by (with_reducible repeat (first | apply Kd.R_alloc | apply Kd.R_drewN | apply Kd.R_drew)); exact HO_6.out))) (Kd.R_lt (by (with_reducible repeat (first | apply Kd.R_alloc | apply Kd.R_drewN | apply Kd.R_drew)); exact HO_7.out))) (Kd.R_lt (by (with_reducible repeat (first | apply Kd.R_alloc | apply Kd.R_drewN | apply Kd.R_drew)); exact HO_125.out))) (below_size (by repeat (first | (with_reducible first | exact HB.out | apply below_alloc | apply pw_below_drewN | apply below_drew1) | exact HB.out)))); have n6_ := Aside0.mk (below_step (by repeat (first | (with_reducible first | exact HB.out | apply below_alloc | apply pw_below_drewN | apply below_drew1) | exact HB.out)) hb); clear HO_5; clear HO_6; clear HO_7; clear HO_20; clear HO_125; clear HB; have HO_5 := n0_; have HO_6 := n1_; have HO_7 := n2_; have HO_20 := n3_; have HO_125 := n4_; have HO809 := n5_; have HB := n6_; clear n0_ n1_ n2_ n3_ n4_ n5_ n6_; (try clear hb); (try clear hb2); (try clear hk); (try clear hi); (try clear ho0)))
                            go_ret
                            exact ⟨by first | rfl | (simp [errW_none, errW_some] <;> rfl) | (simp [*, errW_none, errW_some] <;> rfl), by repeat (first | (with_reducible first | exact HB.out | apply below_alloc | apply pw_below_drewN | apply below_drew1) | exact HB.out)⟩
                        · replace c76 := Bool.eq_false_iff.mpr c76
                          subst c76
                          have H1 : (laws_FnLongCars.j4 k2 l1) = some r := by rw [if_neg (show ¬ (false = true) by decide)] at H; exact H
                          clear H
                          have H := H1
                          clear H1
                          have H' := Aside0.mk H
                          clear H
                          go_wp2
                          go_meet
                          case rel => exact ⟨_, H', ⟨by have := HJ11.out; have := HK2.out; first | omega | exact Nat.le_refl _⟩, ⟨by repeat (first | (with_reducible first | exact HB.out | apply below_alloc | apply pw_below_drewN | apply below_drew1) | exact HB.out)⟩⟩
                · rw [if_neg c52] at H
                  exact absurd H (by simp)
              · rw [if_neg c51] at H
                exact absurd H (by simp)
            · replace c49 := Bool.eq_false_iff.mpr c49
              subst c49
              have H1 : (laws_FnLongCars.j4 kj11 l1) = some r := by rw [if_neg (show ¬ (false = true) by decide)] at H; exact H
              clear H
              have H := H1
              clear H1
              have H' := Aside0.mk H
              clear H
              go_wp2
              go_meet
              case rel => exact ⟨_, H', ⟨by have := HJ11.out; first | omega | exact Nat.le_refl _⟩, ⟨by repeat (first | (with_reducible first | exact HB.out | apply below_alloc | apply pw_below_drewN | apply below_drew1) | exact HB.out)⟩⟩
          case rest =>
            clear HC48
            try clear c1
            try clear c2
            try clear p2
            try clear c3
            try clear c4
            try clear c5
            try clear c6
            try clear p6
            try clear q6
            try clear c7
            try clear p7
            try clear q7
            try clear hx7
            try clear hf7
            try clear c8
            try clear p8
            try clear q8
            try clear hx8
            try clear c9
            try clear c11
            try clear c13
            try clear c17
            try clear c21
            try clear c22
            try clear c22b0
            try clear c22b1
            try clear c22b2
            try clear c24
            try clear c25
            try clear c25b0
            try clear c25b1
            try clear c25b2
            try clear c28
            try clear c28b0
            try clear c28b1
            try clear c28b2
            try clear c31
            try clear c31b0
            try clear c31b1
            try clear c31b2
            try clear c34
            try clear c34b0
            try clear c34b1
            try clear c35
            try clear c35b0
            try clear c35b1
            try clear c35b2
            try clear c38
            try clear c41
            try clear c42
            try clear c43
            try clear c44
            try clear c47
            try clear c49
            try clear c51
            try clear c51b0
            try clear c51b1
            try clear c52
            try clear c52b0
            try clear c52b1
            try clear c56
            try clear c56b0
            try clear c57
            try clear c57b0
            try clear c58
            try clear c58b0
            try clear c60
            try clear c61
            try clear c61b0
            try clear c62
            try clear c62b0
            try clear c63
            try clear c63b0
            try clear c64
            try clear c64b0
            try clear p64
            try clear c65
            try clear c65b0
            try clear c66
            try clear c66b0
            try clear q67
            try clear c68
            try clear p70
            try clear q70
            try clear hx70
            try clear hf70
            try clear c74
            try clear c74b0
            try clear c75
            try clear c75b0
            try clear c76
            try clear c78
            try clear c80
            try clear p80
            try clear q80
            try clear hx80
            try clear hx70_0
            try clear hx800_0
            try clear hx801_0
            try clear hx802_0
            try clear hx803_0
            try clear hx805_0
            try clear p2
            try clear p70
            try clear p8
            try clear p800
            try clear p801
            try clear p802
            try clear p803
            try clear p805
            try clear q70
            try clear q8
            try clear q800
            try clear q801
            try clear q802
            try clear q803
            try clear q805
            obtain ⟨kq, HA, HJ47, HB⟩ := hcut
            cases kq with
            | zero => exact absurd HA.out (by simp [laws_FnLongCars.j4])
            | succ kj47 =>
              have H := HA.out
              clear HA
              simp only [laws_FnLongCars.j4] at H
              replace H := Option.bind_eq_some_iff.mp H
              obtain ⟨⟨t811, t812⟩, A860, H⟩ := H
              replace H : ((impl_StretchList.f kj47 t811 t812).bind fun bt817 => ((spec_StretchList.f kj47 t811 t812).bind fun bt821 => (if (bt817.2 == bt821.2) = true then ((laws_jSame.f kj47 bt817.1 bt821.1).bind fun t825 => (some t825)) else (some false)))) = some r := H
              have A86 := Aside0.mk A860
              clear A860
              replace H := Option.bind_eq_some_iff.mp H
              obtain ⟨⟨t817, t818⟩, A870, H⟩ := H
              replace H : ((spec_StretchList.f kj47 t811 t812).bind fun bt821 => (if (t818 == bt821.2) = true then ((laws_jSame.f kj47 t817 bt821.1).bind fun t825 => (some t825)) else (some false))) = some r := H
              have A87 := Aside0.mk A870
              clear A870
              replace H := Option.bind_eq_some_iff.mp H
              obtain ⟨⟨t821, t822⟩, A880, H⟩ := H
              replace H : (if (t818 == t822) = true then ((laws_jSame.f kj47 t817 t821).bind fun t825 => (some t825)) else (some false)) = some r := H
              have A88 := Aside0.mk A880
              clear A880
              by_cases c89 : (t818 == t822) = true
              · rw [if_pos c89] at H
                have c89b0 : (t818 == t822) = true := c89
                (try (have c89b1 : decide (t818 = t822) = true := by simpa using c89))
                (try (have c89b2 : (t818 == t822) = true := by simpa using c89))
                clear c89
                replace H := Option.bind_eq_some_iff.mp H
                obtain ⟨t825, A900, H⟩ := H
                replace H : (some t825) = some r := H
                have A90 := Aside0.mk A900
                clear A900
                obtain rfl := Option.some.inj H
                go_wp2_with (first | ((with_reducible refine gate_callee (f := 45) rfl ?_); refine goesL_ (some 182) rfl rfl Try.func45 (by kernel_rfl) rfl #[.slice A1 l1.length c1] rfl (by (try simp only [List.map_toArray, List.map_cons, List.map_nil]); first | done | rfl | (simp only [List.length_drop, List.length_take]; rfl)) ?_; (with_reducible refine (spec_DrawStretchList.calls kj47 _ _ l1 t811 t812 _ ?side1 ?side2 A86.out).mono ?_); (case side1 => repeat (first | exact (Kd.C_below HR1.out HB.out) | (with_reducible refine Kd.C_alloc ?_ _) | (with_reducible refine Kd.C_drewN ?_ _) | (with_reducible refine Kd.C_drew ?_))); (case side2 => exact HC1.out); rintro e w91 ⟨v813, v815, rfl, ho0, ho1, hb⟩; refine ⟨_, rfl, ?_⟩; have n0_ := Aside0.mk (Kd.R_lower ho0 (below_size (by repeat (first | (with_reducible first | exact HB.out | apply below_alloc | apply pw_below_drewN | apply below_drew1) | exact HB.out)))); have n1_ := Aside0.mk (Kd.R_lower ho1 (below_size (by repeat (first | (with_reducible first | exact HB.out | apply below_alloc | apply pw_below_drewN | apply below_drew1) | exact HB.out)))); have n2_ := Aside0.mk (below_step (by repeat (first | (with_reducible first | exact HB.out | apply below_alloc | apply pw_below_drewN | apply below_drew1) | exact HB.out)) hb); clear HB; have HO814 := n0_; have HO816 := n1_; have HB := n2_; clear n0_ n1_ n2_; (try clear hb); (try clear hb2); (try clear hk); (try clear hi); (try clear ho0); (try clear ho1); obtain ⟨Ao92, co92, eo92⟩ := Kd.R_slice HO814.out; subst eo92; obtain ⟨Ao93, co93, eo93⟩ := Kd.R_slice HO816.out; subst eo93) | ((with_reducible refine gate_callee (f := 24) rfl ?_); refine goesL_ (some 188) rfl rfl Try.func24 (by kernel_rfl) rfl #[.slice Ao92 t811.length co92, .slice Ao93 t812.length co93] rfl (by (try simp only [List.map_toArray, List.map_cons, List.map_nil]); first | done | rfl | (simp only [List.length_drop, List.length_take]; rfl)) ?_; (with_reducible refine (impl_StretchList.calls kj47 _ _ t811 _ _ t812 t817 t818 _ ?side1 ?side2 ?side3 ?side4 A87.out).mono ?_); (case side1 => repeat (first | exact (Kd.R_reads' HO814.out).2.2 | (with_reducible refine Kd.C_alloc ?_ _) | (with_reducible refine Kd.C_drewN ?_ _) | (with_reducible refine Kd.C_drew ?_))); (case side2 => exact (Kd.R_reads' HO814.out).2.1); (case side3 => repeat (first | exact (Kd.R_reads' HO816.out).2.2 | (with_reducible refine Kd.C_alloc ?_ _) | (with_reducible refine Kd.C_drewN ?_ _) | (with_reducible refine Kd.C_drew ?_))); (case side4 => exact (Kd.R_reads' HO816.out).2.1); rintro e w94 ⟨v819, rfl, ho0, hb⟩; refine ⟨_, rfl, ?_⟩; have n0_ := Aside0.mk (Kd.R_elder' (by (with_reducible repeat (first | apply Kd.R_alloc | apply Kd.R_drewN | apply Kd.R_drew)); exact HO814.out) (Kd.R_base ho0) hb); have n1_ := Aside0.mk (Kd.R_elder' (by (with_reducible repeat (first | apply Kd.R_alloc | apply Kd.R_drewN | apply Kd.R_drew)); exact HO816.out) (Kd.R_base ho0) hb); have n2_ := Aside0.mk (Kd.R_lower (Kd.R_new' (Kd.R_new' ho0 (Kd.R_lt (by (with_reducible repeat (first | apply Kd.R_alloc | apply Kd.R_drewN | apply Kd.R_drew)); exact HO814.out))) (Kd.R_lt (by (with_reducible repeat (first | apply Kd.R_alloc | apply Kd.R_drewN | apply Kd.R_drew)); exact HO816.out))) (below_size (by repeat (first | (with_reducible first | exact HB.out | apply below_alloc | apply pw_below_drewN | apply below_drew1) | exact HB.out)))); have n3_ := Aside0.mk (below_step (by repeat (first | (with_reducible first | exact HB.out | apply below_alloc | apply pw_below_drewN | apply below_drew1) | exact HB.out)) hb); clear HO814; clear HO816; clear HB; have HO814 := n0_; have HO816 := n1_; have HO820 := n2_; have HB := n3_; clear n0_ n1_ n2_ n3_; (try clear hb); (try clear hb2); (try clear hk); (try clear hi); (try clear ho0)) | ((with_reducible refine gate_callee (f := 23) rfl ?_); refine goesL_ (some 194) rfl rfl Try.func23 (by kernel_rfl) rfl #[.slice Ao92 t811.length co92, .slice Ao93 t812.length co93] rfl (by (try simp only [List.map_toArray, List.map_cons, List.map_nil]); first | done | rfl | (simp only [List.length_drop, List.length_take]; rfl)) ?_; (with_reducible refine (spec_StretchList.calls kj47 _ _ t811 _ _ t812 t821 t822 _ ?side1 ?side2 ?side3 ?side4 A88.out).mono ?_); (case side1 => repeat (first | exact (Kd.R_reads' HO814.out).2.2 | (with_reducible refine Kd.C_alloc ?_ _) | (with_reducible refine Kd.C_drewN ?_ _) | (with_reducible refine Kd.C_drew ?_))); (case side2 => exact (Kd.R_reads' HO814.out).2.1); (case side3 => repeat (first | exact (Kd.R_reads' HO816.out).2.2 | (with_reducible refine Kd.C_alloc ?_ _) | (with_reducible refine Kd.C_drewN ?_ _) | (with_reducible refine Kd.C_drew ?_))); (case side4 => exact (Kd.R_reads' HO816.out).2.1); rintro e w95 ⟨v823, rfl, ho0, hb⟩; refine ⟨_, rfl, ?_⟩; have n0_ := Aside0.mk (Kd.R_elder' (by (with_reducible repeat (first | apply Kd.R_alloc | apply Kd.R_drewN | apply Kd.R_drew)); exact HO814.out) (Kd.R_base ho0) hb); have n1_ := Aside0.mk (Kd.R_elder' (by (with_reducible repeat (first | apply Kd.R_alloc | apply Kd.R_drewN | apply Kd.R_drew)); exact HO816.out) (Kd.R_base ho0) hb); have n2_ := Aside0.mk (Kd.R_elder' (by (with_reducible repeat (first | apply Kd.R_alloc | apply Kd.R_drewN | apply Kd.R_drew)); exact HO820.out) (Kd.R_base ho0) hb); have n3_ := Aside0.mk (Kd.R_lower (Kd.R_new' (Kd.R_new' (Kd.R_new' ho0 (Kd.R_lt (by (with_reducible repeat (first | apply Kd.R_alloc | apply Kd.R_drewN | apply Kd.R_drew)); exact HO814.out))) (Kd.R_lt (by (with_reducible repeat (first | apply Kd.R_alloc | apply Kd.R_drewN | apply Kd.R_drew)); exact HO816.out))) (Kd.R_lt (by (with_reducible repeat (first | apply Kd.R_alloc | apply Kd.R_drewN | apply Kd.R_drew)); exact HO820.out))) (below_size (by repeat (first | (with_reducible first | exact HB.out | apply below_alloc | apply pw_below_drewN | apply below_drew1) | exact HB.out)))); have n4_ := Aside0.mk (below_step (by repeat (first | (with_reducible first | exact HB.out | apply below_alloc | apply pw_below_drewN | apply below_drew1) | exact HB.out)) hb); clear HO814; clear HO816; clear HO820; clear HB; have HO814 := n0_; have HO816 := n1_; have HO820 := n2_; have HO824 := n3_; have HB := n4_; clear n0_ n1_ n2_ n3_ n4_; (try clear hb); (try clear hb2); (try clear hk); (try clear hi); (try clear ho0); obtain ⟨Ao96, co96, eo96⟩ := Kd.R_slice HO820.out; subst eo96; obtain ⟨Ao97, co97, eo97⟩ := Kd.R_slice HO824.out; subst eo97) | (go_at_call 34; (with_reducible refine (laws_jSame.calls kj47 _ _ t817 _ _ t821 t825 _ ?side1 ?side2 ?side3 ?side4 A90.out).mono ?_); (case side1 => repeat (first | exact (Kd.R_reads' HO820.out).2.2 | (with_reducible refine Kd.C_alloc ?_ _) | (with_reducible refine Kd.C_drewN ?_ _) | (with_reducible refine Kd.C_drew ?_))); (case side2 => exact (Kd.R_reads' HO820.out).2.1); (case side3 => repeat (first | exact (Kd.R_reads' HO824.out).2.2 | (with_reducible refine Kd.C_alloc ?_ _) | (with_reducible refine Kd.C_drewN ?_ _) | (with_reducible refine Kd.C_drew ?_))); (case side4 => exact (Kd.R_reads' HO824.out).2.1); rintro e w' ⟨rfl, ⟨nd, rfl⟩⟩))
                go_ret
                exact ⟨by first | rfl | (simp [errW_none, errW_some] <;> rfl) | (simp [*, errW_none, errW_some] <;> rfl), by repeat (first | (with_reducible first | exact HB.out | apply below_alloc | apply pw_below_drewN | apply below_drew1) | exact HB.out)⟩
              · rw [if_neg c89] at H
                have c89b0 : (t818 == t822) = false := by simpa using c89
                (try (have c89b1 : decide (t818 = t822) = false := by simpa using c89))
                (try (have c89b2 : (t818 == t822) = false := by simpa using c89))
                (try (have c89b3 : ¬ (t818 = t822) := by simpa using c89))
                clear c89
                obtain rfl := Option.some.inj H
                go_wp2_with (first | ((with_reducible refine gate_callee (f := 45) rfl ?_); refine goesL_ (some 182) rfl rfl Try.func45 (by kernel_rfl) rfl #[.slice A1 l1.length c1] rfl (by (try simp only [List.map_toArray, List.map_cons, List.map_nil]); first | done | rfl | (simp only [List.length_drop, List.length_take]; rfl)) ?_; (with_reducible refine (spec_DrawStretchList.calls kj47 _ _ l1 t811 t812 _ ?side1 ?side2 A86.out).mono ?_); (case side1 => repeat (first | exact (Kd.C_below HR1.out HB.out) | (with_reducible refine Kd.C_alloc ?_ _) | (with_reducible refine Kd.C_drewN ?_ _) | (with_reducible refine Kd.C_drew ?_))); (case side2 => exact HC1.out); rintro e w98 ⟨v813, v815, rfl, ho0, ho1, hb⟩; refine ⟨_, rfl, ?_⟩; have n0_ := Aside0.mk (Kd.R_lower ho0 (below_size (by repeat (first | (with_reducible first | exact HB.out | apply below_alloc | apply pw_below_drewN | apply below_drew1) | exact HB.out)))); have n1_ := Aside0.mk (Kd.R_lower ho1 (below_size (by repeat (first | (with_reducible first | exact HB.out | apply below_alloc | apply pw_below_drewN | apply below_drew1) | exact HB.out)))); have n2_ := Aside0.mk (below_step (by repeat (first | (with_reducible first | exact HB.out | apply below_alloc | apply pw_below_drewN | apply below_drew1) | exact HB.out)) hb); clear HB; have HO814 := n0_; have HO816 := n1_; have HB := n2_; clear n0_ n1_ n2_; (try clear hb); (try clear hb2); (try clear hk); (try clear hi); (try clear ho0); (try clear ho1); obtain ⟨Ao99, co99, eo99⟩ := Kd.R_slice HO814.out; subst eo99; obtain ⟨Ao100, co100, eo100⟩ := Kd.R_slice HO816.out; subst eo100) | ((with_reducible refine gate_callee (f := 24) rfl ?_); refine goesL_ (some 188) rfl rfl Try.func24 (by kernel_rfl) rfl #[.slice Ao99 t811.length co99, .slice Ao100 t812.length co100] rfl (by (try simp only [List.map_toArray, List.map_cons, List.map_nil]); first | done | rfl | (simp only [List.length_drop, List.length_take]; rfl)) ?_; (with_reducible refine (impl_StretchList.calls kj47 _ _ t811 _ _ t812 t817 t818 _ ?side1 ?side2 ?side3 ?side4 A87.out).mono ?_); (case side1 => repeat (first | exact (Kd.R_reads' HO814.out).2.2 | (with_reducible refine Kd.C_alloc ?_ _) | (with_reducible refine Kd.C_drewN ?_ _) | (with_reducible refine Kd.C_drew ?_))); (case side2 => exact (Kd.R_reads' HO814.out).2.1); (case side3 => repeat (first | exact (Kd.R_reads' HO816.out).2.2 | (with_reducible refine Kd.C_alloc ?_ _) | (with_reducible refine Kd.C_drewN ?_ _) | (with_reducible refine Kd.C_drew ?_))); (case side4 => exact (Kd.R_reads' HO816.out).2.1); rintro e w101 ⟨v819, rfl, ho0, hb⟩; refine ⟨_, rfl, ?_⟩; have n0_ := Aside0.mk (Kd.R_elder' (by (with_reducible repeat (first | apply Kd.R_alloc | apply Kd.R_drewN | apply Kd.R_drew)); exact HO814.out) (Kd.R_base ho0) hb); have n1_ := Aside0.mk (Kd.R_elder' (by (with_reducible repeat (first | apply Kd.R_alloc | apply Kd.R_drewN | apply Kd.R_drew)); exact HO816.out) (Kd.R_base ho0) hb); have n2_ := Aside0.mk (Kd.R_lower (Kd.R_new' (Kd.R_new' ho0 (Kd.R_lt (by (with_reducible repeat (first | apply Kd.R_alloc | apply Kd.R_drewN | apply Kd.R_drew)); exact HO814.out))) (Kd.R_lt (by (with_reducible repeat (first | apply Kd.R_alloc | apply Kd.R_drewN | apply Kd.R_drew)); exact HO816.out))) (below_size (by repeat (first | (with_reducible first | exact HB.out | apply below_alloc | apply pw_below_drewN | apply below_drew1) | exact HB.out)))); have n3_ := Aside0.mk (below_step (by repeat (first | (with_reducible first | exact HB.out | apply below_alloc | apply pw_below_drewN | apply below_drew1) | exact HB.out)) hb); clear HO814; clear HO816; clear HB; have HO814 := n0_; have HO816 := n1_; have HO820 := n2_; have HB := n3_; clear n0_ n1_ n2_ n3_; (try clear hb); (try clear hb2); (try clear hk); (try clear hi); (try clear ho0)) | ((with_reducible refine gate_callee (f := 23) rfl ?_); refine goesL_ (some 194) rfl rfl Try.func23 (by kernel_rfl) rfl #[.slice Ao99 t811.length co99, .slice Ao100 t812.length co100] rfl (by (try simp only [List.map_toArray, List.map_cons, List.map_nil]); first | done | rfl | (simp only [List.length_drop, List.length_take]; rfl)) ?_; (with_reducible refine (spec_StretchList.calls kj47 _ _ t811 _ _ t812 t821 t822 _ ?side1 ?side2 ?side3 ?side4 A88.out).mono ?_); (case side1 => repeat (first | exact (Kd.R_reads' HO814.out).2.2 | (with_reducible refine Kd.C_alloc ?_ _) | (with_reducible refine Kd.C_drewN ?_ _) | (with_reducible refine Kd.C_drew ?_))); (case side2 => exact (Kd.R_reads' HO814.out).2.1); (case side3 => repeat (first | exact (Kd.R_reads' HO816.out).2.2 | (with_reducible refine Kd.C_alloc ?_ _) | (with_reducible refine Kd.C_drewN ?_ _) | (with_reducible refine Kd.C_drew ?_))); (case side4 => exact (Kd.R_reads' HO816.out).2.1); rintro e w102 ⟨v823, rfl, ho0, hb⟩; refine ⟨_, rfl, ?_⟩; have n0_ := Aside0.mk (Kd.R_elder' (by (with_reducible repeat (first | apply Kd.R_alloc | apply Kd.R_drewN | apply Kd.R_drew)); exact HO814.out) (Kd.R_base ho0) hb); have n1_ := Aside0.mk (Kd.R_elder' (by (with_reducible repeat (first | apply Kd.R_alloc | apply Kd.R_drewN | apply Kd.R_drew)); exact HO816.out) (Kd.R_base ho0) hb); have n2_ := Aside0.mk (Kd.R_elder' (by (with_reducible repeat (first | apply Kd.R_alloc | apply Kd.R_drewN | apply Kd.R_drew)); exact HO820.out) (Kd.R_base ho0) hb); have n3_ := Aside0.mk (Kd.R_lower (Kd.R_new' (Kd.R_new' (Kd.R_new' ho0 (Kd.R_lt (by (with_reducible repeat (first | apply Kd.R_alloc | apply Kd.R_drewN | apply Kd.R_drew)); exact HO814.out))) (Kd.R_lt (by (with_reducible repeat (first | apply Kd.R_alloc | apply Kd.R_drewN | apply Kd.R_drew)); exact HO816.out))) (Kd.R_lt (by (with_reducible repeat (first | apply Kd.R_alloc | apply Kd.R_drewN | apply Kd.R_drew)); exact HO820.out))) (below_size (by repeat (first | (with_reducible first | exact HB.out | apply below_alloc | apply pw_below_drewN | apply below_drew1) | exact HB.out)))); have n4_ := Aside0.mk (below_step (by repeat (first | (with_reducible first | exact HB.out | apply below_alloc | apply pw_below_drewN | apply below_drew1) | exact HB.out)) hb); clear HO814; clear HO816; clear HO820; clear HB; have HO814 := n0_; have HO816 := n1_; have HO820 := n2_; have HO824 := n3_; have HB := n4_; clear n0_ n1_ n2_ n3_ n4_; (try clear hb); (try clear hb2); (try clear hk); (try clear hi); (try clear ho0)))
                go_ret
                exact ⟨by first | rfl | (simp [errW_none, errW_some] <;> rfl) | (simp [*, errW_none, errW_some] <;> rfl), by repeat (first | (with_reducible first | exact HB.out | apply below_alloc | apply pw_below_drewN | apply below_drew1) | exact HB.out)⟩

/-- THE ONE PURE STATEMENT of laws_FnLongCars: yours. -/
def laws_FnLongCars.Pure : Prop := ∀ (l0 : List Int) (l1 : List Int), l0.length ≤ maxLen → l0.length * 1 ≤ 140737488351232 → (∀ x ∈ l0, (Lit.int .u8 x).wf = true) → l1.length ≤ maxLen → l1.length * 1 ≤ 140737488351232 → (∀ x ∈ l1, (Lit.int .u8 x).wf = true) → ∃ k, laws_FnLongCars.f k l0 l1 = some true
theorem laws_FnLongCars.walk (P : laws_FnLongCars.Pure) (a0 : Option Addr) (len0 cap0 : Nat) (z0 : List Int) (a1 : Option Addr) (len1 cap1 : Nat) (z1 : List Int) (w : World) (w0 : (a0 = none ∧ len0 = 0 ∧ cap0 = 0 ∧ z0 = []) ∨ ∃ x, a0 = some x ∧ len0 ≤ cap0 ∧ cap0 ≤ maxLen ∧ z0.length = cap0 ∧ (∀ i, i < z0.length → w.cell? (x.add i) = some (.int .u8 (z0.getD i 0))) ∧ ∀ n ∈ z0, (Lit.int .u8 n).wf = true) (y0 : len0 * 1 ≤ 140737488351232) (w1 : (a1 = none ∧ len1 = 0 ∧ cap1 = 0 ∧ z1 = []) ∨ ∃ x, a1 = some x ∧ len1 ≤ cap1 ∧ cap1 ≤ maxLen ∧ z1.length = cap1 ∧ (∀ i, i < z1.length → w.cell? (x.add i) = some (.int .u8 (z1.getD i 0))) ∧ ∀ n ∈ z1, (Lit.int .u8 n).wf = true) (y1 : len1 * 1 ≤ 140737488351232) :
    Calls Try.prog 9 #[.slice a0 len0 cap0, .slice a1 len1 cap1] w fun e w' => e = .returned (.bool true) ∧ Below w.heap.size w w' := by
  obtain ⟨l0, rfl, hr0, hm0, hw0, hc0⟩ := ReadsInt.ofRowC w0
  obtain ⟨l1, rfl, hr1, hm1, hw1, hc1⟩ := ReadsInt.ofRowC w1
  obtain ⟨k, h⟩ := P l0 l1 hm0 y0 hw0 hm1 y1 hw1
  refine (laws_FnLongCars.calls k _ _ l0 _ _ l1 true w (Kd.C_of_reads (d := (0 : Int)) (h1 := fun _ => rfl) hr0) hc0 (Kd.C_of_reads (d := (0 : Int)) (h1 := fun _ => rfl) hr1) hc1 h).mono ?_
  rintro e w' ⟨rfl, hd⟩
  exact ⟨rfl, hd⟩
end Go.Proofs.Ytfclfjengfmjaaa.G
namespace Go.Proofs.Ytfclfjengfmjaaa.G
open Go.RowKit Go.Proofs.YtfclfjengfmjaaaW.PrintWords Go.Proofs.YtfclfjengfmjaaaW.PrintLast Go.Proofs.YtfclfjengfmjaaaW.PrintMore
set_option linter.unusedVariables false
set_option linter.unusedSimpArgs false
theorem wrap_id {x : Int} (h1 : -9223372036854775808 ≤ x) (h2 : x ≤ 9223372036854775807) : wrap64 x = x := by unfold wrap64; omega
theorem wrap_next {i n : Nat} (h : i < n) (hn : n ≤ 4611686018427387904) : wrap64 ((i : Int) + 1) = ((i + 1 : Nat) : Int) := by rw [wrap_id (by omega) (by omega)]; rfl
theorem succ_of {d k : Nat} (h : d < k) : ∃ m, k = m + 1 := ⟨k - 1, by omega⟩
theorem rd_nat (l : List Int) (i : Nat) : rd l (i : Int) = l.getD i 0 := by unfold rd; rw [Int.toNat_natCast]
theorem take_succ_getD {l : List Int} {i : Nat} (h : i < l.length) : l.take (i + 1) = l.take i ++ [l.getD i 0] := by
  rw [List.take_succ_eq_append_getElem h, List.getD_eq_getElem?_getD, List.getElem?_eq_getElem h]; rfl
theorem drop_getD {l : List Int} {i : Nat} (h : i < l.length) : l.drop i = l.getD i 0 :: l.drop (i + 1) := by
  rw [List.drop_eq_getElem_cons h, List.getD_eq_getElem?_getD, List.getElem?_eq_getElem h]; rfl
theorem Ev.of_all {α : Type} {g : Nat → Option α} {r : α} (K : Nat) (h : ∀ k, K < k → g k = some r) : Ev g r := ⟨K + 1, fun k hk => h k (by omega)⟩
/-- A loop that counts up: its state at each count, what is left behind the last one. -/
theorem Ev.up {σ ρ : Type} (n : Nat) (S : Nat → σ) (L : Nat → σ → Int → Option ρ) (r : ρ)
    (hstep : ∀ i, i < n → Ev (fun k => L k (S (i + 1)) ((i + 1 : Nat) : Int)) r → Ev (fun k => L k (S i) (i : Int)) r)
    (hend : Ev (fun k => L k (S n) (n : Int)) r) : ∀ m, m ≤ n → Ev (fun k => L k (S m) (m : Int)) r := by
  intro m hm
  have key : ∀ d m, m + d = n → Ev (fun k => L k (S m) (m : Int)) r := by
    intro d
    induction d with
    | zero => intro m hd; obtain rfl : m = n := by omega
              exact hend
    | succ d ih => intro m hd; exact hstep m (by omega) (ih (m + 1) (by omega))
  exact key (n - m) m (by omega)
theorem Ev.up0 {σ ρ : Type} (n : Nat) (S : Nat → σ) (L : Nat → σ → Int → Option ρ) (r : ρ)
    (hstep : ∀ i, i < n → Ev (fun k => L k (S (i + 1)) ((i + 1 : Nat) : Int)) r → Ev (fun k => L k (S i) (i : Int)) r)
    (hend : Ev (fun k => L k (S n) (n : Int)) r) : Ev (fun k => L k (S 0) 0) r := Ev.up n S L r hstep hend 0 (Nat.zero_le _)
/-- A round that needs no rounds of others. -/
theorem Ev.one {α : Type} {g f : Nat → Option α} {r : α} (k : Ev f r) (h : ∀ k, g (k + 1) = f k) : Ev g r := Ev.step h k
theorem Ev.end_ {α : Type} {g : Nat → Option α} {r : α} (h : ∀ k, g (k + 1) = some r) : Ev g r := Ev.step h (Ev.now r)
theorem l1In_eq (a b c : Int) : spec_l1In.f a b c = some (decide (b ≤ a ∧ a ≤ c)) := by
  unfold spec_l1In.f
  split
  · rename_i h; congr 1; rw [Bool.eq_iff_iff]; simp; omega
  · rename_i h; congr 1; rw [Bool.eq_iff_iff]; simp; omega
theorem l1All_l0 (l : List Int) (lo hi : Int) (hn : l.length ≤ 4611686018427387904) : ∀ (d k i : Nat), i + d = l.length → d < k → spec_l1All.l0 k lo hi l (l.length : Int) i = some ((l.drop i).all fun x => decide (lo ≤ x ∧ x ≤ hi)) := by
  intro d
  induction d with
  | zero =>
    intro k i hd hk
    obtain ⟨k, rfl⟩ := succ_of hk
    rw [spec_l1All.l0, if_neg (by omega), List.drop_of_length_le (by omega)]; rfl
  | succ d ih =>
    intro k i hd hk
    obtain ⟨k, rfl⟩ := succ_of hk
    rw [spec_l1All.l0, if_pos (by omega), if_pos (by omega), if_pos (by omega), l1In_eq, Option.bind_some, rd_nat, wrap_next (n := l.length) (by omega) hn, ih k (i + 1) (by omega) (by omega), drop_getD (l := l) (i := i) (by omega), List.all_cons]
    split
    · rename_i h; rw [h, Bool.true_and]
    · rename_i h; rw [Bool.not_eq_true] at h; rw [h, Bool.false_and]
theorem l1All_ev (l : List Int) (lo hi : Int) (hn : l.length ≤ 4611686018427387904) : Ev (fun k => spec_l1All.f k l lo hi) (l.all fun x => decide (lo ≤ x ∧ x ≤ hi)) := by
  refine Ev.of_all l.length fun k hk => ?_
  have := l1All_l0 l lo hi hn l.length k 0 (by omega) hk
  simpa [spec_l1All.f] using this
def Bytes (l : List Int) : Prop := ∀ x ∈ l, 0 ≤ x ∧ x ≤ 255
theorem bytes_of {l : List Int} (h : ∀ x ∈ l, (Lit.int .u8 x).wf = true) : Bytes l := by
  intro x hx
  have h2 := h x hx
  simp only [Lit.wf, Bool.and_eq_true, decide_eq_true_eq] at h2
  have e1 : IntKind.u8.min = 0 := by decide
  have e2 : IntKind.u8.max = 255 := by decide
  rw [e1, e2] at h2
  exact h2
theorem Bytes.get {l : List Int} (h : Bytes l) (j : Nat) : 0 ≤ l.getD j 0 ∧ l.getD j 0 ≤ 255 := by
  rcases Nat.lt_or_ge j l.length with hj | hj
  · exact h _ (by rw [List.getD_eq_getElem?_getD, List.getElem?_eq_getElem hj]; exact List.getElem_mem hj)
  · rw [List.getD_eq_getElem?_getD, List.getElem?_eq_none hj]; simp
theorem and255 (x : Int) : 0 ≤ Go.bits .and .u64 x 255 ∧ Go.bits .and .u64 x 255 ≤ 255 := by
  obtain ⟨a, ha⟩ : ∃ a : BitVec 64, a = BitVec.ofInt 64 x := ⟨_, rfl⟩
  have e : Go.bits .and .u64 x 255 = IntKind.u64.wrap ((BitVec.ofInt 64 x &&& BitVec.ofInt 64 255).toNat : Int) := rfl
  have hle : (BitVec.ofInt 64 x &&& BitVec.ofInt 64 255).toNat ≤ 255 := by
    rw [BitVec.toNat_and]
    exact Nat.le_trans Nat.and_le_right (by decide)
  rw [e, IntKind.wrap_u64]
  omega
theorem next_ok {l : List Int} (hb : Bytes l) (p s : Int) (h0 : 0 ≤ p) (h1 : p ≤ 1000000000000000000) : ∃ v s', spec_l1Cur_next.f l p s = some (v, p + 1, s') ∧ 0 ≤ v ∧ v ≤ 255 := by
  have hw : wrap64 (p + 1) = p + 1 := wrap_id (by omega) (by omega)
  have hr : 0 ≤ rd l p ∧ rd l p ≤ 255 := hb.get _
  unfold spec_l1Cur_next.f
  rw [hw]
  by_cases c1 : p < (l.length : Int)
  · rw [if_pos c1, if_pos h0]
    by_cases c2 : p + 1 ≤ (l.length : Int)
    · rw [if_pos c2]
      exact ⟨_, _, rfl, by rw [wrap_id (by omega) (by omega)]; exact hr⟩
    · omega
  · rw [if_neg c1]
    rw [if_neg (by omega)]
    refine ⟨_, _, rfl, ?_⟩
    have := and255 ((IntKind.u64.wrap ((IntKind.u64.wrap (IntKind.u64.wrap (s * 6364136223846793005))) + 1442695040888963407)) / 1099511627776)
    rw [wrap_id (by omega) (by omega)]
    exact this
theorem tmod_ok {v a : Int} (hv : 0 ≤ v) (ha : 0 < a) : 0 ≤ Int.tmod v a ∧ Int.tmod v a < a := by
  rw [Int.tmod_eq_emod_of_nonneg hv]
  exact ⟨Int.emod_nonneg _ (by omega), Int.emod_lt_of_pos _ ha⟩
theorem pick_ok {l : List Int} (hb : Bytes l) (p s a : Int) (h0 : 0 ≤ p) (h1 : p ≤ 100000000000000000) : ∃ r p' s', spec_l1Cur_pick.f l p s a = some (r, p', s') ∧ 0 ≤ r ∧ (r < a ∨ r = 0) ∧ p ≤ p' ∧ p' ≤ p + 2 := by
  unfold spec_l1Cur_pick.f
  by_cases c1 : a ≤ 1
  · rw [if_pos c1]
    exact ⟨0, p, s, rfl, by omega, Or.inr rfl, by omega, by omega⟩
  · rw [if_neg c1]
    obtain ⟨v, s1, e1, b1, b2⟩ := next_ok hb p s h0 (by omega)
    rw [e1, Option.bind_some]
    by_cases c2 : a > 200
    · rw [if_pos c2]
      obtain ⟨v2, s2, e2, b3, b4⟩ := next_ok hb (p + 1) s1 (by omega) (by omega)
      simp only [e2, Option.bind_some]
      rw [if_neg (by omega)]
      have hw : wrap64 (wrap64 (v * 256) + v2) = v * 256 + v2 := by rw [wrap_id (x := v * 256) (by omega) (by omega), wrap_id (by omega) (by omega)]
      have := tmod_ok (v := v * 256 + v2) (a := a) (by omega) (by omega)
      rw [hw]
      exact ⟨_, _, _, rfl, this.1, Or.inl this.2, by omega, by omega⟩
    · rw [if_neg c2, if_neg (by omega)]
      have := tmod_ok (v := v) (a := a) (by omega) (by omega)
      exact ⟨_, _, _, rfl, this.1, Or.inl this.2, by show p ≤ p + 1; omega, by show p + 1 ≤ p + 2; omega⟩
theorem among_ok {l : List Int} (hb : Bytes l) (p s : Int) (q : List Int) (hq : 0 < q.length) (h0 : 0 ≤ p) (h1 : p ≤ 100000000000000000) : ∃ v p' s', spec_l1Cur_among.f l p s q = some (v, p', s') ∧ p ≤ p' ∧ p' ≤ p + 2 := by
  obtain ⟨r, p', s', e, b1, b2, b3, b4⟩ := pick_ok hb p s (q.length : Int) h0 h1
  unfold spec_l1Cur_among.f
  rw [e, Option.bind_some]
  simp only [b1, if_true]
  rw [if_pos (by omega)]
  exact ⟨_, _, _, rfl, b3, b4⟩
theorem one_ok {l : List Int} (hb : Bytes l) (p s a : Int) (h0 : 0 ≤ p) (h1 : p ≤ 100000000000000000) : ∃ v p' s', spec_l1Cur_one.f l p s a = some (v, p', s') ∧ p ≤ p' ∧ p' ≤ p + 2 := by
  obtain ⟨r, p', s', e, b1, b2, b3, b4⟩ := pick_ok hb p s a h0 h1
  unfold spec_l1Cur_one.f
  rw [e, Option.bind_some]
  exact ⟨_, _, _, rfl, b3, b4⟩
theorem big_eq (a b : List Int) : ∃ r, laws_big.f a b = some r := by
  unfold laws_big.f
  split
  · exact ⟨_, rfl⟩
  · exact ⟨_, rfl⟩
end Go.Proofs.Ytfclfjengfmjaaa.G
namespace ParkT
/-- The first free place from a on, of d places. -/
def fwdF (S : Nat → Bool) : Nat → Nat → Option Nat
  | 0, _ => none
  | d + 1, a => if S a = false then some a else fwdF S d (a + 1)
theorem fwdF_some {S : Nat → Bool} : ∀ {d a p : Nat}, fwdF S d a = some p → a ≤ p ∧ p < a + d ∧ S p = false ∧ ∀ q, a ≤ q → q < p → S q = true
  | 0, a, p, h => by simp [fwdF] at h
  | d + 1, a, p, h => by
    unfold fwdF at h
    split at h
    · obtain rfl := Option.some.inj h
      exact ⟨Nat.le_refl _, by omega, ‹_›, fun q h1 h2 => by omega⟩
    · rename_i hs
      obtain ⟨h1, h2, h3, h4⟩ := fwdF_some h
      refine ⟨by omega, by omega, h3, fun q hq1 hq2 => ?_⟩
      rcases Nat.lt_or_ge a q with h5 | h5
      · exact h4 q (by omega) hq2
      · have : q = a := by omega
        rw [this]; simpa using hs
/-- How many of the places a, .., a + d - 1 are taken. -/
def cnt (S : Nat → Bool) : Nat → Nat → Nat
  | 0, _ => 0
  | d + 1, a => (if S a = true then 1 else 0) + cnt S d (a + 1)
def put (S : Nat → Bool) (p : Nat) : Nat → Bool := fun q => decide (q = p) || S q
/-- No more places are taken from any place on. -/
def Dom (N : Nat) (S' S : Nat → Bool) : Prop := ∀ j, j ≤ N → cnt S' (N - j) j ≤ cnt S (N - j) j
theorem Dom.refl (N : Nat) (S : Nat → Bool) : Dom N S S := fun _ _ => Nat.le_refl _
def driveS (N : Nat) : (Nat → Bool) → List Nat → List (Option Nat)
  | _, [] => []
  | S, a :: l => match fwdF S (N - a) a with
    | none => none :: driveS N S l
    | some p => some p :: driveS N (put S p) l
end ParkT
namespace Go.Proofs.Ytfclfjengfmjaaa.G
open Go.RowKit Go.Proofs.YtfclfjengfmjaaaW.PrintWords Go.Proofs.YtfclfjengfmjaaaW.PrintLast Go.Proofs.YtfclfjengfmjaaaW.PrintMore
set_option linter.unusedVariables false
set_option linter.unusedSimpArgs false
/-- Every car finds a place. -/
def allP (N : Nat) : (Nat → Bool) → List Nat → Bool
  | _, [] => true
  | S, a :: l => match ParkT.fwdF S (N - a) a with
    | none => false
    | some p => allP N (ParkT.put S p) l
theorem allP_lt {N : Nat} : ∀ (l : List Nat) (S : Nat → Bool), allP N S l = true → ∀ a ∈ l, a < N
  | [], _, _, a, h => by simp at h
  | b :: l, S, h, a, ha => by
    rw [allP] at h
    cases e : ParkT.fwdF S (N - b) b with
    | none => rw [e] at h; cases h
    | some p =>
      rw [e] at h
      have hb := ParkT.fwdF_some e
      rcases List.mem_cons.1 ha with rfl | ha
      · omega
      · exact allP_lt l _ h a ha
def valP : Option Nat → Int
  | none => -1
  | some p => p
theorem allP_iff {N : Nat} : ∀ (l : List Nat) (S : Nat → Bool), allP N S l = !decide ((-1 : Int) ∈ (ParkT.driveS N S l).map valP)
  | [], _ => by simp [allP, ParkT.driveS]
  | a :: l, S => by
    rw [allP, ParkT.driveS]
    cases e : ParkT.fwdF S (N - a) a with
    | none => simp [valP]
    | some p =>
      simp only [List.map_cons, List.mem_cons, valP, allP_iff l]
      congr 1
      have : ¬ ((-1 : Int) = (p : Int)) := by omega
      simp [this]
def occ (x : List Int) (q : Nat) : Bool := decide ((q : Int) ∈ x)
theorem occ_none (x : List Int) : occ (x ++ [-1]) = occ x := by
  funext q
  unfold occ
  have : ¬ ((q : Int) = -1) := by omega
  simp [this]
theorem occ_some (x : List Int) (p : Nat) : occ (x ++ [(p : Int)]) = ParkT.put (occ x) p := by
  funext q
  unfold occ ParkT.put
  have : ((q : Int) = (p : Int)) ↔ q = p := by omega
  simp [this, Bool.or_comm]
theorem l1Has_l0 (x : List Int) (a : Int) (hn : x.length ≤ 4611686018427387904) : ∀ (d i : Nat), i + d = x.length → Ev (fun k => spec_l1Has.l0 k a x (x.length : Int) i) (decide (a ∈ x.drop i)) := by
  intro d
  induction d with
  | zero =>
    intro i hd
    refine Ev.end_ fun k => ?_
    rw [spec_l1Has.l0, if_neg (by omega), List.drop_eq_nil_of_le (by omega)]
    simp
  | succ d ih =>
    intro i hd
    have e1 := drop_getD (l := x) (i := i) (by omega)
    by_cases h : x.getD i 0 = a
    · refine Ev.end_ fun k => ?_
      rw [spec_l1Has.l0, if_pos (by omega), if_pos (by omega), if_pos (by omega), rd_nat, if_pos h, e1, h, decide_eq_true (List.mem_cons_self)]
    · refine Ev.one (f := fun k => spec_l1Has.l0 k a x (x.length : Int) ((i + 1 : Nat) : Int)) ?_ fun k => ?_
      · have := ih (i + 1) (by omega)
        have e : decide (a ∈ x.drop i) = decide (a ∈ x.drop (i + 1)) := by
          rw [e1]
          have : ¬ a = x.getD i 0 := fun e => h e.symm
          simp only [List.mem_cons, this, false_or]
        rw [e]; exact this
      · rw [spec_l1Has.l0, if_pos (by omega), if_pos (by omega), if_pos (by omega), rd_nat, if_neg h, wrap_next (n := x.length) (by omega) hn]
theorem l1Has_ev (x : List Int) (a : Int) (hn : x.length ≤ 4611686018427387904) : Ev (fun k => spec_l1Has.f k x a) (decide (a ∈ x)) := by
  unfold spec_l1Has.f
  have := l1Has_l0 x a hn x.length 0 (by omega)
  simpa using this
theorem paDrive_l1 (N : Nat) (hN : N ≤ 1000) (x l : List Int) (hx : x.length ≤ 1000) (len : Int) (i : Int) (r : List Int) : ∀ (d a : Nat), a + d = N → Ev (fun k => spec_paDrive.l0 k (N : Int) (x ++ [valP (ParkT.fwdF (occ x) d a)]) l len (wrap64 (i + 1))) r → Ev (fun k => spec_paDrive.l1 k (N : Int) x (a : Int) l len i) r := by
  intro d
  induction d with
  | zero =>
    intro a ha h
    refine Ev.one h fun k => ?_
    rw [spec_paDrive.l1, if_neg (by omega), if_pos (by omega), if_pos (by omega)]
    rfl
  | succ d ih =>
    intro a ha h
    rw [ParkT.fwdF] at h
    refine Ev.step (f := fun k => (spec_l1Has.f k x (a : Int)).bind fun t369 => (if t369 = true then (spec_paDrive.l1 k (N : Int) x ((a + 1 : Nat) : Int) l len i) else (spec_paDrive.l0 k (N : Int) (x ++ [(a : Int)]) l len (wrap64 (i + 1))))) (fun k => by rw [spec_paDrive.l1, if_pos (by omega), wrap_next (n := N) (by omega) (by omega), if_neg (show ¬ ((a : Int) ≥ (N : Int)) by omega), if_pos (by omega)]) ?_
    refine Ev.bind (l1Has_ev x _ (by omega)) ?_
    by_cases hh : occ x a = true
    · rw [if_neg (by rw [hh]; simp)] at h
      have e : decide ((a : Int) ∈ x) = true := hh
      simp only [e, if_true]
      exact ih (a + 1) (by omega) h
    · rw [if_pos (by simpa using hh)] at h
      have e : decide ((a : Int) ∈ x) = false := by simpa [occ] using hh
      simp only [e, Bool.false_eq_true, if_false]
      exact h
def natL (l : List Int) : List Nat := l.map Int.toNat
theorem paDrive_l0 (l : List Int) (N : Nat) (hN : N ≤ 1000) (hl : l.length ≤ 900) (hr : ∀ j, j < l.length → 0 ≤ l.getD j 0 ∧ l.getD j 0 ≤ N) : ∀ (d i : Nat) (x : List Int), i + d = l.length → x.length ≤ i → Ev (fun k => spec_paDrive.l0 k (N : Int) x l (l.length : Int) i) (x ++ (ParkT.driveS N (occ x) (natL (l.drop i))).map valP) := by
  intro d
  induction d with
  | zero =>
    intro i x hd hx
    refine Ev.end_ fun k => ?_
    rw [spec_paDrive.l0, if_neg (by omega), List.drop_eq_nil_of_le (by omega)]
    simp [natL, ParkT.driveS]
  | succ d ih =>
    intro i x hd hx
    have hi : i < l.length := by omega
    have hri := hr i hi
    obtain ⟨a, ha⟩ : ∃ a : Nat, l.getD i 0 = a := ⟨(l.getD i 0).toNat, by omega⟩
    refine Ev.one (f := fun k => spec_paDrive.l1 k (N : Int) x (a : Int) l (l.length : Int) (i : Int)) ?_ fun k => by rw [spec_paDrive.l0, if_pos (by omega), if_pos (by omega), if_pos (by omega), rd_nat, ha]
    refine paDrive_l1 N hN x l (by omega) _ _ _ (N - a) a (by omega) ?_
    rw [wrap_next (n := l.length) hi (by omega)]
    have := ih (i + 1) (x ++ [valP (ParkT.fwdF (occ x) (N - a) a)]) (by omega) (by simp; omega)
    have e : x ++ (ParkT.driveS N (occ x) (natL (l.drop i))).map valP = x ++ [valP (ParkT.fwdF (occ x) (N - a) a)] ++ (ParkT.driveS N (occ (x ++ [valP (ParkT.fwdF (occ x) (N - a) a)])) (natL (l.drop (i + 1)))).map valP := by
      rw [drop_getD hi, ha]
      show x ++ (ParkT.driveS N (occ x) ((a : Int).toNat :: natL (l.drop (i + 1)))).map valP = _
      rw [Int.toNat_natCast, ParkT.driveS]
      cases hf : ParkT.fwdF (occ x) (N - a) a with
      | none => simp [valP, occ_none]
      | some p => simp [valP, occ_some]
    rw [e]
    exact this
def parkB (l : List Int) : Bool := decide (l.length ≤ 8) && (l.all fun x => decide (0 ≤ x ∧ x ≤ (l.length : Int) - 1)) && allP l.length (fun _ => false) (natL l)
theorem all_get {l : List Int} {lo hi : Int} (h : (l.all fun x => decide (lo ≤ x ∧ x ≤ hi)) = true) {j : Nat} (hj : j < l.length) : lo ≤ l.getD j 0 ∧ l.getD j 0 ≤ hi := by
  rw [List.all_eq_true] at h
  have := h l[j] (List.getElem_mem hj)
  rw [List.getD_eq_getElem?_getD, List.getElem?_eq_getElem hj]
  simpa using this
theorem paParking_ev (l : List Int) (hn : l.length ≤ 4611686018427387904) : Ev (fun k => spec_paParking.f k l) (parkB l) := by
  unfold spec_paParking.f parkB
  by_cases h8 : l.length ≤ 8
  · simp only [show ((l.length : Int) ≤ 8) from by omega, if_true]
    rw [decide_eq_true h8, Bool.true_and, wrap_id (x := (l.length : Int) - 1) (by omega) (by omega)]
    refine Ev.bind (l1All_ev l _ _ hn) ?_
    cases ha : (l.all fun x => decide (0 ≤ x ∧ x ≤ (l.length : Int) - 1)) with
    | false => simp only [Bool.false_eq_true, if_false, Bool.false_and]; exact Ev.now _
    | true =>
      simp only [if_true, Bool.true_and]
      unfold spec_paAll.f
      have hd : Ev (fun k => spec_paDrive.f k l (l.length : Int)) ((ParkT.driveS l.length (fun _ => false) (natL l)).map valP) := by
        unfold spec_paDrive.f
        have := paDrive_l0 l l.length (by omega) (by omega) (fun j hj => by have := all_get ha hj; omega) l.length 0 [] (by omega) (by simp)
        have eo : occ [] = fun _ => false := by funext q; simp [occ]
        rw [eo] at this
        simpa using this
      have hlen : ∀ (l : List Nat) (N : Nat) (S : Nat → Bool), (ParkT.driveS N S l).length = l.length := by
        intro l
        induction l with
        | nil => intro N S; rfl
        | cons a l ih =>
          intro N S
          rw [ParkT.driveS]
          cases ParkT.fwdF S (N - a) a <;> simp [ih]
      refine Ev.bind ?_ (Ev.now _)
      refine Ev.bind hd ?_
      refine Ev.bind (l1Has_ev _ _ (by rw [List.length_map, hlen]; simp [natL]; omega)) ?_
      rw [allP_iff]
      exact Ev.now _
  · simp only [show ¬ ((l.length : Int) ≤ 8) from by omega, if_false]
    rw [decide_eq_false h8, Bool.false_and, Bool.false_and]
    exact Ev.now _
def taken (x : List Bool) (q : Nat) : Bool := x.getD q false
theorem drive_l1 (N : Nat) (hN : N ≤ 1000) (x : List Bool) (hx : x.length = N) (o l : List Int) (ho : o.length ≤ 1000) (len i : Int) (r : List Int × Bool) :
    ∀ (d a : Nat), a + d = N → (match ParkT.fwdF (taken x) d a with | none => r = ([], false) | some p => Ev (fun k => impl_drive.l0 k (N : Int) (x.set p true) (o ++ [(p : Int)]) l len (wrap64 (i + 1))) r) → Ev (fun k => impl_drive.l1 k (N : Int) x o (a : Int) l len i) r := by
  intro d
  induction d with
  | zero =>
    intro a ha h
    rw [ParkT.fwdF] at h
    subst h
    exact Ev.end_ fun k => by rw [impl_drive.l1, if_neg (by omega), if_pos (by omega)]
  | succ d ih =>
    intro a ha h
    rw [ParkT.fwdF] at h
    have hrd : rdOf false x (a : Int) = taken x a := by simp [rdOf, taken]
    by_cases hh : taken x a = true
    · rw [if_neg (by rw [hh]; simp)] at h
      refine Ev.one (ih (a + 1) (by omega) h) fun k => ?_
      rw [impl_drive.l1, if_pos (by omega), if_pos (by omega), if_pos (by omega), if_pos (by rw [hrd]; exact hh), wrap_next (n := N) (by omega) (by omega)]
    · rw [if_pos (by simpa using hh)] at h
      simp only at h
      refine Ev.one h fun k => ?_
      rw [impl_drive.l1, if_pos (by omega), if_pos (by omega), if_pos (by omega), if_neg (by rw [hrd]; exact hh), if_neg (by omega), if_pos (by omega), Int.toNat_natCast]
theorem drive_past (N : Nat) (x : List Bool) (o l : List Int) (len i a : Int) (ha : (N : Int) ≤ a) : Ev (fun k => impl_drive.l1 k (N : Int) x o a l len i) (([] : List Int), false) :=
  Ev.end_ fun k => by rw [impl_drive.l1, if_neg (by omega), if_pos (by omega)]
theorem taken_set {x : List Bool} {p : Nat} (hp : p < x.length) : taken (x.set p true) = ParkT.put (taken x) p := by
  funext q
  show (x.set p true).getD q false = (decide (q = p) || x.getD q false)
  rw [List.getD_eq_getElem?_getD, List.getD_eq_getElem?_getD, List.getElem?_set]
  by_cases e : p = q
  · subst e; simp [hp]
  · have : ¬ q = p := fun h => e h.symm
    simp [e, this]
/-- The places, where every car finds one. -/
def outP' (N : Nat) : (Nat → Bool) → List Nat → List Int
  | _, [] => []
  | S, a :: l => match ParkT.fwdF S (N - a) a with
    | none => []
    | some p => (p : Int) :: outP' N (ParkT.put S p) l
theorem drive_l0 (l : List Int) (N : Nat) (hN : N ≤ 1000) (hl : l.length ≤ 900) (hr : ∀ j, j < l.length → 0 ≤ l.getD j 0) : ∀ (d i : Nat) (x : List Bool) (o : List Int), i + d = l.length → x.length = N → o.length ≤ i → Ev (fun k => impl_drive.l0 k (N : Int) x o l (l.length : Int) i) (if allP N (taken x) (natL (l.drop i)) = true then (o ++ outP' N (taken x) (natL (l.drop i)), true) else ([], false)) := by
  intro d
  induction d with
  | zero =>
    intro i x o hd hx ho
    refine Ev.end_ fun k => ?_
    rw [impl_drive.l0, if_neg (by omega), List.drop_eq_nil_of_le (by omega)]
    simp [natL, allP, outP']
  | succ d ih =>
    intro i x o hd hx ho
    have hi : i < l.length := by omega
    have hri := hr i hi
    obtain ⟨a, ha⟩ : ∃ a : Nat, l.getD i 0 = a := ⟨(l.getD i 0).toNat, by omega⟩
    refine Ev.one (f := fun k => impl_drive.l1 k (N : Int) x o (a : Int) l (l.length : Int) (i : Int)) ?_ fun k => by rw [impl_drive.l0, if_pos (by omega), if_pos (by omega), if_pos (by omega), rd_nat, ha]
    have e0 : natL (l.drop i) = a :: natL (l.drop (i + 1)) := by
      rw [drop_getD hi, ha]
      show (a : Int).toNat :: natL (l.drop (i + 1)) = _
      rw [Int.toNat_natCast]
    rw [e0, allP, outP']
    by_cases hlt : a < N
    · refine drive_l1 N hN x hx o l (by omega) _ _ _ (N - a) a (by omega) ?_
      cases hf : ParkT.fwdF (taken x) (N - a) a with
      | none => simp
      | some p =>
        have hp := ParkT.fwdF_some hf
        simp only
        rw [wrap_next (n := l.length) hi (by omega)]
        have := ih (i + 1) (x.set p true) (o ++ [(p : Int)]) (by omega) (by simpa using hx) (by simp; omega)
        rw [taken_set (by omega)] at this
        simpa using this
    · have e1 : N - a = 0 := by omega
      rw [e1, ParkT.fwdF]
      simp only [Bool.false_eq_true, if_false]
      exact drive_past N x o l _ _ _ (by omega)
theorem isParking_ev (l : List Int) : Ev (fun k => impl_isParking.f k l) (parkB l) := by
  unfold impl_isParking.f impl_areCars.f
  by_cases h8 : l.length ≤ 8
  · simp only [show ((l.length : Int) ≤ 8) from by omega, if_true, impl_areBetween.f, Option.bind_some]
    cases hb : (l.all fun x => decide (0 ≤ x) && decide (x ≤ 99)) with
    | false =>
      simp only [Bool.false_eq_true, if_false]
      have : parkB l = false := by
        unfold parkB
        rw [decide_eq_true h8, Bool.true_and]
        have h1 : (l.all fun x => decide (0 ≤ x ∧ x ≤ (l.length : Int) - 1)) = false := by
          rw [List.all_eq_false] at hb ⊢
          obtain ⟨x, hx, hn⟩ := hb
          refine ⟨x, hx, ?_⟩
          simp at hn ⊢
          omega
        rw [h1, Bool.false_and]
      rw [this]
      exact Ev.now _
    | true =>
      simp only [if_true]
      have hr : ∀ j, j < l.length → 0 ≤ l.getD j 0 := by
        intro j hj
        rw [List.all_eq_true] at hb
        have := hb l[j] (List.getElem_mem hj)
        rw [List.getD_eq_getElem?_getD, List.getElem?_eq_getElem hj]
        simp at this ⊢
        exact this.1
      have hd : Ev (fun k => impl_drive.f k l (l.length : Int)) (if allP l.length (fun _ => false) (natL l) = true then (outP' l.length (fun _ => false) (natL l), true) else ([], false)) := by
        unfold impl_drive.f
        simp only [show (0 : Int) ≤ (l.length : Int) by omega, Int.toNat_natCast, show l.length ≤ 281474976710656 by omega, if_true]
        have := drive_l0 l l.length (by omega) (by omega) hr l.length 0 (List.replicate l.length false) [] (by omega) (by simp) (by simp)
        have et : taken (List.replicate l.length false) = fun _ => false := by
          funext q
          unfold taken
          rw [List.getD_eq_getElem?_getD, List.getElem?_replicate]
          split <;> rfl
        rw [et] at this
        simpa using this
      refine Ev.bind hd ?_
      have e : parkB l = allP l.length (fun _ => false) (natL l) := by
        unfold parkB
        rw [decide_eq_true h8, Bool.true_and]
        cases ha : allP l.length (fun _ => false) (natL l) with
        | false => rw [Bool.and_false]
        | true =>
          rw [Bool.and_true, List.all_eq_true]
          intro x hx
          have h1 := allP_lt _ _ ha x.toNat (List.mem_map.2 ⟨x, hx, rfl⟩)
          obtain ⟨j, hj, rfl⟩ := List.getElem_of_mem hx
          have h2 := hr j hj
          rw [List.getD_eq_getElem?_getD, List.getElem?_eq_getElem hj] at h2
          simp at h2
          exact decide_eq_true (by omega)
      rw [e]
      cases allP l.length (fun _ => false) (natL l) with
      | true => simp only [if_true]; exact Ev.now _
      | false => simp only [Bool.false_eq_true, if_false]; exact Ev.now _
  · simp only [show ¬ ((l.length : Int) ≤ 8) from by omega, if_false, Option.bind_some, Bool.false_eq_true]
    unfold parkB
    rw [decide_eq_false h8, Bool.false_and, Bool.false_and]
    exact Ev.now _
theorem own_eq (q : List Int) (h : q.length < 17592186044416) : spec_l1Own.f q = some q := by
  unfold spec_l1Own.f
  simp only [Option.bind_some, List.length_nil, Nat.zero_add, h, if_true, List.nil_append]
theorem park_l1 (l : List Int) (p s : Int) : ∀ (d : Nat) (x : List Int), x.length + d = 9 → Ev (fun k => spec_l1Cur_park.l1 k x l p s) (x ++ List.replicate d 0, p, s) := by
  intro d
  induction d with
  | zero =>
    intro x hd
    refine Ev.end_ fun k => ?_
    rw [spec_l1Cur_park.l1, if_neg (by omega)]
    simp
  | succ d ih =>
    intro x hd
    refine Ev.one (f := fun k => spec_l1Cur_park.l1 k (x ++ [0]) l p s) ?_ fun k => by rw [spec_l1Cur_park.l1, if_pos (by omega), if_pos (by omega)]
    have := ih (x ++ [0]) (by simp; omega)
    rw [List.replicate_succ]
    simpa using this
theorem park_l0 {l : List Int} (hb : Bytes l) : ∀ (d : Nat) (x : List Int) (p s : Int), x.length + d ≤ 9 → 0 ≤ p → p + 4 * d ≤ 1000000000000000 → ∃ out p' s', Ev (fun k => spec_l1Cur_park.l0 k x (d : Int) l p s) (out, p', s') ∧ out.length ≤ 10 ∧ p ≤ p' ∧ p' ≤ p + 4 * d + 8 := by
  intro d
  induction d with
  | zero =>
    intro x p s hd h0 h1
    obtain ⟨r, p1, s1, e1, b1, b2, b3, b4⟩ := pick_ok hb p s 20 h0 (by omega)
    by_cases c0 : r = 0
    · obtain ⟨v, p2, s2, e2, b5, b6⟩ := among_ok hb p1 s1 [-1, 0, (x.length : Int), wrap64 ((x.length : Int) + 1), 99, 100] (by simp) (by omega) (by omega)
      refine ⟨x ++ [v], p2, s2, Ev.end_ fun k => ?_, by simp; omega, by omega, by omega⟩
      rw [spec_l1Cur_park.l0, if_neg (by omega), e1, Option.bind_some]
      simp only [c0, if_true]
      rw [e2, Option.bind_some, if_pos (by omega)]
    · by_cases c1 : r = 1
      · by_cases c2 : (x.length : Int) > 0
        · obtain ⟨v, p2, s2, e2, b5, b6, b7, b8⟩ := pick_ok hb p1 s1 (x.length : Int) (by omega) (by omega)
          obtain ⟨u, p3, s3, e3, b9, b10, b11, b12⟩ := pick_ok hb p2 s2 (x.length : Int) (by omega) (by omega)
          refine ⟨x.set v.toNat u, p3, s3, Ev.end_ fun k => ?_, by simp; omega, by omega, by omega⟩
          rw [spec_l1Cur_park.l0, if_neg (by omega), e1, Option.bind_some]
          simp only [c0, c1, c2, if_true, if_false]
          rw [if_neg (by omega), e2, Option.bind_some]
          simp only
          rw [e3, Option.bind_some, if_pos b5, if_pos (by omega)]
        · refine ⟨x, p1, s1, Ev.end_ fun k => ?_, by omega, by omega, by omega⟩
          rw [spec_l1Cur_park.l0, if_neg (by omega), e1, Option.bind_some]
          simp only [c0, c1, c2, if_true, if_false]
          rw [if_neg (by omega)]
      · by_cases c2 : r = 2
        · refine ⟨x ++ List.replicate (9 - x.length) 0, p1, s1, Ev.one (park_l1 l p1 s1 (9 - x.length) x (by omega)) fun k => ?_, by simp; omega, by omega, by omega⟩
          rw [spec_l1Cur_park.l0, if_neg (by omega), e1, Option.bind_some]
          simp only
          rw [if_neg c0, if_neg c1, if_pos c2]
        · refine ⟨x, p1, s1, Ev.end_ fun k => ?_, by omega, by omega, by omega⟩
          rw [spec_l1Cur_park.l0, if_neg (by omega), e1, Option.bind_some]
          simp only
          rw [if_neg c0, if_neg c1, if_neg c2]
  | succ d ih =>
    intro x p s hd h0 h1
    obtain ⟨r, p1, s1, e1, b1, b2, b3, b4⟩ := pick_ok hb p s (wrap64 ((x.length : Int) + 1)) h0 (by omega)
    obtain ⟨u, p2, s2, e2, b5, b6, b7, b8⟩ := pick_ok hb p1 s1 (wrap64 ((x.length : Int) + 1)) (by omega) (by omega)
    rw [wrap_id (x := (x.length : Int) + 1) (by omega) (by omega)] at b6 e1 e2
    obtain ⟨out, p', s', he, ho, hp1, hp2⟩ := ih (x.take u.toNat ++ [r] ++ x.drop u.toNat) p2 s2 (by simp; omega) (by omega) (by omega)
    refine ⟨out, p', s', Ev.one he fun k => ?_, ho, by omega, by omega⟩
    rw [spec_l1Cur_park.l0, if_pos (by omega), wrap_id (x := (x.length : Int) + 1) (by omega) (by omega), e1, Option.bind_some]
    simp only
    rw [e2, Option.bind_some, if_pos b5, if_pos (by omega), own_eq _ (by rw [List.length_take]; omega), Option.bind_some, if_pos (by rw [List.length_take]; omega), Option.bind_some, Option.bind_some, if_pos (by simp; omega), wrap_id (x := ((d + 1 : Nat) : Int) - 1) (by omega) (by omega), show ((d + 1 : Nat) : Int) - 1 = (d : Int) by omega]
theorem take_sum' {l : List Int} {q : Nat} (hq : q < l.length) : (l.take (q + 1)).sum = (l.take q).sum + l.getD q 0 := by
  rw [take_succ_getD hq, List.sum_append]; simp
theorem take_range {l : List Int} {B : Int} (hB : 0 ≤ B) (hb : ∀ j, -B ≤ l.getD j 0 ∧ l.getD j 0 ≤ B) : ∀ q, q ≤ l.length → -((q : Int) * B) ≤ (l.take q).sum ∧ (l.take q).sum ≤ (q : Int) * B := by
  intro q
  induction q with
  | zero => intro _; simp
  | succ q ih =>
    intro hq
    have := ih (by omega)
    have := hb q
    rw [take_sum' (by omega)]
    push_cast
    rw [Int.add_mul]
    omega
theorem paSum_ev (l : List Int) (hl : l.length ≤ 1000) (hb : ∀ j, -1000 ≤ l.getD j 0 ∧ l.getD j 0 ≤ 1000) : Ev (fun k => spec_paSum.f k l) l.sum := by
  unfold spec_paSum.f
  have hs := take_range (l := l) (B := 1000) (by omega) hb
  have := Ev.up0 l.length (fun q => (l.take q).sum) (fun k s q => spec_paSum.l0 k s l (l.length : Int) q) l.sum (fun q hq h => Ev.one h fun k => ?_) (Ev.end_ fun k => ?_)
  · simpa using this
  · have := hs q (by omega)
    have := hb q
    rw [spec_paSum.l0, if_pos (by omega), if_pos (by omega), if_pos (by omega), rd_nat, wrap_id (x := (l.take q).sum + l.getD q 0) (by omega) (by omega), wrap_next (n := l.length) hq (by omega), take_sum' hq]
  · rw [spec_paSum.l0, if_neg (by omega), List.take_length]
theorem total_ev (l : List Int) (hl : l.length ≤ 1000) (hb : ∀ j, -1000 ≤ l.getD j 0 ∧ l.getD j 0 ≤ 1000) : Ev (fun k => impl_total.f k l) l.sum := by
  unfold impl_total.f
  have hs := take_range (l := l) (B := 1000) (by omega) hb
  have := Ev.up0 l.length (fun q => (l.take q).sum) (fun k s q => impl_total.l0 k s l (l.length : Int) q) l.sum (fun q hq h => Ev.one h fun k => ?_) (Ev.end_ fun k => ?_)
  · simpa using this
  · have := hs q (by omega)
    have := hb q
    rw [impl_total.l0, if_pos (by omega), if_pos (by omega), if_pos (by omega), rd_nat, wrap_id (x := (l.take q).sum + l.getD q 0) (by omega) (by omega), wrap_next (n := l.length) hq (by omega), take_sum' hq]
  · rw [impl_total.l0, if_neg (by omega), List.take_length]
theorem between_eq (a b c : Int) : impl_between.f a b c = some (decide (b ≤ a ∧ a ≤ c)) := by
  unfold impl_between.f
  by_cases h : a ≥ b
  · rw [if_pos h]; congr 1; simp; omega
  · rw [if_neg h]; congr 1; simp; omega
def inB (l : List Int) (lo hi : Int) : Bool := l.all fun x => decide (lo ≤ x ∧ x ≤ hi)
theorem areBetween_eq (l : List Int) (lo hi : Int) : impl_areBetween.f l lo hi = some (inB l lo hi) := by
  unfold impl_areBetween.f inB
  congr 2
  funext x
  rw [Bool.eq_iff_iff]; simp
theorem inB_get {l : List Int} {lo hi : Int} (h : inB l lo hi = true) {j : Nat} (hj : j < l.length) : lo ≤ l.getD j 0 ∧ l.getD j 0 ≤ hi := by
  unfold inB at h
  rw [List.all_eq_true] at h
  have := h l[j] (List.getElem_mem hj)
  rw [List.getD_eq_getElem?_getD, List.getElem?_eq_getElem hj]
  simpa using this
theorem inB_wide {l : List Int} {lo hi : Int} (h : inB l lo hi = true) (h1 : -1000 ≤ lo) (h2 : hi ≤ 1000) (j : Nat) : -1000 ≤ l.getD j 0 ∧ l.getD j 0 ≤ 1000 := by
  rcases Nat.lt_or_ge j l.length with hj | hj
  · have := inB_get h hj; omega
  · rw [List.getD_eq_getElem?_getD, List.getElem?_eq_none hj]; simp
def lenB (w : List Int) : Bool := decide (1 ≤ (w.length : Int) ∧ (w.length : Int) ≤ 8) && inB w 1 12 && decide (w.sum ≤ 12)
theorem loLengths_ev (w : List Int) (hn : w.length ≤ 4611686018427387904) : Ev (fun k => spec_loLengths.f k w) (lenB w) := by
  unfold spec_loLengths.f lenB
  simp only [l1In_eq, Option.bind_some]
  by_cases h : 1 ≤ (w.length : Int) ∧ (w.length : Int) ≤ 8
  · rw [decide_eq_true h, Bool.true_and]
    simp only [if_true]
    refine Ev.bind (l1All_ev w 1 12 hn) ?_
    show Ev (fun k => if inB w 1 12 = true then _ else _) _
    cases ha : inB w 1 12 with
    | true =>
      simp only [if_true, Bool.true_and]
      refine Ev.bind (paSum_ev w (by omega) (inB_wide ha (by omega) (by omega))) ?_
      exact Ev.now _
    | false => simp only [Bool.false_eq_true, if_false, Bool.false_and]; exact Ev.now _
  · rw [decide_eq_false h]
    simp only [Bool.false_eq_true, if_false, Bool.false_and]
    exact Ev.now _
theorem areLengths_ev (w : List Int) : Ev (fun k => impl_areLengths.f k w) (lenB w) := by
  unfold impl_areLengths.f lenB
  simp only [between_eq, areBetween_eq, Option.bind_some]
  by_cases h : 1 ≤ (w.length : Int) ∧ (w.length : Int) ≤ 8
  · rw [decide_eq_true h, Bool.true_and]
    simp only [if_true]
    cases ha : inB w 1 12 with
    | true =>
      simp only [if_true, Bool.true_and]
      refine Ev.bind (total_ev w (by omega) (inB_wide ha (by omega) (by omega))) ?_
      exact Ev.now _
    | false => simp only [Bool.false_eq_true, if_false, Bool.false_and]; exact Ev.now _
  · rw [decide_eq_false h]
    simp only [Bool.false_eq_true, if_false, Bool.false_and]
    exact Ev.now _
theorem lenB_parts {w : List Int} (h : lenB w = true) : 1 ≤ w.length ∧ w.length ≤ 8 ∧ (∀ j, j < w.length → 1 ≤ w.getD j 0 ∧ w.getD j 0 ≤ 12) ∧ 1 ≤ w.sum ∧ w.sum ≤ 12 ∧ ∀ j, -1000 ≤ w.getD j 0 ∧ w.getD j 0 ≤ 1000 := by
  unfold lenB at h
  simp only [Bool.and_eq_true, decide_eq_true_eq] at h
  obtain ⟨⟨h1, h2⟩, h3⟩ := h
  refine ⟨by omega, by omega, fun j hj => inB_get h2 hj, ?_, h3, inB_wide h2 (by omega) (by omega)⟩
  have key : ∀ q, q ≤ w.length → (q : Int) ≤ (w.take q).sum := by
    intro q
    induction q with
    | zero => intro _; simp
    | succ q ih =>
      intro hq
      have := ih (by omega)
      have := inB_get h2 (j := q) (by omega)
      rw [take_sum' (by omega)]
      push_cast
      omega
  have := key w.length (Nat.le_refl _)
  rw [List.take_length] at this
  omega
def taskB (l w : List Int) : Bool := lenB w && decide (l.length = w.length) && inB l 0 (w.sum - 1)
theorem loTask_ev (l w : List Int) (hl : l.length ≤ 4611686018427387904) (hw : w.length ≤ 4611686018427387904) : Ev (fun k => spec_loTask.f k l w) (taskB l w) := by
  unfold spec_loTask.f taskB
  refine Ev.bind (loLengths_ev w hw) ?_
  cases h : lenB w with
  | true =>
    obtain ⟨h1, h2, h3, h4, h5, h6⟩ := lenB_parts h
    simp only [if_true, Bool.true_and]
    by_cases he : l.length = w.length
    · rw [decide_eq_true he, Bool.true_and]
      simp only [show ((l.length : Int) = (w.length : Int)) from by omega, if_true]
      refine Ev.bind (paSum_ev w (by omega) h6) ?_
      rw [wrap_id (x := w.sum - 1) (by omega) (by omega)]
      exact Ev.bind (l1All_ev l 0 (w.sum - 1) hl) (Ev.now _)
    · rw [decide_eq_false he, Bool.false_and]
      simp only [show ¬ ((l.length : Int) = (w.length : Int)) from by omega, if_false]
      exact Ev.now _
  | false => simp only [Bool.false_eq_true, if_false, Bool.false_and]; exact Ev.now _
theorem areLong_ev (l w : List Int) : Ev (fun k => impl_areLong.f k l w) (taskB l w) := by
  unfold impl_areLong.f taskB
  refine Ev.bind (areLengths_ev w) ?_
  cases h : lenB w with
  | true =>
    obtain ⟨h1, h2, h3, h4, h5, h6⟩ := lenB_parts h
    simp only [if_true, Bool.true_and]
    by_cases he : l.length = w.length
    · rw [decide_eq_true he, Bool.true_and]
      simp only [show ((l.length : Int) = (w.length : Int)) from by omega, if_true]
      refine Ev.bind (total_ev w (by omega) h6) ?_
      unfold impl_AreFavourites.f
      simp only [between_eq, areBetween_eq, Option.bind_some]
      rw [decide_eq_true (show 1 ≤ w.sum ∧ w.sum ≤ 12 from ⟨h4, h5⟩)]
      simp only [if_true]
      rw [if_pos (by omega), wrap_id (x := w.sum - 1) (by omega) (by omega)]
      exact Ev.now _
    · rw [decide_eq_false he, Bool.false_and]
      simp only [show ¬ ((l.length : Int) = (w.length : Int)) from by omega, if_false]
      exact Ev.now _
  | false => simp only [Bool.false_eq_true, if_false, Bool.false_and]; exact Ev.now _
def tk (T : List Bool) (q : Nat) : Bool := T.getD q false
/-- The first free place from a on, of d places. -/
def upF (T : List Bool) : Nat → Nat → Nat
  | 0, a => a
  | d + 1, a => if tk T a = true then upF T d (a + 1) else a
theorem upF_le (T : List Bool) : ∀ (d a : Nat), a ≤ upF T d a ∧ upF T d a ≤ a + d
  | 0, a => by simp [upF]
  | d + 1, a => by
    rw [upF]
    split
    · have := upF_le T d (a + 1); omega
    · omega
def fill (T : List Bool) : Nat → Nat → List Bool
  | _, 0 => T
  | x, w + 1 => fill (T.set x true) (x + 1) w
theorem fill_len : ∀ (w : Nat) (T : List Bool) (x : Nat), (fill T x w).length = T.length
  | 0, _, _ => rfl
  | w + 1, T, x => by rw [fill, fill_len w]; simp
/-- w places from x on are there and free. -/
def freeW (T : List Bool) : Nat → Nat → Bool
  | _, 0 => true
  | x, w + 1 => decide (x < T.length) && !tk T x && freeW T (x + 1) w
/-- The first places, up to a car that is blocked. -/
def longV (l w : List Int) : Nat → Nat → List Bool → List Int → List Int
  | 0, _, _, out => out
  | d + 1, i, T, out =>
    let x := upF T (T.length - (l.getD i 0).toNat) (l.getD i 0).toNat
    if freeW T x (w.getD i 0).toNat = true then longV l w d (i + 1) (fill T x (w.getD i 0).toNat) (out ++ [(x : Int)]) else out
theorem freeW_le {T : List Bool} : ∀ (W x : Nat), freeW T x W = true → 1 ≤ W → x + W ≤ T.length
  | 0, _, _, h => by omega
  | 1, x, h, _ => by
    simp only [freeW, Bool.and_eq_true, decide_eq_true_eq] at h; omega
  | W + 2, x, h, _ => by
    rw [freeW] at h
    simp only [Bool.and_eq_true] at h
    have := freeW_le (W + 1) (x + 1) h.2 (by omega)
    omega
theorem rdOf_tk (T : List Bool) (q : Nat) : rdOf false T (q : Int) = tk T q := by simp [rdOf, tk]
end Go.Proofs.Ytfclfjengfmjaaa.G
namespace Go.Proofs.Ytfclfjengfmjaaa.G
open Go.RowKit Go.Proofs.YtfclfjengfmjaaaW.PrintWords Go.Proofs.YtfclfjengfmjaaaW.PrintLast Go.Proofs.YtfclfjengfmjaaaW.PrintMore
set_option linter.unusedVariables false
set_option linter.unusedSimpArgs false
section
variable (l w : List Int)
theorem sp_l3 (i : Nat) (hi : i < w.length) (out : List Int) (ho : out.length ≤ 1000) (x : Nat) (hx : x ≤ 1000) (W : Nat) (hW : w.getD i 0 = W) (hW2 : W ≤ 1000) (r : List Int) :
    ∀ (d q : Nat) (T : List Bool), q + d = x + W → q + d ≤ T.length → T.length ≤ 1000 → Ev (fun k => spec_loDrive.l0 k w (fill T q d) (out ++ [(x : Int)]) l (l.length : Int) (wrap64 ((i : Int) + 1))) r → Ev (fun k => spec_loDrive.l3 k w T out (i : Int) (x : Int) (q : Int) l (l.length : Int) (i : Int)) r := by
  intro d
  induction d with
  | zero =>
    intro q T hd hT hTl h
    refine Ev.one h fun k => ?_
    rw [spec_loDrive.l3, if_pos (by omega), if_pos (by omega), rd_nat, hW, wrap_id (x := (x : Int) + (W : Int)) (by omega) (by omega), if_neg (by omega), if_pos (by omega)]
    rfl
  | succ d ih =>
    intro q T hd hT hTl h
    refine Ev.one (ih (q + 1) (T.set q true) (by omega) (by simp; omega) (by simpa using hTl) h) fun k => ?_
    rw [spec_loDrive.l3, if_pos (by omega), if_pos (by omega), rd_nat, hW, wrap_id (x := (x : Int) + (W : Int)) (by omega) (by omega), if_pos (by omega), if_pos (by omega), if_pos (by omega), Int.toNat_natCast, wrap_next (n := T.length + 1) (by omega) (by omega)]
theorem sp_l2 (i : Nat) (hi : i < w.length) (out : List Int) (x : Nat) (hx : x ≤ 1000) (W : Nat) (hW : w.getD i 0 = W) (hW2 : W ≤ 1000) (T : List Bool) (hTl : T.length ≤ 1000) (r : List Int)
    (h : Ev (fun k => spec_loDrive.l3 k w T out (i : Int) (x : Int) (x : Int) l (l.length : Int) (i : Int)) r) :
    ∀ (d q : Nat), q + d = x + W → freeW T q d = true → Ev (fun k => spec_loDrive.l2 k w T out (i : Int) (x : Int) (q : Int) l (l.length : Int) (i : Int)) r := by
  intro d
  induction d with
  | zero =>
    intro q hd _
    refine Ev.one h fun k => ?_
    rw [spec_loDrive.l2, if_pos (by omega), if_pos (by omega), rd_nat, hW, wrap_id (x := (x : Int) + (W : Int)) (by omega) (by omega), if_neg (by omega)]
  | succ d ih =>
    intro q hd hf
    rw [freeW] at hf
    simp only [Bool.and_eq_true, decide_eq_true_eq, Bool.not_eq_true'] at hf
    obtain ⟨⟨hq, ht⟩, hf⟩ := hf
    refine Ev.one (ih (q + 1) (by omega) hf) fun k => ?_
    rw [spec_loDrive.l2, if_pos (by omega), if_pos (by omega), rd_nat, hW, wrap_id (x := (x : Int) + (W : Int)) (by omega) (by omega), if_pos (by omega), if_neg (by omega), if_pos (by omega), if_pos (by omega), rdOf_tk, ht, if_neg (by decide), wrap_next (n := T.length) hq (by omega)]
theorem sp_l2f (i : Nat) (hi : i < w.length) (out : List Int) (x : Nat) (hx : x ≤ 1000) (W : Nat) (hW : w.getD i 0 = W) (hW2 : W ≤ 1000) (T : List Bool) (hTl : T.length ≤ 1000) :
    ∀ (d q : Nat), q + d = x + W → freeW T q d = false → Ev (fun k => spec_loDrive.l2 k w T out (i : Int) (x : Int) (q : Int) l (l.length : Int) (i : Int)) out := by
  intro d
  induction d with
  | zero => intro q _ h; simp [freeW] at h
  | succ d ih =>
    intro q hd h
    by_cases hq : q < T.length
    · cases ht : tk T q with
      | true =>
        refine Ev.end_ fun k => ?_
        rw [spec_loDrive.l2, if_pos (by omega), if_pos (by omega), rd_nat, hW, wrap_id (x := (x : Int) + (W : Int)) (by omega) (by omega), if_pos (by omega), if_neg (by omega), if_pos (by omega), if_pos (by omega), rdOf_tk, ht, if_pos rfl]
      | false =>
        rw [freeW, ht] at h
        refine Ev.one (ih (q + 1) (by omega) (by simpa [hq] using h)) fun k => ?_
        rw [spec_loDrive.l2, if_pos (by omega), if_pos (by omega), rd_nat, hW, wrap_id (x := (x : Int) + (W : Int)) (by omega) (by omega), if_pos (by omega), if_neg (by omega), if_pos (by omega), if_pos (by omega), rdOf_tk, ht, if_neg (by decide), wrap_next (n := T.length) hq (by omega)]
    · refine Ev.end_ fun k => ?_
      rw [spec_loDrive.l2, if_pos (by omega), if_pos (by omega), rd_nat, hW, wrap_id (x := (x : Int) + (W : Int)) (by omega) (by omega), if_pos (by omega), if_pos (by omega)]
theorem sp_l1 (i : Nat) (out : List Int) (T : List Bool) (hTl : T.length ≤ 1000) (r : List Int) :
    ∀ (d a : Nat), a + d = T.length → Ev (fun k => spec_loDrive.j2 k w T out (i : Int) (upF T d a : Nat) l (l.length : Int) (i : Int)) r → Ev (fun k => spec_loDrive.l1 k w T out (i : Int) (a : Int) l (l.length : Int) (i : Int)) r := by
  intro d
  induction d with
  | zero =>
    intro a hd h
    refine Ev.one h fun k => ?_
    rw [spec_loDrive.l1, if_neg (by omega)]; rfl
  | succ d ih =>
    intro a hd h
    cases ht : tk T a with
    | true =>
      rw [upF, if_pos ht] at h
      refine Ev.one (ih (a + 1) (by omega) h) fun k => ?_
      rw [spec_loDrive.l1, if_pos (by omega), if_pos (by omega), rdOf_tk, ht, if_pos rfl, wrap_next (n := T.length) (by omega) (by omega)]
    | false =>
      rw [upF, if_neg (by rw [ht]; decide)] at h
      refine Ev.one h fun k => ?_
      rw [spec_loDrive.l1, if_pos (by omega), if_pos (by omega), rdOf_tk, ht, if_neg (by decide)]
/-- What a good task says of each car. -/
def CarOk (S : Nat) : Prop := w.length = l.length ∧ l.length ≤ 1000 ∧ S ≤ 1000 ∧ ∀ j, j < l.length → (∃ a : Nat, l.getD j 0 = a ∧ a < S) ∧ ∃ W : Nat, w.getD j 0 = W ∧ 1 ≤ W ∧ W ≤ 1000
theorem sp_l0 (S : Nat) (hok : CarOk l w S) : ∀ (d i : Nat) (T : List Bool) (out : List Int), i + d = l.length → T.length = S → out.length ≤ i → Ev (fun k => spec_loDrive.l0 k w T out l (l.length : Int) (i : Int)) (longV l w d i T out) := by
  obtain ⟨h1, h2, h3, h4⟩ := hok
  intro d
  induction d with
  | zero =>
    intro i T out hd hT ho
    rw [longV]
    refine Ev.end_ fun k => ?_
    rw [spec_loDrive.l0, if_neg (by omega)]
  | succ d ih =>
    intro i T out hd hT ho
    obtain ⟨⟨a, ha, haS⟩, W, hW, hW1, hW2⟩ := h4 i (by omega)
    rw [longV, ha, hW, Int.toNat_natCast, Int.toNat_natCast]
    have hup := upF_le T (T.length - a) a
    generalize hx : upF T (T.length - a) a = x at hup
    have hl1 : Ev (fun k => spec_loDrive.l1 k w T out (i : Int) (a : Int) l (l.length : Int) (i : Int)) (if freeW T x W = true then longV l w d (i + 1) (fill T x W) (out ++ [(x : Int)]) else out) := by
      refine sp_l1 l w i out T (by omega) _ (T.length - a) a (by omega) ?_
      rw [hx]
      cases hf : freeW T x W with
      | true =>
        rw [if_pos rfl]
        have hfT : x + W ≤ T.length := freeW_le W x hf (by omega)
        have := sp_l2 l w i (by omega) out x (by omega) W hW hW2 T (by omega) (longV l w d (i + 1) (fill T x W) (out ++ [(x : Int)])) (sp_l3 l w i (by omega) out (by omega) x (by omega) W hW hW2 _ W x T (by omega) (by omega) (by omega) (by
          rw [wrap_next (n := l.length) (by omega) (by omega)]
          exact ih (i + 1) _ _ (by omega) (by rw [fill_len]; exact hT) (by simp; omega))) W x (by omega) hf
        exact Ev.one this fun k => rfl
      | false =>
        rw [if_neg (by decide)]
        exact Ev.one (sp_l2f l w i (by omega) out x (by omega) W hW hW2 T (by omega) W x (by omega) hf) fun k => rfl
    refine Ev.one hl1 fun k => ?_
    rw [spec_loDrive.l0, if_pos (by omega), if_pos (by omega), if_pos (by omega), rd_nat, ha]
end
end Go.Proofs.Ytfclfjengfmjaaa.G
namespace Go.Proofs.Ytfclfjengfmjaaa.G
open Go.RowKit Go.Proofs.YtfclfjengfmjaaaW.PrintWords Go.Proofs.YtfclfjengfmjaaaW.PrintLast Go.Proofs.YtfclfjengfmjaaaW.PrintMore
set_option linter.unusedVariables false
set_option linter.unusedSimpArgs false
theorem contains_l0 (L : List Bool) (hL : L.length ≤ 1000) : ∀ (d i : Nat), i + d = L.length → ∃ r, Ev (fun k => slices_Index_bool_bool.l0 k L true (L.length : Int) (i : Int)) r ∧ decide (r ≥ 0) = (L.drop i).any id := by
  intro d
  induction d with
  | zero =>
    intro i hd
    refine ⟨-1, Ev.end_ fun k => ?_, ?_⟩
    · rw [slices_Index_bool_bool.l0, if_neg (by omega)]
    · rw [List.drop_of_length_le (by omega)]; rfl
  | succ d ih =>
    intro i hd
    have hdr : L.drop i = tk L i :: L.drop (i + 1) := by
      rw [List.drop_eq_getElem_cons (by omega), tk, List.getD_eq_getElem?_getD, List.getElem?_eq_getElem (by omega)]; rfl
    cases ht : tk L i with
    | true =>
      refine ⟨i, Ev.end_ fun k => ?_, ?_⟩
      · rw [slices_Index_bool_bool.l0, if_pos (by omega), if_pos (by omega), if_pos (by omega), rdOf_tk, ht, if_pos (by decide)]
      · rw [hdr, ht]; simp
    | false =>
      obtain ⟨r, hr, hd2⟩ := ih (i + 1) (by omega)
      refine ⟨r, Ev.one hr fun k => ?_, ?_⟩
      · rw [slices_Index_bool_bool.l0, if_pos (by omega), if_pos (by omega), if_pos (by omega), rdOf_tk, ht, if_neg (by decide), wrap_next (n := L.length) (by omega) (by omega)]
      · rw [hdr, ht, hd2]; simp
theorem contains_ev (L : List Bool) (hL : L.length ≤ 1000) : Ev (fun k => slices_Contains_bool_bool.f k L true) (L.any id) := by
  obtain ⟨r, hr, hd⟩ := contains_l0 L hL L.length 0 (by omega)
  unfold slices_Contains_bool_bool.f slices_Index_bool_bool.f
  rw [← show decide (r ≥ 0) = L.any id from hd]
  exact Ev.bind hr (Ev.now _)
theorem freeW_any (T : List Bool) : ∀ (W x : Nat), x + W ≤ T.length → freeW T x W = !((T.take (x + W)).drop x).any id := by
  intro W
  induction W with
  | zero => intro x hx; rw [freeW, List.drop_of_length_le (by simp; omega)]; rfl
  | succ W ih =>
    intro x hx
    have h1 := ih (x + 1) (by omega)
    rw [freeW, h1, decide_eq_true (show x < T.length by omega), Bool.true_and]
    have hdr : (T.take (x + (W + 1))).drop x = tk T x :: (T.take (x + 1 + W)).drop (x + 1) := by
      rw [show x + (W + 1) = x + 1 + W by omega, List.drop_eq_getElem_cons (by simp; omega), tk, List.getD_eq_getElem?_getD, List.getElem?_eq_getElem (by omega), List.getElem_take]; rfl
    rw [hdr, List.any_cons, Bool.not_or]; rfl
end Go.Proofs.Ytfclfjengfmjaaa.G
namespace Go.Proofs.Ytfclfjengfmjaaa.G
open Go.RowKit Go.Proofs.YtfclfjengfmjaaaW.PrintWords Go.Proofs.YtfclfjengfmjaaaW.PrintLast Go.Proofs.YtfclfjengfmjaaaW.PrintMore
set_option linter.unusedVariables false
set_option linter.unusedSimpArgs false
section
variable (l w : List Int)
theorem im_l2 (i : Nat) (out : List Int) (ho : out.length ≤ 1000) (x E : Nat) (r : List Int) :
    ∀ (d q : Nat) (T : List Bool), q + d = E → q + d ≤ T.length → T.length ≤ 1000 → Ev (fun k => impl_driveLong.l0 k w (fill T q d) (out ++ [(x : Int)]) l (l.length : Int) (wrap64 ((i : Int) + 1))) r → Ev (fun k => impl_driveLong.l2 k w T out (x : Int) (E : Int) (q : Int) l (l.length : Int) (i : Int)) r := by
  intro d
  induction d with
  | zero =>
    intro q T hd hT hTl h
    refine Ev.one h fun k => ?_
    rw [impl_driveLong.l2, if_neg (by omega), if_pos (by omega)]
    rfl
  | succ d ih =>
    intro q T hd hT hTl h
    refine Ev.one (ih (q + 1) (T.set q true) (by omega) (by simp; omega) (by simpa using hTl) h) fun k => ?_
    rw [impl_driveLong.l2, if_pos (by omega), if_pos (by omega), if_pos (by omega), Int.toNat_natCast, wrap_next (n := T.length + 1) (by omega) (by omega)]
theorem im_l1 (i : Nat) (out : List Int) (T : List Bool) (hTl : T.length ≤ 1000) (r : List Int) :
    ∀ (d a : Nat), a + d = T.length → Ev (fun k => impl_driveLong.j2 k w T out (i : Int) (upF T d a : Nat) l (l.length : Int) (i : Int)) r → Ev (fun k => impl_driveLong.l1 k w T out (i : Int) (a : Int) l (l.length : Int) (i : Int)) r := by
  intro d
  induction d with
  | zero =>
    intro a hd h
    refine Ev.one h fun k => ?_
    rw [impl_driveLong.l1, if_neg (by omega)]; rfl
  | succ d ih =>
    intro a hd h
    cases ht : tk T a with
    | true =>
      rw [upF, if_pos ht] at h
      refine Ev.one (ih (a + 1) (by omega) h) fun k => ?_
      rw [impl_driveLong.l1, if_pos (by omega), if_pos (by omega), rdOf_tk, ht, if_pos rfl, wrap_next (n := T.length) (by omega) (by omega)]
    | false =>
      rw [upF, if_neg (by rw [ht]; decide)] at h
      refine Ev.one h fun k => ?_
      rw [impl_driveLong.l1, if_pos (by omega), if_pos (by omega), rdOf_tk, ht, if_neg (by decide)]
theorem im_l0 (S : Nat) (hok : CarOk l w S) : ∀ (d i : Nat) (T : List Bool) (out : List Int), i + d = l.length → T.length = S → out.length ≤ i → Ev (fun k => impl_driveLong.l0 k w T out l (l.length : Int) (i : Int)) (longV l w d i T out) := by
  obtain ⟨h1, h2, h3, h4⟩ := hok
  intro d
  induction d with
  | zero =>
    intro i T out hd hT ho
    rw [longV]
    refine Ev.end_ fun k => ?_
    rw [impl_driveLong.l0, if_neg (by omega)]
  | succ d ih =>
    intro i T out hd hT ho
    obtain ⟨⟨a, ha, haS⟩, W, hW, hW1, hW2⟩ := h4 i (by omega)
    rw [longV, ha, hW, Int.toNat_natCast, Int.toNat_natCast]
    have hup := upF_le T (T.length - a) a
    generalize hx : upF T (T.length - a) a = x at hup
    have hl1 : Ev (fun k => impl_driveLong.l1 k w T out (i : Int) (a : Int) l (l.length : Int) (i : Int)) (if freeW T x W = true then longV l w d (i + 1) (fill T x W) (out ++ [(x : Int)]) else out) := by
      refine im_l1 l w i out T (by omega) _ (T.length - a) a (by omega) ?_
      rw [hx]
      by_cases hE : x + W ≤ T.length
      · have hany := freeW_any T W x hE
        refine Ev.one (f := fun k => (slices_Contains_bool_bool.f k ((T.take (x + W)).drop x) true).bind fun t157 => (impl_driveLong.j3 k w T out (x : Int) ((x + W : Nat) : Int) l (l.length : Int) (i : Int) t157)) ?_ fun k => ?_
        · refine Ev.bind (contains_ev _ (by simp; omega)) ?_
          rw [show ((T.take (x + W)).drop x).any id = !freeW T x W by rw [hany, Bool.not_not]]
          cases hf : freeW T x W with
          | true =>
            rw [if_pos rfl]
            refine Ev.one (im_l2 l w i out (by omega) x (x + W) (longV l w d (i + 1) (fill T x W) (out ++ [(x : Int)])) W x T rfl hE (by omega) ?_) fun k => ?_
            · rw [wrap_next (n := l.length) (by omega) (by omega)]
              exact ih (i + 1) _ _ (by omega) (by rw [fill_len]; exact hT) (by simp; omega)
            · rw [impl_driveLong.j3, if_neg (by decide)]
          | false =>
            rw [if_neg (by decide)]
            refine Ev.end_ fun k => ?_
            rw [impl_driveLong.j3, if_pos (by decide)]
        · rw [impl_driveLong.j2, if_pos (by omega), if_pos (by omega), rd_nat, hW, wrap_id (x := (x : Int) + (W : Int)) (by omega) (by omega), if_neg (by omega), if_pos (by omega), if_pos (by omega), if_pos (by omega)]
          rfl
      · have hf : freeW T x W = false := by
          cases hf : freeW T x W with
          | false => rfl
          | true => exact absurd (freeW_le W x hf (by omega)) hE
        rw [hf, if_neg (by decide)]
        refine Ev.one (f := fun k => impl_driveLong.j3 k w T out (x : Int) ((x + W : Nat) : Int) l (l.length : Int) (i : Int) true) (Ev.end_ fun k => ?_) fun k => ?_
        · rw [impl_driveLong.j3, if_pos rfl]
        · rw [impl_driveLong.j2, if_pos (by omega), if_pos (by omega), rd_nat, hW, wrap_id (x := (x : Int) + (W : Int)) (by omega) (by omega), if_pos (by omega)]
          rfl
    refine Ev.one hl1 fun k => ?_
    rw [impl_driveLong.l0, if_pos (by omega), if_pos (by omega), if_pos (by omega), rd_nat, ha]
end
end Go.Proofs.Ytfclfjengfmjaaa.G
namespace Go.Proofs.Ytfclfjengfmjaaa.G
open Go.RowKit Go.Proofs.YtfclfjengfmjaaaW.PrintWords Go.Proofs.YtfclfjengfmjaaaW.PrintLast Go.Proofs.YtfclfjengfmjaaaW.PrintMore
set_option linter.unusedVariables false
set_option linter.unusedSimpArgs false
theorem taskB_parts {l w : List Int} (h : taskB l w = true) : lenB w = true ∧ l.length = w.length ∧ ∀ j, j < l.length → 0 ≤ l.getD j 0 ∧ l.getD j 0 ≤ w.sum - 1 := by
  unfold taskB at h
  simp only [Bool.and_eq_true, decide_eq_true_eq] at h
  exact ⟨h.1.1, h.1.2, fun j hj => inB_get h.2 hj⟩
theorem taskB_ok {l w : List Int} (h : taskB l w = true) : CarOk l w w.sum.toNat := by
  obtain ⟨h1, h2, h3⟩ := taskB_parts h
  obtain ⟨a1, a2, a3, a4, a5, a6⟩ := lenB_parts h1
  refine ⟨by omega, by omega, by omega, fun j hj => ⟨⟨(l.getD j 0).toNat, ?_, ?_⟩, (w.getD j 0).toNat, ?_, ?_, ?_⟩⟩
  · have := h3 j hj; omega
  · have := h3 j hj; omega
  · have := a3 j (by omega); omega
  · have := a3 j (by omega); omega
  · have := a3 j (by omega); omega
/-- The first places of long cars, up to the one that is blocked. -/
def longs (l w : List Int) : List Int := longV l w l.length 0 (List.replicate w.sum.toNat false) []
theorem loDrive_ev {l w : List Int} (h : taskB l w = true) : Ev (fun k => spec_loDrive.f k l w) (longs l w) := by
  have hp := lenB_parts (taskB_parts h).1
  unfold spec_loDrive.f longs
  refine Ev.bind (paSum_ev w (by omega) hp.2.2.2.2.2) ?_
  simp only [show (0 : Int) ≤ w.sum by omega, show w.sum.toNat ≤ 281474976710656 by omega, if_true]
  exact sp_l0 l w _ (taskB_ok h) l.length 0 _ _ (by omega) (by simp) (by simp)
theorem driveLong_ev {l w : List Int} (h : taskB l w = true) : Ev (fun k => impl_driveLong.f k l w) (longs l w) := by
  have hp := lenB_parts (taskB_parts h).1
  unfold impl_driveLong.f longs
  refine Ev.bind (total_ev w (by omega) hp.2.2.2.2.2) ?_
  simp only [show (0 : Int) ≤ w.sum by omega, show w.sum.toNat ≤ 281474976710656 by omega, if_true]
  exact im_l0 l w _ (taskB_ok h) l.length 0 _ _ (by omega) (by simp) (by simp)
def longP (l w : List Int) : List Int × Bool := if taskB l w = true then (if (longs l w).length < l.length then ([], false) else (longs l w, true)) else ([], false)
theorem spec_DriveLong_ev (l w : List Int) (hl : l.length ≤ 4611686018427387904) (hw : w.length ≤ 4611686018427387904) : Ev (fun k => spec_DriveLong.f k l w) (longP l w) := by
  unfold spec_DriveLong.f longP
  refine Ev.bind (loTask_ev l w hl hw) ?_
  cases h : taskB l w with
  | true =>
    simp only [if_true]
    refine Ev.bind (loDrive_ev h) ?_
    by_cases hh : (longs l w).length < l.length
    · simp only [show ((longs l w).length : Int) < (l.length : Int) from by omega, hh, if_true]; exact Ev.now _
    · simp only [show ¬ ((longs l w).length : Int) < (l.length : Int) from by omega, hh, if_false]; exact Ev.now _
  | false => simp only [Bool.false_eq_true, if_false]; exact Ev.now _
theorem impl_DriveLong_ev (l w : List Int) : Ev (fun k => impl_DriveLong.f k l w) (longP l w) := by
  unfold impl_DriveLong.f longP
  refine Ev.bind (areLong_ev l w) ?_
  cases h : taskB l w with
  | true =>
    simp only [if_true]
    refine Ev.bind (driveLong_ev h) ?_
    by_cases hh : (longs l w).length < l.length
    · simp only [show ((longs l w).length : Int) < (l.length : Int) from by omega, hh, if_true]; exact Ev.now _
    · simp only [show ¬ ((longs l w).length : Int) < (l.length : Int) from by omega, hh, if_false]; exact Ev.now _
  | false => simp only [Bool.false_eq_true, if_false]; exact Ev.now _
theorem longV_len (l w : List Int) : ∀ (d i : Nat) (T : List Bool) (out : List Int), (longV l w d i T out).length ≤ out.length + d
  | 0, _, _, _ => by rw [longV]; omega
  | d + 1, i, T, out => by
    rw [longV]
    split
    · have := longV_len l w d (i + 1) (fill T (upF T (T.length - (l.getD i 0).toNat) (l.getD i 0).toNat) (w.getD i 0).toNat) (out ++ [((upF T (T.length - (l.getD i 0).toNat) (l.getD i 0).toNat : Nat) : Int)])
      simp only [List.length_append, List.length_cons, List.length_nil] at this
      exact Nat.le_trans this (by omega)
    · omega
theorem longs_len (l w : List Int) : (longs l w).length ≤ l.length := by
  have := longV_len l w l.length 0 (List.replicate w.sum.toNat false) []
  unfold longs; simpa using this
theorem longP_len (l w : List Int) : (longP l w).1.length ≤ l.length := by
  unfold longP
  split
  · split
    · simp
    · exact longs_len l w
  · simp
theorem paDrive_ev (l : List Int) (N : Nat) (hN : N ≤ 1000) (hl : l.length ≤ 900) (hr : ∀ j, j < l.length → 0 ≤ l.getD j 0 ∧ l.getD j 0 ≤ N) : Ev (fun k => spec_paDrive.f k l (N : Int)) ((ParkT.driveS N (fun _ => false) (natL l)).map valP) := by
  unfold spec_paDrive.f
  have := paDrive_l0 l N hN hl hr l.length 0 [] (by omega) (by simp)
  have eo : occ [] = fun _ => false := by funext q; simp [occ]
  rw [eo] at this
  simpa using this
theorem drive_ev (l : List Int) (N : Nat) (hN : N ≤ 1000) (hl : l.length ≤ 900) (hr : ∀ j, j < l.length → 0 ≤ l.getD j 0) : Ev (fun k => impl_drive.f k l (N : Int)) (if allP N (fun _ => false) (natL l) = true then (outP' N (fun _ => false) (natL l), true) else ([], false)) := by
  unfold impl_drive.f
  simp only [show (0 : Int) ≤ (N : Int) by omega, Int.toNat_natCast, show N ≤ 281474976710656 by omega, if_true]
  have := drive_l0 l N hN hl hr l.length 0 (List.replicate N false) [] (by omega) (by simp) (by simp)
  have et : taken (List.replicate N false) = fun _ => false := by
    funext q
    unfold taken
    rw [List.getD_eq_getElem?_getD, List.getElem?_replicate]
    split <;> rfl
  rw [et] at this
  simpa using this
theorem out_eq {N : Nat} : ∀ (l : List Nat) (S : Nat → Bool), allP N S l = true → (ParkT.driveS N S l).map valP = outP' N S l
  | [], S, _ => rfl
  | a :: l, S, h => by
    rw [allP] at h
    rw [ParkT.driveS, outP']
    cases e : ParkT.fwdF S (N - a) a with
    | none => rw [e] at h; cases h
    | some p =>
      rw [e] at h
      simp only [List.map_cons, out_eq l _ h]
      rfl
theorem outP'_len {N : Nat} : ∀ (l : List Nat) (S : Nat → Bool), (outP' N S l).length ≤ l.length
  | [], S => by simp [outP']
  | a :: l, S => by
    rw [outP']
    cases e : ParkT.fwdF S (N - a) a with
    | none => simp
    | some p => simp only [List.length_cons]; have := outP'_len l (ParkT.put S p) (N := N); omega
theorem parkB_in {l : List Int} (h : parkB l = true) : l.length ≤ 8 ∧ (∀ j, j < l.length → 0 ≤ l.getD j 0 ∧ l.getD j 0 ≤ l.length) ∧ allP l.length (fun _ => false) (natL l) = true := by
  unfold parkB at h
  simp only [Bool.and_eq_true, decide_eq_true_eq] at h
  obtain ⟨⟨h1, h2⟩, h3⟩ := h
  exact ⟨h1, fun j hj => by have := all_get h2 hj; omega, h3⟩
/-- The places of a parking function. -/
def plcs (l : List Int) : List Int := outP' l.length (fun _ => false) (natL l)
theorem plcs_len (l : List Int) : (plcs l).length ≤ l.length := by
  have := outP'_len (N := l.length) (natL l) (fun _ => false)
  unfold plcs; simpa [natL] using this
theorem paDrive_park {l : List Int} (h : parkB l = true) : Ev (fun k => spec_paDrive.f k l (l.length : Int)) (plcs l) := by
  obtain ⟨h1, h2, h3⟩ := parkB_in h
  have := paDrive_ev l l.length (by omega) (by omega) h2
  rw [out_eq _ _ h3] at this
  exact this
theorem drive_park {l : List Int} (h : parkB l = true) : Ev (fun k => impl_drive.f k l (l.length : Int)) (plcs l, true) := by
  obtain ⟨h1, h2, h3⟩ := parkB_in h
  have := drive_ev l l.length (by omega) (by omega) (fun j hj => (h2 j hj).1)
  rw [if_pos h3] at this
  exact this
def sumLt (R w : List Int) (x : Int) : Nat → Int
  | 0 => 0
  | q + 1 => sumLt R w x q + if R.getD q 0 < x then w.getD q 0 else 0
theorem sumLt_range (R w : List Int) (x : Int) (hw : ∀ j, -1000 ≤ w.getD j 0 ∧ w.getD j 0 ≤ 1000) : ∀ q : Nat, -(1000 * (q : Int)) ≤ sumLt R w x q ∧ sumLt R w x q ≤ 1000 * (q : Int)
  | 0 => by simp [sumLt]
  | q + 1 => by
    have := sumLt_range R w x hw q
    have := hw q
    rw [sumLt]
    split <;> (push_cast; omega)
def stretch (R w l : List Int) : List Int := l.map fun x => sumLt R w x R.length
def stretchP (l w : List Int) : List Int × Bool := if (parkB l && lenB w && decide (l.length = w.length)) = true then (stretch (plcs l) w l, true) else ([], false)
theorem stretchP_len (l w : List Int) : (stretchP l w).1.length ≤ l.length := by
  unfold stretchP
  split <;> simp [stretch]
theorem sp_str_l1 (R w l out : List Int) (x : Int) (i : Int) (ho : out.length ≤ 1000) (hR : R.length ≤ w.length) (hR2 : R.length ≤ 1000) (hw : ∀ j, -1000 ≤ w.getD j 0 ∧ w.getD j 0 ≤ 1000) (r : List Int × Bool)
    (h : Ev (fun k => spec_StretchList.l0 k w R (out ++ [sumLt R w x R.length]) l (l.length : Int) (wrap64 (i + 1))) r) : Ev (fun k => spec_StretchList.l1 k w R out x 0 l (l.length : Int) i R (R.length : Int) 0) r := by
  refine Ev.up0 R.length (fun q => sumLt R w x q) (fun k s q => spec_StretchList.l1 k w R out x s l (l.length : Int) i R (R.length : Int) q) r (fun q hq h => Ev.one h fun k => ?_) (Ev.one h fun k => ?_)
  · have hs := sumLt_range R w x hw q
    have hwq := hw q
    rw [spec_StretchList.l1, if_pos (by omega), if_pos (by omega), if_pos (by omega), rd_nat, rd_nat, wrap_next (n := R.length) hq (by omega), sumLt]
    by_cases hlt : R.getD q 0 < x
    · rw [if_pos hlt, if_pos (by omega), if_pos hlt, wrap_id (x := sumLt R w x q + w.getD q 0) (by omega) (by omega)]
    · rw [if_neg hlt, if_neg hlt, Int.add_zero]
  · rw [spec_StretchList.l1, if_neg (by omega), if_pos (by omega)]
theorem sp_str_l0 (R w l : List Int) (hl : l.length ≤ 1000) (hR : R.length ≤ w.length) (hR2 : R.length ≤ 1000) (hw : ∀ j, -1000 ≤ w.getD j 0 ∧ w.getD j 0 ≤ 1000) : ∀ (d i : Nat) (out : List Int), i + d = l.length → out.length ≤ i → Ev (fun k => spec_StretchList.l0 k w R out l (l.length : Int) (i : Int)) (out ++ stretch R w (l.drop i), true) := by
  intro d
  induction d with
  | zero =>
    intro i out hd ho
    refine Ev.end_ fun k => ?_
    rw [spec_StretchList.l0, if_neg (by omega), List.drop_of_length_le (by omega)]
    simp [stretch]
  | succ d ih =>
    intro i out hd ho
    have hi : i < l.length := by omega
    have h2 := ih (i + 1) (out ++ [sumLt R w (l.getD i 0) R.length]) (by omega) (by simp; omega)
    rw [show (out ++ [sumLt R w (l.getD i 0) R.length]) ++ stretch R w (l.drop (i + 1)) = out ++ stretch R w (l.drop i) by rw [drop_getD hi]; simp [stretch]] at h2
    refine Ev.one (sp_str_l1 R w l out (l.getD i 0) (i : Int) (by omega) hR hR2 hw _ (by rw [wrap_next (n := l.length) hi (by omega)]; exact h2)) fun k => ?_
    rw [spec_StretchList.l0, if_pos (by omega), if_pos (by omega), if_pos (by omega), rd_nat]
theorem im_str_l1 (R w l out : List Int) (x : Int) (i : Int) (ho : out.length ≤ 1000) (hR : R.length ≤ w.length) (hR2 : R.length ≤ 1000) (hw : ∀ j, -1000 ≤ w.getD j 0 ∧ w.getD j 0 ≤ 1000) (r : List Int × Bool)
    (h : Ev (fun k => impl_StretchList.l0 k w R (out ++ [sumLt R w x R.length]) l (l.length : Int) (wrap64 (i + 1))) r) : Ev (fun k => impl_StretchList.l1 k w R out x 0 l (l.length : Int) i R (R.length : Int) 0) r := by
  refine Ev.up0 R.length (fun q => sumLt R w x q) (fun k s q => impl_StretchList.l1 k w R out x s l (l.length : Int) i R (R.length : Int) q) r (fun q hq h => Ev.one h fun k => ?_) (Ev.one h fun k => ?_)
  · have hs := sumLt_range R w x hw q
    have hwq := hw q
    rw [impl_StretchList.l1, if_pos (by omega), if_pos (by omega), if_pos (by omega), rd_nat, rd_nat, wrap_next (n := R.length) hq (by omega), sumLt]
    by_cases hlt : R.getD q 0 < x
    · rw [if_pos hlt, if_pos (by omega), if_pos hlt, wrap_id (x := sumLt R w x q + w.getD q 0) (by omega) (by omega)]
    · rw [if_neg hlt, if_neg hlt, Int.add_zero]
  · rw [impl_StretchList.l1, if_neg (by omega), if_pos (by omega)]
theorem im_str_l0 (R w l : List Int) (hl : l.length ≤ 1000) (hR : R.length ≤ w.length) (hR2 : R.length ≤ 1000) (hw : ∀ j, -1000 ≤ w.getD j 0 ∧ w.getD j 0 ≤ 1000) : ∀ (d i : Nat) (out : List Int), i + d = l.length → out.length ≤ i → Ev (fun k => impl_StretchList.l0 k w R out l (l.length : Int) (i : Int)) (out ++ stretch R w (l.drop i), true) := by
  intro d
  induction d with
  | zero =>
    intro i out hd ho
    refine Ev.end_ fun k => ?_
    rw [impl_StretchList.l0, if_neg (by omega), List.drop_of_length_le (by omega)]
    simp [stretch]
  | succ d ih =>
    intro i out hd ho
    have hi : i < l.length := by omega
    have h2 := ih (i + 1) (out ++ [sumLt R w (l.getD i 0) R.length]) (by omega) (by simp; omega)
    rw [show (out ++ [sumLt R w (l.getD i 0) R.length]) ++ stretch R w (l.drop (i + 1)) = out ++ stretch R w (l.drop i) by rw [drop_getD hi]; simp [stretch]] at h2
    refine Ev.one (im_str_l1 R w l out (l.getD i 0) (i : Int) (by omega) hR hR2 hw _ (by rw [wrap_next (n := l.length) hi (by omega)]; exact h2)) fun k => ?_
    rw [impl_StretchList.l0, if_pos (by omega), if_pos (by omega), if_pos (by omega), rd_nat]
theorem spec_StretchList_ev (l w : List Int) (hl : l.length ≤ 4611686018427387904) (hw : w.length ≤ 4611686018427387904) : Ev (fun k => spec_StretchList.f k l w) (stretchP l w) := by
  unfold spec_StretchList.f stretchP
  refine Ev.bind (paParking_ev l hl) ?_
  cases h1 : parkB l with
  | false =>
    simp only [Bool.false_eq_true, if_false, Bool.false_and]
    exact Ev.end_ fun k => by rw [spec_StretchList.j0, if_pos rfl]
  | true =>
    simp only [if_true, Bool.true_and]
    refine Ev.bind (loLengths_ev w hw) ?_
    cases h2 : lenB w with
    | false =>
      simp only [Bool.false_eq_true, if_false, Bool.false_and]
      exact Ev.end_ fun k => by rw [spec_StretchList.j0, if_pos rfl]
    | true =>
      simp only [if_true, Bool.true_and]
      have hp := lenB_parts h2
      have hq := plcs_len l
      by_cases e : l.length = w.length
      · rw [show ((w.length : Int) != (l.length : Int)) = false by simp [e]]
        simp only [decide_eq_true e, if_true]
        refine Ev.step (fun k => by rw [spec_StretchList.j0, if_neg (by decide)]) ?_
        refine Ev.bind (paDrive_park h1) ?_
        have := sp_str_l0 (plcs l) w l (by omega) (by omega) (by omega) hp.2.2.2.2.2 l.length 0 [] (by omega) (by simp)
        simpa using this
      · rw [show ((w.length : Int) != (l.length : Int)) = true by simp; omega]
        simp only [decide_eq_false e, Bool.false_eq_true, if_false]
        exact Ev.end_ fun k => by rw [spec_StretchList.j0, if_pos rfl]
end Go.Proofs.Ytfclfjengfmjaaa.G
