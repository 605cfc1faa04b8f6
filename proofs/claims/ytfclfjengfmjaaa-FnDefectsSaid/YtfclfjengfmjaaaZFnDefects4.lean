/- The law FnDefects: part 4 of the printed functions and the facts on them that its row leans on (merged by this session's slim.py). -/
import Derived.Test.YtfclfjengfmjaaaZFnDefects3
namespace Go.Proofs.Ytfclfjengfmjaaa.G
open Go.RowKit Go.Proofs.YtfclfjengfmjaaaW.PrintWords Go.Proofs.YtfclfjengfmjaaaW.PrintLast Go.Proofs.YtfclfjengfmjaaaW.PrintMore
attribute [local go_sem] max2_int min2_int max_two min_two max_three min_three max_four min_four   -- for this text's walks alone
set_option linter.unusedVariables false
set_option linter.unusedSimpArgs false
/-! ### laws_FnDefects: function 10 -/
mutual
def laws_FnDefects.j0 : Nat → List Int → List Int → Int → Int → Bool → List Int → Bool → Option (Bool)
  | 0, _, _, _, _, _, _, _ => none
  | k + 1, x1, x5, x6, x7, x8, x11, x98 => if x98 = true then (some false) else (if x8 = true then (laws_FnDefects.l0 k x1 x5 x6 x7 x11 0 0) else (laws_FnDefects.j5 k x1))
def laws_FnDefects.j5 : Nat → List Int → Option (Bool)
  | 0, _ => none
  | k + 1, x1 => (spec_DrawCountByDefect.f x1).bind fun t958 => ((impl_CountByDefect.f k t958).bind fun bt959 => ((spec_CountByDefect.f k t958).bind fun bt963 => (if (bt959.2 != bt963.2) = true then (laws_FnDefects.j6 k x1 t958 bt959.1 bt959.2 true) else ((laws_jSame.f k bt959.1 bt963.1).bind fun t967 => (laws_FnDefects.j6 k x1 t958 bt959.1 bt959.2 (!t967))))))
def laws_FnDefects.j6 : Nat → List Int → Int → List Int → Bool → Bool → Option (Bool)
  | 0, _, _, _, _, _ => none
  | k + 1, x1, x25, x26, x27, x191 => if x191 = true then (some false) else (if x27 = true then ((impl_CountParking.f k x25).bind fun bt968 => (laws_FnDefects.l3 k x1 x25 x26 bt968.1 bt968.2 1 0)) else (laws_FnDefects.j8 k x1))
def laws_FnDefects.j8 : Nat → List Int → Option (Bool)
  | 0, _ => none
  | k + 1, x1 => (spec_DrawPlacesNeeded.f k x1).bind fun t972 => ((impl_PlacesNeeded.f k t972).bind fun bt975 => ((spec_PlacesNeeded.f k t972).bind fun bt977 => (if (bt975.2 != bt977.2) = true then (laws_FnDefects.j9 k t972 bt975.1 bt975.2 true) else (laws_FnDefects.j9 k t972 bt975.1 bt975.2 (bt975.1 != bt977.1)))))
def laws_FnDefects.j9 : Nat → List Int → Int → Bool → Bool → Option (Bool)
  | 0, _, _, _, _ => none
  | k + 1, x34, x35, x36, x240 => if x240 = true then (some false) else (if x36 = true then ((impl_DoAllPark.f k x34 x35).bind fun bt979 => (if bt979.2 = true then (laws_FnDefects.j10 k x34 x35 (!bt979.1)) else (laws_FnDefects.j10 k x34 x35 true))) else (some true))
def laws_FnDefects.j10 : Nat → List Int → Int → Bool → Option (Bool)
  | 0, _, _, _ => none
  | k + 1, x34, x35, x253 => if x253 = true then (some false) else (if x35 > 1 then ((impl_DoAllPark.f k x34 (wrap64 (x35 - 1))).bind fun bt981 => (if bt981.2 = true then (some (!bt981.1)) else (some true))) else (some true))
def laws_FnDefects.l3 : Nat → List Int → Int → List Int → Int → Bool → Int → Int → Option (Bool)
  | 0, _, _, _, _, _, _, _ => none
  | k + 1, x1, x25, x26, x30, x31, x32, x33 => if x33 < x25 then (laws_FnDefects.l3 k x1 x25 x26 x30 x31 (wrap64 (x32 * x25)) (wrap64 (x33 + 1))) else (if x31 = true then (if 0 < (x26.length : Int) then (if (rd x26 0) = x30 then ((laws_jSum.f k x26).bind fun t971 => (if t971 = x32 then (laws_FnDefects.j8 k x1) else (some false))) else (some false)) else (none)) else (some false))
def laws_FnDefects.l0 : Nat → List Int → List Int → Int → Int → List Int → Int → Int → Option (Bool)
  | 0, _, _, _, _, _, _, _ => none
  | k + 1, x1, x5, x6, x7, x11, x15, x16 => if x16 < x6 then (laws_FnDefects.l1 k x1 x5 x6 x7 x11 x15 x16 0 x5 (x5.length : Int) 0) else (laws_FnDefects.l2 k x1 x5 x6 x7 x15 0 x11 (x11.length : Int) 0)
def laws_FnDefects.l1 : Nat → List Int → List Int → Int → Int → List Int → Int → Int → Int → List Int → Int → Int → Option (Bool)
  | 0, _, _, _, _, _, _, _, _, _, _, _ => none
  | k + 1, x1, x5, x6, x7, x11, x15, x16, x17, x105, x106, x107 => if x107 < x106 then (if 0 ≤ x107 then (if x107 < (x105.length : Int) then (if (rd x105 x107) ≥ x16 then (laws_FnDefects.l1 k x1 x5 x6 x7 x11 x15 x16 (wrap64 (x17 + 1)) x105 x106 (wrap64 (x107 + 1))) else (laws_FnDefects.l1 k x1 x5 x6 x7 x11 x15 x16 x17 x105 x106 (wrap64 (x107 + 1)))) else (none)) else (none)) else (if (wrap64 (x17 - (wrap64 (x6 - x16)))) > x15 then (laws_FnDefects.l0 k x1 x5 x6 x7 x11 (wrap64 (x17 - (wrap64 (x6 - x16)))) (wrap64 (x16 + 1))) else (laws_FnDefects.l0 k x1 x5 x6 x7 x11 x15 (wrap64 (x16 + 1))))
def laws_FnDefects.l2 : Nat → List Int → List Int → Int → Int → Int → Int → List Int → Int → Int → Option (Bool)
  | 0, _, _, _, _, _, _, _, _, _ => none
  | k + 1, x1, x5, x6, x7, x15, x20, x129, x130, x131 => if x131 < x130 then (if 0 ≤ x131 then (if x131 < (x129.length : Int) then (if (rd x129 x131) = (-1) then (laws_FnDefects.l2 k x1 x5 x6 x7 x15 (wrap64 (x20 + 1)) x129 x130 (wrap64 (x131 + 1))) else (laws_FnDefects.l2 k x1 x5 x6 x7 x15 x20 x129 x130 (wrap64 (x131 + 1)))) else (none)) else (none)) else (if x7 = x15 then (laws_FnDefects.j4 k x1 x5 x6 x7 (x7 != x20)) else (laws_FnDefects.j4 k x1 x5 x6 x7 true))
def laws_FnDefects.j4 : Nat → List Int → List Int → Int → Int → Bool → Option (Bool)
  | 0, _, _, _, _, _ => none
  | k + 1, x1, x5, x6, x7, x147 => if x147 = true then (some false) else (if (x5.length : Int) > 1 then ((laws_numberOf.f k x1).bind fun t952 => (if (wrap64 ((x5.length : Int) - 1)) = 0 then (none) else ((laws_jSwapped.f x5 (Int.tmod t952 (wrap64 ((x5.length : Int) - 1)))).bind fun t953 => ((impl_DefectOf.f k t953 x6).bind fun bt956 => (if bt956.2 = true then (if bt956.1 = x7 then (laws_FnDefects.j5 k x1) else (some false)) else (some false)))))) else (laws_FnDefects.j5 k x1))
end
def laws_FnDefects.f (k : Nat) (l0 : List Int) (l1 : List Int) : Option (Bool) := (laws_big.f l0 l1).bind fun t932 => (if t932 = true then (some true) else ((spec_DrawDefectOf.f k l0).bind fun bt933 => ((impl_DefectOf.f k bt933.1 bt933.2).bind fun bt937 => ((spec_DefectOf.f k bt933.1 bt933.2).bind fun bt939 => ((impl_DriveSome.f k bt933.1 bt933.2).bind fun bt941 => ((spec_DriveSome.f k bt933.1 bt933.2).bind fun bt945 => (if (bt937.2 != bt939.2) = true then (laws_FnDefects.j0 k l1 bt933.1 bt933.2 bt937.1 bt937.2 bt941.1 true) else (if bt937.1 = bt939.1 then (if (bt941.2 != bt945.2) = true then (laws_FnDefects.j0 k l1 bt933.1 bt933.2 bt937.1 bt937.2 bt941.1 true) else ((laws_jSame.f k bt941.1 bt945.1).bind fun t949 => (if t949 = true then (laws_FnDefects.j0 k l1 bt933.1 bt933.2 bt937.1 bt937.2 bt941.1 (bt941.2 != bt937.2)) else (laws_FnDefects.j0 k l1 bt933.1 bt933.2 bt937.1 bt937.2 bt941.1 true)))) else (laws_FnDefects.j0 k l1 bt933.1 bt933.2 bt937.1 bt937.2 bt941.1 true)))))))))
theorem laws_FnDefects.mono_l : ∀ k, (∀ y0 y1 y2 y3 y4 y5 y6, LeO (laws_FnDefects.j0 k y0 y1 y2 y3 y4 y5 y6) (laws_FnDefects.j0 (k + 1) y0 y1 y2 y3 y4 y5 y6)) ∧ (∀ y0, LeO (laws_FnDefects.j5 k y0) (laws_FnDefects.j5 (k + 1) y0)) ∧ (∀ y0 y1 y2 y3 y4, LeO (laws_FnDefects.j6 k y0 y1 y2 y3 y4) (laws_FnDefects.j6 (k + 1) y0 y1 y2 y3 y4)) ∧ (∀ y0, LeO (laws_FnDefects.j8 k y0) (laws_FnDefects.j8 (k + 1) y0)) ∧ (∀ y0 y1 y2 y3, LeO (laws_FnDefects.j9 k y0 y1 y2 y3) (laws_FnDefects.j9 (k + 1) y0 y1 y2 y3)) ∧ (∀ y0 y1 y2, LeO (laws_FnDefects.j10 k y0 y1 y2) (laws_FnDefects.j10 (k + 1) y0 y1 y2)) ∧ (∀ y0 y1 y2 y3 y4 y5 y6, LeO (laws_FnDefects.l3 k y0 y1 y2 y3 y4 y5 y6) (laws_FnDefects.l3 (k + 1) y0 y1 y2 y3 y4 y5 y6)) ∧ (∀ y0 y1 y2 y3 y4 y5 y6, LeO (laws_FnDefects.l0 k y0 y1 y2 y3 y4 y5 y6) (laws_FnDefects.l0 (k + 1) y0 y1 y2 y3 y4 y5 y6)) ∧ (∀ y0 y1 y2 y3 y4 y5 y6 y7 y8 y9 y10, LeO (laws_FnDefects.l1 k y0 y1 y2 y3 y4 y5 y6 y7 y8 y9 y10) (laws_FnDefects.l1 (k + 1) y0 y1 y2 y3 y4 y5 y6 y7 y8 y9 y10)) ∧ (∀ y0 y1 y2 y3 y4 y5 y6 y7 y8, LeO (laws_FnDefects.l2 k y0 y1 y2 y3 y4 y5 y6 y7 y8) (laws_FnDefects.l2 (k + 1) y0 y1 y2 y3 y4 y5 y6 y7 y8)) ∧ (∀ y0 y1 y2 y3 y4, LeO (laws_FnDefects.j4 k y0 y1 y2 y3 y4) (laws_FnDefects.j4 (k + 1) y0 y1 y2 y3 y4))
  | 0 => ⟨fun _ _ _ _ _ _ _ r h => by simp [laws_FnDefects.j0] at h, fun _ r h => by simp [laws_FnDefects.j5] at h, fun _ _ _ _ _ r h => by simp [laws_FnDefects.j6] at h, fun _ r h => by simp [laws_FnDefects.j8] at h, fun _ _ _ _ r h => by simp [laws_FnDefects.j9] at h, fun _ _ _ r h => by simp [laws_FnDefects.j10] at h, fun _ _ _ _ _ _ _ r h => by simp [laws_FnDefects.l3] at h, fun _ _ _ _ _ _ _ r h => by simp [laws_FnDefects.l0] at h, fun _ _ _ _ _ _ _ _ _ _ _ r h => by simp [laws_FnDefects.l1] at h, fun _ _ _ _ _ _ _ _ _ r h => by simp [laws_FnDefects.l2] at h, fun _ _ _ _ _ r h => by simp [laws_FnDefects.j4] at h⟩
  | k + 1 => by
    obtain ⟨ih0, ih1, ih2, ih3, ih4, ih5, ih6, ih7, ih8, ih9, ih10⟩ := laws_FnDefects.mono_l k
    refine ⟨?_, ?_, ?_, ?_, ?_, ?_, ?_, ?_, ?_, ?_, ?_⟩
    · intro y0 y1 y2 y3 y4 y5 y6
      unfold laws_FnDefects.j0
      repeat' first
      | (with_reducible exact ih0 _ _ _ _ _ _ _)
      | (with_reducible exact ih1 _)
      | (with_reducible exact ih2 _ _ _ _ _)
      | (with_reducible exact ih3 _)
      | (with_reducible exact ih4 _ _ _ _)
      | (with_reducible exact ih5 _ _ _)
      | (with_reducible exact ih6 _ _ _ _ _ _ _)
      | (with_reducible exact ih7 _ _ _ _ _ _ _)
      | (with_reducible exact ih8 _ _ _ _ _ _ _ _ _ _ _)
      | (with_reducible exact ih9 _ _ _ _ _ _ _ _ _)
      | (with_reducible exact ih10 _ _ _ _ _)
      | (with_reducible exact impl_CountByDefect.mono _ _)
      | (with_reducible exact impl_CountParking.mono _ _)
      | (with_reducible exact impl_DefectOf.mono _ _ _)
      | (with_reducible exact impl_DoAllPark.mono _ _ _)
      | (with_reducible exact impl_DriveSome.mono _ _ _)
      | (with_reducible exact impl_PlacesNeeded.mono _ _)
      | (with_reducible exact laws_jSame.mono _ _ _)
      | (with_reducible exact laws_jSum.mono _ _)
      | (with_reducible exact laws_numberOf.mono _ _)
      | (with_reducible exact spec_CountByDefect.mono _ _)
      | (with_reducible exact spec_DefectOf.mono _ _ _)
      | (with_reducible exact spec_DrawDefectOf.mono _ _)
      | (with_reducible exact spec_DrawPlacesNeeded.mono _ _)
      | (with_reducible exact spec_DriveSome.mono _ _ _)
      | (with_reducible exact spec_PlacesNeeded.mono _ _)
      | (with_reducible exact LeO.refl _)
      | (with_reducible exact LeO.none _)
      | (with_reducible refine LeO.ite ?_ ?_)
      | (with_reducible refine LeO.bind ?_ (fun _ => ?_))
      | exact ih0 _ _ _ _ _ _ _
      | exact ih1 _
      | exact ih2 _ _ _ _ _
      | exact ih3 _
      | exact ih4 _ _ _ _
      | exact ih5 _ _ _
      | exact ih6 _ _ _ _ _ _ _
      | exact ih7 _ _ _ _ _ _ _
      | exact ih8 _ _ _ _ _ _ _ _ _ _ _
      | exact ih9 _ _ _ _ _ _ _ _ _
      | exact ih10 _ _ _ _ _
      | exact impl_CountByDefect.mono _ _
      | exact impl_CountParking.mono _ _
      | exact impl_DefectOf.mono _ _ _
      | exact impl_DoAllPark.mono _ _ _
      | exact impl_DriveSome.mono _ _ _
      | exact impl_PlacesNeeded.mono _ _
      | exact laws_jSame.mono _ _ _
      | exact laws_jSum.mono _ _
      | exact laws_numberOf.mono _ _
      | exact spec_CountByDefect.mono _ _
      | exact spec_DefectOf.mono _ _ _
      | exact spec_DrawDefectOf.mono _ _
      | exact spec_DrawPlacesNeeded.mono _ _
      | exact spec_DriveSome.mono _ _ _
      | exact spec_PlacesNeeded.mono _ _
      | exact LeO.none _
      | refine LeO.ite ?_ ?_
      | refine LeO.bind ?_ (fun _ => ?_)
    · intro y0
      unfold laws_FnDefects.j5
      repeat' first
      | (with_reducible exact ih0 _ _ _ _ _ _ _)
      | (with_reducible exact ih1 _)
      | (with_reducible exact ih2 _ _ _ _ _)
      | (with_reducible exact ih3 _)
      | (with_reducible exact ih4 _ _ _ _)
      | (with_reducible exact ih5 _ _ _)
      | (with_reducible exact ih6 _ _ _ _ _ _ _)
      | (with_reducible exact ih7 _ _ _ _ _ _ _)
      | (with_reducible exact ih8 _ _ _ _ _ _ _ _ _ _ _)
      | (with_reducible exact ih9 _ _ _ _ _ _ _ _ _)
      | (with_reducible exact ih10 _ _ _ _ _)
      | (with_reducible exact impl_CountByDefect.mono _ _)
      | (with_reducible exact impl_CountParking.mono _ _)
      | (with_reducible exact impl_DefectOf.mono _ _ _)
      | (with_reducible exact impl_DoAllPark.mono _ _ _)
      | (with_reducible exact impl_DriveSome.mono _ _ _)
      | (with_reducible exact impl_PlacesNeeded.mono _ _)
      | (with_reducible exact laws_jSame.mono _ _ _)
      | (with_reducible exact laws_jSum.mono _ _)
      | (with_reducible exact laws_numberOf.mono _ _)
      | (with_reducible exact spec_CountByDefect.mono _ _)
      | (with_reducible exact spec_DefectOf.mono _ _ _)
      | (with_reducible exact spec_DrawDefectOf.mono _ _)
      | (with_reducible exact spec_DrawPlacesNeeded.mono _ _)
      | (with_reducible exact spec_DriveSome.mono _ _ _)
      | (with_reducible exact spec_PlacesNeeded.mono _ _)
      | (with_reducible exact LeO.refl _)
      | (with_reducible exact LeO.none _)
      | (with_reducible refine LeO.ite ?_ ?_)
      | (with_reducible refine LeO.bind ?_ (fun _ => ?_))
      | exact ih0 _ _ _ _ _ _ _
      | exact ih1 _
      | exact ih2 _ _ _ _ _
      | exact ih3 _
      | exact ih4 _ _ _ _
      | exact ih5 _ _ _
      | exact ih6 _ _ _ _ _ _ _
      | exact ih7 _ _ _ _ _ _ _
      | exact ih8 _ _ _ _ _ _ _ _ _ _ _
      | exact ih9 _ _ _ _ _ _ _ _ _
      | exact ih10 _ _ _ _ _
      | exact impl_CountByDefect.mono _ _
      | exact impl_CountParking.mono _ _
      | exact impl_DefectOf.mono _ _ _
      | exact impl_DoAllPark.mono _ _ _
      | exact impl_DriveSome.mono _ _ _
      | exact impl_PlacesNeeded.mono _ _
      | exact laws_jSame.mono _ _ _
      | exact laws_jSum.mono _ _
      | exact laws_numberOf.mono _ _
      | exact spec_CountByDefect.mono _ _
      | exact spec_DefectOf.mono _ _ _
      | exact spec_DrawDefectOf.mono _ _
      | exact spec_DrawPlacesNeeded.mono _ _
      | exact spec_DriveSome.mono _ _ _
      | exact spec_PlacesNeeded.mono _ _
      | exact LeO.none _
      | refine LeO.ite ?_ ?_
      | refine LeO.bind ?_ (fun _ => ?_)
    · intro y0 y1 y2 y3 y4
      unfold laws_FnDefects.j6
      repeat' first
      | (with_reducible exact ih0 _ _ _ _ _ _ _)
      | (with_reducible exact ih1 _)
      | (with_reducible exact ih2 _ _ _ _ _)
      | (with_reducible exact ih3 _)
      | (with_reducible exact ih4 _ _ _ _)
      | (with_reducible exact ih5 _ _ _)
      | (with_reducible exact ih6 _ _ _ _ _ _ _)
      | (with_reducible exact ih7 _ _ _ _ _ _ _)
      | (with_reducible exact ih8 _ _ _ _ _ _ _ _ _ _ _)
      | (with_reducible exact ih9 _ _ _ _ _ _ _ _ _)
      | (with_reducible exact ih10 _ _ _ _ _)
      | (with_reducible exact impl_CountByDefect.mono _ _)
      | (with_reducible exact impl_CountParking.mono _ _)
      | (with_reducible exact impl_DefectOf.mono _ _ _)
      | (with_reducible exact impl_DoAllPark.mono _ _ _)
      | (with_reducible exact impl_DriveSome.mono _ _ _)
      | (with_reducible exact impl_PlacesNeeded.mono _ _)
      | (with_reducible exact laws_jSame.mono _ _ _)
      | (with_reducible exact laws_jSum.mono _ _)
      | (with_reducible exact laws_numberOf.mono _ _)
      | (with_reducible exact spec_CountByDefect.mono _ _)
      | (with_reducible exact spec_DefectOf.mono _ _ _)
      | (with_reducible exact spec_DrawDefectOf.mono _ _)
      | (with_reducible exact spec_DrawPlacesNeeded.mono _ _)
      | (with_reducible exact spec_DriveSome.mono _ _ _)
      | (with_reducible exact spec_PlacesNeeded.mono _ _)
      | (with_reducible exact LeO.refl _)
      | (with_reducible exact LeO.none _)
      | (with_reducible refine LeO.ite ?_ ?_)
      | (with_reducible refine LeO.bind ?_ (fun _ => ?_))
      | exact ih0 _ _ _ _ _ _ _
      | exact ih1 _
      | exact ih2 _ _ _ _ _
      | exact ih3 _
      | exact ih4 _ _ _ _
      | exact ih5 _ _ _
      | exact ih6 _ _ _ _ _ _ _
      | exact ih7 _ _ _ _ _ _ _
      | exact ih8 _ _ _ _ _ _ _ _ _ _ _
      | exact ih9 _ _ _ _ _ _ _ _ _
      | exact ih10 _ _ _ _ _
      | exact impl_CountByDefect.mono _ _
      | exact impl_CountParking.mono _ _
      | exact impl_DefectOf.mono _ _ _
      | exact impl_DoAllPark.mono _ _ _
      | exact impl_DriveSome.mono _ _ _
      | exact impl_PlacesNeeded.mono _ _
      | exact laws_jSame.mono _ _ _
      | exact laws_jSum.mono _ _
      | exact laws_numberOf.mono _ _
      | exact spec_CountByDefect.mono _ _
      | exact spec_DefectOf.mono _ _ _
      | exact spec_DrawDefectOf.mono _ _
      | exact spec_DrawPlacesNeeded.mono _ _
      | exact spec_DriveSome.mono _ _ _
      | exact spec_PlacesNeeded.mono _ _
      | exact LeO.none _
      | refine LeO.ite ?_ ?_
      | refine LeO.bind ?_ (fun _ => ?_)
    · intro y0
      unfold laws_FnDefects.j8
      repeat' first
      | (with_reducible exact ih0 _ _ _ _ _ _ _)
      | (with_reducible exact ih1 _)
      | (with_reducible exact ih2 _ _ _ _ _)
      | (with_reducible exact ih3 _)
      | (with_reducible exact ih4 _ _ _ _)
      | (with_reducible exact ih5 _ _ _)
      | (with_reducible exact ih6 _ _ _ _ _ _ _)
      | (with_reducible exact ih7 _ _ _ _ _ _ _)
      | (with_reducible exact ih8 _ _ _ _ _ _ _ _ _ _ _)
      | (with_reducible exact ih9 _ _ _ _ _ _ _ _ _)
      | (with_reducible exact ih10 _ _ _ _ _)
      | (with_reducible exact impl_CountByDefect.mono _ _)
      | (with_reducible exact impl_CountParking.mono _ _)
      | (with_reducible exact impl_DefectOf.mono _ _ _)
      | (with_reducible exact impl_DoAllPark.mono _ _ _)
      | (with_reducible exact impl_DriveSome.mono _ _ _)
      | (with_reducible exact impl_PlacesNeeded.mono _ _)
      | (with_reducible exact laws_jSame.mono _ _ _)
      | (with_reducible exact laws_jSum.mono _ _)
      | (with_reducible exact laws_numberOf.mono _ _)
      | (with_reducible exact spec_CountByDefect.mono _ _)
      | (with_reducible exact spec_DefectOf.mono _ _ _)
      | (with_reducible exact spec_DrawDefectOf.mono _ _)
      | (with_reducible exact spec_DrawPlacesNeeded.mono _ _)
      | (with_reducible exact spec_DriveSome.mono _ _ _)
      | (with_reducible exact spec_PlacesNeeded.mono _ _)
      | (with_reducible exact LeO.refl _)
      | (with_reducible exact LeO.none _)
      | (with_reducible refine LeO.ite ?_ ?_)
      | (with_reducible refine LeO.bind ?_ (fun _ => ?_))
      | exact ih0 _ _ _ _ _ _ _
      | exact ih1 _
      | exact ih2 _ _ _ _ _
      | exact ih3 _
      | exact ih4 _ _ _ _
      | exact ih5 _ _ _
      | exact ih6 _ _ _ _ _ _ _
      | exact ih7 _ _ _ _ _ _ _
      | exact ih8 _ _ _ _ _ _ _ _ _ _ _
      | exact ih9 _ _ _ _ _ _ _ _ _
      | exact ih10 _ _ _ _ _
      | exact impl_CountByDefect.mono _ _
      | exact impl_CountParking.mono _ _
      | exact impl_DefectOf.mono _ _ _
      | exact impl_DoAllPark.mono _ _ _
      | exact impl_DriveSome.mono _ _ _
      | exact impl_PlacesNeeded.mono _ _
      | exact laws_jSame.mono _ _ _
      | exact laws_jSum.mono _ _
      | exact laws_numberOf.mono _ _
      | exact spec_CountByDefect.mono _ _
      | exact spec_DefectOf.mono _ _ _
      | exact spec_DrawDefectOf.mono _ _
      | exact spec_DrawPlacesNeeded.mono _ _
      | exact spec_DriveSome.mono _ _ _
      | exact spec_PlacesNeeded.mono _ _
      | exact LeO.none _
      | refine LeO.ite ?_ ?_
      | refine LeO.bind ?_ (fun _ => ?_)
    · intro y0 y1 y2 y3
      unfold laws_FnDefects.j9
      repeat' first
      | (with_reducible exact ih0 _ _ _ _ _ _ _)
      | (with_reducible exact ih1 _)
      | (with_reducible exact ih2 _ _ _ _ _)
      | (with_reducible exact ih3 _)
      | (with_reducible exact ih4 _ _ _ _)
      | (with_reducible exact ih5 _ _ _)
      | (with_reducible exact ih6 _ _ _ _ _ _ _)
      | (with_reducible exact ih7 _ _ _ _ _ _ _)
      | (with_reducible exact ih8 _ _ _ _ _ _ _ _ _ _ _)
      | (with_reducible exact ih9 _ _ _ _ _ _ _ _ _)
      | (with_reducible exact ih10 _ _ _ _ _)
      | (with_reducible exact impl_CountByDefect.mono _ _)
      | (with_reducible exact impl_CountParking.mono _ _)
      | (with_reducible exact impl_DefectOf.mono _ _ _)
      | (with_reducible exact impl_DoAllPark.mono _ _ _)
      | (with_reducible exact impl_DriveSome.mono _ _ _)
      | (with_reducible exact impl_PlacesNeeded.mono _ _)
      | (with_reducible exact laws_jSame.mono _ _ _)
      | (with_reducible exact laws_jSum.mono _ _)
      | (with_reducible exact laws_numberOf.mono _ _)
      | (with_reducible exact spec_CountByDefect.mono _ _)
      | (with_reducible exact spec_DefectOf.mono _ _ _)
      | (with_reducible exact spec_DrawDefectOf.mono _ _)
      | (with_reducible exact spec_DrawPlacesNeeded.mono _ _)
      | (with_reducible exact spec_DriveSome.mono _ _ _)
      | (with_reducible exact spec_PlacesNeeded.mono _ _)
      | (with_reducible exact LeO.refl _)
      | (with_reducible exact LeO.none _)
      | (with_reducible refine LeO.ite ?_ ?_)
      | (with_reducible refine LeO.bind ?_ (fun _ => ?_))
      | exact ih0 _ _ _ _ _ _ _
      | exact ih1 _
      | exact ih2 _ _ _ _ _
      | exact ih3 _
      | exact ih4 _ _ _ _
      | exact ih5 _ _ _
      | exact ih6 _ _ _ _ _ _ _
      | exact ih7 _ _ _ _ _ _ _
      | exact ih8 _ _ _ _ _ _ _ _ _ _ _
      | exact ih9 _ _ _ _ _ _ _ _ _
      | exact ih10 _ _ _ _ _
      | exact impl_CountByDefect.mono _ _
      | exact impl_CountParking.mono _ _
      | exact impl_DefectOf.mono _ _ _
      | exact impl_DoAllPark.mono _ _ _
      | exact impl_DriveSome.mono _ _ _
      | exact impl_PlacesNeeded.mono _ _
      | exact laws_jSame.mono _ _ _
      | exact laws_jSum.mono _ _
      | exact laws_numberOf.mono _ _
      | exact spec_CountByDefect.mono _ _
      | exact spec_DefectOf.mono _ _ _
      | exact spec_DrawDefectOf.mono _ _
      | exact spec_DrawPlacesNeeded.mono _ _
      | exact spec_DriveSome.mono _ _ _
      | exact spec_PlacesNeeded.mono _ _
      | exact LeO.none _
      | refine LeO.ite ?_ ?_
      | refine LeO.bind ?_ (fun _ => ?_)
    · intro y0 y1 y2
      unfold laws_FnDefects.j10
      repeat' first
      | (with_reducible exact ih0 _ _ _ _ _ _ _)
      | (with_reducible exact ih1 _)
      | (with_reducible exact ih2 _ _ _ _ _)
      | (with_reducible exact ih3 _)
      | (with_reducible exact ih4 _ _ _ _)
      | (with_reducible exact ih5 _ _ _)
      | (with_reducible exact ih6 _ _ _ _ _ _ _)
      | (with_reducible exact ih7 _ _ _ _ _ _ _)
      | (with_reducible exact ih8 _ _ _ _ _ _ _ _ _ _ _)
      | (with_reducible exact ih9 _ _ _ _ _ _ _ _ _)
      | (with_reducible exact ih10 _ _ _ _ _)
      | (with_reducible exact impl_CountByDefect.mono _ _)
      | (with_reducible exact impl_CountParking.mono _ _)
      | (with_reducible exact impl_DefectOf.mono _ _ _)
      | (with_reducible exact impl_DoAllPark.mono _ _ _)
      | (with_reducible exact impl_DriveSome.mono _ _ _)
      | (with_reducible exact impl_PlacesNeeded.mono _ _)
      | (with_reducible exact laws_jSame.mono _ _ _)
      | (with_reducible exact laws_jSum.mono _ _)
      | (with_reducible exact laws_numberOf.mono _ _)
      | (with_reducible exact spec_CountByDefect.mono _ _)
      | (with_reducible exact spec_DefectOf.mono _ _ _)
      | (with_reducible exact spec_DrawDefectOf.mono _ _)
      | (with_reducible exact spec_DrawPlacesNeeded.mono _ _)
      | (with_reducible exact spec_DriveSome.mono _ _ _)
      | (with_reducible exact spec_PlacesNeeded.mono _ _)
      | (with_reducible exact LeO.refl _)
      | (with_reducible exact LeO.none _)
      | (with_reducible refine LeO.ite ?_ ?_)
      | (with_reducible refine LeO.bind ?_ (fun _ => ?_))
      | exact ih0 _ _ _ _ _ _ _
      | exact ih1 _
      | exact ih2 _ _ _ _ _
      | exact ih3 _
      | exact ih4 _ _ _ _
      | exact ih5 _ _ _
      | exact ih6 _ _ _ _ _ _ _
      | exact ih7 _ _ _ _ _ _ _
      | exact ih8 _ _ _ _ _ _ _ _ _ _ _
      | exact ih9 _ _ _ _ _ _ _ _ _
      | exact ih10 _ _ _ _ _
      | exact impl_CountByDefect.mono _ _
      | exact impl_CountParking.mono _ _
      | exact impl_DefectOf.mono _ _ _
      | exact impl_DoAllPark.mono _ _ _
      | exact impl_DriveSome.mono _ _ _
      | exact impl_PlacesNeeded.mono _ _
      | exact laws_jSame.mono _ _ _
      | exact laws_jSum.mono _ _
      | exact laws_numberOf.mono _ _
      | exact spec_CountByDefect.mono _ _
      | exact spec_DefectOf.mono _ _ _
      | exact spec_DrawDefectOf.mono _ _
      | exact spec_DrawPlacesNeeded.mono _ _
      | exact spec_DriveSome.mono _ _ _
      | exact spec_PlacesNeeded.mono _ _
      | exact LeO.none _
      | refine LeO.ite ?_ ?_
      | refine LeO.bind ?_ (fun _ => ?_)
    · intro y0 y1 y2 y3 y4 y5 y6
      unfold laws_FnDefects.l3
      repeat' first
      | (with_reducible exact ih0 _ _ _ _ _ _ _)
      | (with_reducible exact ih1 _)
      | (with_reducible exact ih2 _ _ _ _ _)
      | (with_reducible exact ih3 _)
      | (with_reducible exact ih4 _ _ _ _)
      | (with_reducible exact ih5 _ _ _)
      | (with_reducible exact ih6 _ _ _ _ _ _ _)
      | (with_reducible exact ih7 _ _ _ _ _ _ _)
      | (with_reducible exact ih8 _ _ _ _ _ _ _ _ _ _ _)
      | (with_reducible exact ih9 _ _ _ _ _ _ _ _ _)
      | (with_reducible exact ih10 _ _ _ _ _)
      | (with_reducible exact impl_CountByDefect.mono _ _)
      | (with_reducible exact impl_CountParking.mono _ _)
      | (with_reducible exact impl_DefectOf.mono _ _ _)
      | (with_reducible exact impl_DoAllPark.mono _ _ _)
      | (with_reducible exact impl_DriveSome.mono _ _ _)
      | (with_reducible exact impl_PlacesNeeded.mono _ _)
      | (with_reducible exact laws_jSame.mono _ _ _)
      | (with_reducible exact laws_jSum.mono _ _)
      | (with_reducible exact laws_numberOf.mono _ _)
      | (with_reducible exact spec_CountByDefect.mono _ _)
      | (with_reducible exact spec_DefectOf.mono _ _ _)
      | (with_reducible exact spec_DrawDefectOf.mono _ _)
      | (with_reducible exact spec_DrawPlacesNeeded.mono _ _)
      | (with_reducible exact spec_DriveSome.mono _ _ _)
      | (with_reducible exact spec_PlacesNeeded.mono _ _)
      | (with_reducible exact LeO.refl _)
      | (with_reducible exact LeO.none _)
      | (with_reducible refine LeO.ite ?_ ?_)
      | (with_reducible refine LeO.bind ?_ (fun _ => ?_))
      | exact ih0 _ _ _ _ _ _ _
      | exact ih1 _
      | exact ih2 _ _ _ _ _
      | exact ih3 _
      | exact ih4 _ _ _ _
      | exact ih5 _ _ _
      | exact ih6 _ _ _ _ _ _ _
      | exact ih7 _ _ _ _ _ _ _
      | exact ih8 _ _ _ _ _ _ _ _ _ _ _
      | exact ih9 _ _ _ _ _ _ _ _ _
      | exact ih10 _ _ _ _ _
      | exact impl_CountByDefect.mono _ _
      | exact impl_CountParking.mono _ _
      | exact impl_DefectOf.mono _ _ _
      | exact impl_DoAllPark.mono _ _ _
      | exact impl_DriveSome.mono _ _ _
      | exact impl_PlacesNeeded.mono _ _
      | exact laws_jSame.mono _ _ _
      | exact laws_jSum.mono _ _
      | exact laws_numberOf.mono _ _
      | exact spec_CountByDefect.mono _ _
      | exact spec_DefectOf.mono _ _ _
      | exact spec_DrawDefectOf.mono _ _
      | exact spec_DrawPlacesNeeded.mono _ _
      | exact spec_DriveSome.mono _ _ _
      | exact spec_PlacesNeeded.mono _ _
      | exact LeO.none _
      | refine LeO.ite ?_ ?_
      | refine LeO.bind ?_ (fun _ => ?_)
    · intro y0 y1 y2 y3 y4 y5 y6
      unfold laws_FnDefects.l0
      repeat' first
      | (with_reducible exact ih0 _ _ _ _ _ _ _)
      | (with_reducible exact ih1 _)
      | (with_reducible exact ih2 _ _ _ _ _)
      | (with_reducible exact ih3 _)
      | (with_reducible exact ih4 _ _ _ _)
      | (with_reducible exact ih5 _ _ _)
      | (with_reducible exact ih6 _ _ _ _ _ _ _)
      | (with_reducible exact ih7 _ _ _ _ _ _ _)
      | (with_reducible exact ih8 _ _ _ _ _ _ _ _ _ _ _)
      | (with_reducible exact ih9 _ _ _ _ _ _ _ _ _)
      | (with_reducible exact ih10 _ _ _ _ _)
      | (with_reducible exact impl_CountByDefect.mono _ _)
      | (with_reducible exact impl_CountParking.mono _ _)
      | (with_reducible exact impl_DefectOf.mono _ _ _)
      | (with_reducible exact impl_DoAllPark.mono _ _ _)
      | (with_reducible exact impl_DriveSome.mono _ _ _)
      | (with_reducible exact impl_PlacesNeeded.mono _ _)
      | (with_reducible exact laws_jSame.mono _ _ _)
      | (with_reducible exact laws_jSum.mono _ _)
      | (with_reducible exact laws_numberOf.mono _ _)
      | (with_reducible exact spec_CountByDefect.mono _ _)
      | (with_reducible exact spec_DefectOf.mono _ _ _)
      | (with_reducible exact spec_DrawDefectOf.mono _ _)
      | (with_reducible exact spec_DrawPlacesNeeded.mono _ _)
      | (with_reducible exact spec_DriveSome.mono _ _ _)
      | (with_reducible exact spec_PlacesNeeded.mono _ _)
      | (with_reducible exact LeO.refl _)
      | (with_reducible exact LeO.none _)
      | (with_reducible refine LeO.ite ?_ ?_)
      | (with_reducible refine LeO.bind ?_ (fun _ => ?_))
      | exact ih0 _ _ _ _ _ _ _
      | exact ih1 _
      | exact ih2 _ _ _ _ _
      | exact ih3 _
      | exact ih4 _ _ _ _
      | exact ih5 _ _ _
      | exact ih6 _ _ _ _ _ _ _
      | exact ih7 _ _ _ _ _ _ _
      | exact ih8 _ _ _ _ _ _ _ _ _ _ _
      | exact ih9 _ _ _ _ _ _ _ _ _
      | exact ih10 _ _ _ _ _
      | exact impl_CountByDefect.mono _ _
      | exact impl_CountParking.mono _ _
      | exact impl_DefectOf.mono _ _ _
      | exact impl_DoAllPark.mono _ _ _
      | exact impl_DriveSome.mono _ _ _
      | exact impl_PlacesNeeded.mono _ _
      | exact laws_jSame.mono _ _ _
      | exact laws_jSum.mono _ _
      | exact laws_numberOf.mono _ _
      | exact spec_CountByDefect.mono _ _
      | exact spec_DefectOf.mono _ _ _
      | exact spec_DrawDefectOf.mono _ _
      | exact spec_DrawPlacesNeeded.mono _ _
      | exact spec_DriveSome.mono _ _ _
      | exact spec_PlacesNeeded.mono _ _
      | exact LeO.none _
      | refine LeO.ite ?_ ?_
      | refine LeO.bind ?_ (fun _ => ?_)
    · intro y0 y1 y2 y3 y4 y5 y6 y7 y8 y9 y10
      unfold laws_FnDefects.l1
      repeat' first
      | (with_reducible exact ih0 _ _ _ _ _ _ _)
      | (with_reducible exact ih1 _)
      | (with_reducible exact ih2 _ _ _ _ _)
      | (with_reducible exact ih3 _)
      | (with_reducible exact ih4 _ _ _ _)
      | (with_reducible exact ih5 _ _ _)
      | (with_reducible exact ih6 _ _ _ _ _ _ _)
      | (with_reducible exact ih7 _ _ _ _ _ _ _)
      | (with_reducible exact ih8 _ _ _ _ _ _ _ _ _ _ _)
      | (with_reducible exact ih9 _ _ _ _ _ _ _ _ _)
      | (with_reducible exact ih10 _ _ _ _ _)
      | (with_reducible exact impl_CountByDefect.mono _ _)
      | (with_reducible exact impl_CountParking.mono _ _)
      | (with_reducible exact impl_DefectOf.mono _ _ _)
      | (with_reducible exact impl_DoAllPark.mono _ _ _)
      | (with_reducible exact impl_DriveSome.mono _ _ _)
      | (with_reducible exact impl_PlacesNeeded.mono _ _)
      | (with_reducible exact laws_jSame.mono _ _ _)
      | (with_reducible exact laws_jSum.mono _ _)
      | (with_reducible exact laws_numberOf.mono _ _)
      | (with_reducible exact spec_CountByDefect.mono _ _)
      | (with_reducible exact spec_DefectOf.mono _ _ _)
      | (with_reducible exact spec_DrawDefectOf.mono _ _)
      | (with_reducible exact spec_DrawPlacesNeeded.mono _ _)
      | (with_reducible exact spec_DriveSome.mono _ _ _)
      | (with_reducible exact spec_PlacesNeeded.mono _ _)
      | (with_reducible exact LeO.refl _)
      | (with_reducible exact LeO.none _)
      | (with_reducible refine LeO.ite ?_ ?_)
      | (with_reducible refine LeO.bind ?_ (fun _ => ?_))
      | exact ih0 _ _ _ _ _ _ _
      | exact ih1 _
      | exact ih2 _ _ _ _ _
      | exact ih3 _
      | exact ih4 _ _ _ _
      | exact ih5 _ _ _
      | exact ih6 _ _ _ _ _ _ _
      | exact ih7 _ _ _ _ _ _ _
      | exact ih8 _ _ _ _ _ _ _ _ _ _ _
      | exact ih9 _ _ _ _ _ _ _ _ _
      | exact ih10 _ _ _ _ _
      | exact impl_CountByDefect.mono _ _
      | exact impl_CountParking.mono _ _
      | exact impl_DefectOf.mono _ _ _
      | exact impl_DoAllPark.mono _ _ _
      | exact impl_DriveSome.mono _ _ _
      | exact impl_PlacesNeeded.mono _ _
      | exact laws_jSame.mono _ _ _
      | exact laws_jSum.mono _ _
      | exact laws_numberOf.mono _ _
      | exact spec_CountByDefect.mono _ _
      | exact spec_DefectOf.mono _ _ _
      | exact spec_DrawDefectOf.mono _ _
      | exact spec_DrawPlacesNeeded.mono _ _
      | exact spec_DriveSome.mono _ _ _
      | exact spec_PlacesNeeded.mono _ _
      | exact LeO.none _
      | refine LeO.ite ?_ ?_
      | refine LeO.bind ?_ (fun _ => ?_)
    · intro y0 y1 y2 y3 y4 y5 y6 y7 y8
      unfold laws_FnDefects.l2
      repeat' first
      | (with_reducible exact ih0 _ _ _ _ _ _ _)
      | (with_reducible exact ih1 _)
      | (with_reducible exact ih2 _ _ _ _ _)
      | (with_reducible exact ih3 _)
      | (with_reducible exact ih4 _ _ _ _)
      | (with_reducible exact ih5 _ _ _)
      | (with_reducible exact ih6 _ _ _ _ _ _ _)
      | (with_reducible exact ih7 _ _ _ _ _ _ _)
      | (with_reducible exact ih8 _ _ _ _ _ _ _ _ _ _ _)
      | (with_reducible exact ih9 _ _ _ _ _ _ _ _ _)
      | (with_reducible exact ih10 _ _ _ _ _)
      | (with_reducible exact impl_CountByDefect.mono _ _)
      | (with_reducible exact impl_CountParking.mono _ _)
      | (with_reducible exact impl_DefectOf.mono _ _ _)
      | (with_reducible exact impl_DoAllPark.mono _ _ _)
      | (with_reducible exact impl_DriveSome.mono _ _ _)
      | (with_reducible exact impl_PlacesNeeded.mono _ _)
      | (with_reducible exact laws_jSame.mono _ _ _)
      | (with_reducible exact laws_jSum.mono _ _)
      | (with_reducible exact laws_numberOf.mono _ _)
      | (with_reducible exact spec_CountByDefect.mono _ _)
      | (with_reducible exact spec_DefectOf.mono _ _ _)
      | (with_reducible exact spec_DrawDefectOf.mono _ _)
      | (with_reducible exact spec_DrawPlacesNeeded.mono _ _)
      | (with_reducible exact spec_DriveSome.mono _ _ _)
      | (with_reducible exact spec_PlacesNeeded.mono _ _)
      | (with_reducible exact LeO.refl _)
      | (with_reducible exact LeO.none _)
      | (with_reducible refine LeO.ite ?_ ?_)
      | (with_reducible refine LeO.bind ?_ (fun _ => ?_))
      | exact ih0 _ _ _ _ _ _ _
      | exact ih1 _
      | exact ih2 _ _ _ _ _
      | exact ih3 _
      | exact ih4 _ _ _ _
      | exact ih5 _ _ _
      | exact ih6 _ _ _ _ _ _ _
      | exact ih7 _ _ _ _ _ _ _
      | exact ih8 _ _ _ _ _ _ _ _ _ _ _
      | exact ih9 _ _ _ _ _ _ _ _ _
      | exact ih10 _ _ _ _ _
      | exact impl_CountByDefect.mono _ _
      | exact impl_CountParking.mono _ _
      | exact impl_DefectOf.mono _ _ _
      | exact impl_DoAllPark.mono _ _ _
      | exact impl_DriveSome.mono _ _ _
      | exact impl_PlacesNeeded.mono _ _
      | exact laws_jSame.mono _ _ _
      | exact laws_jSum.mono _ _
      | exact laws_numberOf.mono _ _
      | exact spec_CountByDefect.mono _ _
      | exact spec_DefectOf.mono _ _ _
      | exact spec_DrawDefectOf.mono _ _
      | exact spec_DrawPlacesNeeded.mono _ _
      | exact spec_DriveSome.mono _ _ _
      | exact spec_PlacesNeeded.mono _ _
      | exact LeO.none _
      | refine LeO.ite ?_ ?_
      | refine LeO.bind ?_ (fun _ => ?_)
    · intro y0 y1 y2 y3 y4
      unfold laws_FnDefects.j4
      repeat' first
      | (with_reducible exact ih0 _ _ _ _ _ _ _)
      | (with_reducible exact ih1 _)
      | (with_reducible exact ih2 _ _ _ _ _)
      | (with_reducible exact ih3 _)
      | (with_reducible exact ih4 _ _ _ _)
      | (with_reducible exact ih5 _ _ _)
      | (with_reducible exact ih6 _ _ _ _ _ _ _)
      | (with_reducible exact ih7 _ _ _ _ _ _ _)
      | (with_reducible exact ih8 _ _ _ _ _ _ _ _ _ _ _)
      | (with_reducible exact ih9 _ _ _ _ _ _ _ _ _)
      | (with_reducible exact ih10 _ _ _ _ _)
      | (with_reducible exact impl_CountByDefect.mono _ _)
      | (with_reducible exact impl_CountParking.mono _ _)
      | (with_reducible exact impl_DefectOf.mono _ _ _)
      | (with_reducible exact impl_DoAllPark.mono _ _ _)
      | (with_reducible exact impl_DriveSome.mono _ _ _)
      | (with_reducible exact impl_PlacesNeeded.mono _ _)
      | (with_reducible exact laws_jSame.mono _ _ _)
      | (with_reducible exact laws_jSum.mono _ _)
      | (with_reducible exact laws_numberOf.mono _ _)
      | (with_reducible exact spec_CountByDefect.mono _ _)
      | (with_reducible exact spec_DefectOf.mono _ _ _)
      | (with_reducible exact spec_DrawDefectOf.mono _ _)
      | (with_reducible exact spec_DrawPlacesNeeded.mono _ _)
      | (with_reducible exact spec_DriveSome.mono _ _ _)
      | (with_reducible exact spec_PlacesNeeded.mono _ _)
      | (with_reducible exact LeO.refl _)
      | (with_reducible exact LeO.none _)
      | (with_reducible refine LeO.ite ?_ ?_)
      | (with_reducible refine LeO.bind ?_ (fun _ => ?_))
      | exact ih0 _ _ _ _ _ _ _
      | exact ih1 _
      | exact ih2 _ _ _ _ _
      | exact ih3 _
      | exact ih4 _ _ _ _
      | exact ih5 _ _ _
      | exact ih6 _ _ _ _ _ _ _
      | exact ih7 _ _ _ _ _ _ _
      | exact ih8 _ _ _ _ _ _ _ _ _ _ _
      | exact ih9 _ _ _ _ _ _ _ _ _
      | exact ih10 _ _ _ _ _
      | exact impl_CountByDefect.mono _ _
      | exact impl_CountParking.mono _ _
      | exact impl_DefectOf.mono _ _ _
      | exact impl_DoAllPark.mono _ _ _
      | exact impl_DriveSome.mono _ _ _
      | exact impl_PlacesNeeded.mono _ _
      | exact laws_jSame.mono _ _ _
      | exact laws_jSum.mono _ _
      | exact laws_numberOf.mono _ _
      | exact spec_CountByDefect.mono _ _
      | exact spec_DefectOf.mono _ _ _
      | exact spec_DrawDefectOf.mono _ _
      | exact spec_DrawPlacesNeeded.mono _ _
      | exact spec_DriveSome.mono _ _ _
      | exact spec_PlacesNeeded.mono _ _
      | exact LeO.none _
      | refine LeO.ite ?_ ?_
      | refine LeO.bind ?_ (fun _ => ?_)
theorem laws_FnDefects.mono : ∀ a0 a1 k, LeO (laws_FnDefects.f k a0 a1) (laws_FnDefects.f (k + 1) a0 a1) := by
  intro a0 a1 k
  obtain ⟨ih0, ih1, ih2, ih3, ih4, ih5, ih6, ih7, ih8, ih9, ih10⟩ := laws_FnDefects.mono_l k
  unfold laws_FnDefects.f
  repeat' first
      | (with_reducible exact ih0 _ _ _ _ _ _ _)
      | (with_reducible exact ih1 _)
      | (with_reducible exact ih2 _ _ _ _ _)
      | (with_reducible exact ih3 _)
      | (with_reducible exact ih4 _ _ _ _)
      | (with_reducible exact ih5 _ _ _)
      | (with_reducible exact ih6 _ _ _ _ _ _ _)
      | (with_reducible exact ih7 _ _ _ _ _ _ _)
      | (with_reducible exact ih8 _ _ _ _ _ _ _ _ _ _ _)
      | (with_reducible exact ih9 _ _ _ _ _ _ _ _ _)
      | (with_reducible exact ih10 _ _ _ _ _)
      | (with_reducible exact impl_CountByDefect.mono _ _)
      | (with_reducible exact impl_CountParking.mono _ _)
      | (with_reducible exact impl_DefectOf.mono _ _ _)
      | (with_reducible exact impl_DoAllPark.mono _ _ _)
      | (with_reducible exact impl_DriveSome.mono _ _ _)
      | (with_reducible exact impl_PlacesNeeded.mono _ _)
      | (with_reducible exact laws_jSame.mono _ _ _)
      | (with_reducible exact laws_jSum.mono _ _)
      | (with_reducible exact laws_numberOf.mono _ _)
      | (with_reducible exact spec_CountByDefect.mono _ _)
      | (with_reducible exact spec_DefectOf.mono _ _ _)
      | (with_reducible exact spec_DrawDefectOf.mono _ _)
      | (with_reducible exact spec_DrawPlacesNeeded.mono _ _)
      | (with_reducible exact spec_DriveSome.mono _ _ _)
      | (with_reducible exact spec_PlacesNeeded.mono _ _)
      | (with_reducible exact LeO.refl _)
      | (with_reducible exact LeO.none _)
      | (with_reducible refine LeO.ite ?_ ?_)
      | (with_reducible refine LeO.bind ?_ (fun _ => ?_))
      | exact ih0 _ _ _ _ _ _ _
      | exact ih1 _
      | exact ih2 _ _ _ _ _
      | exact ih3 _
      | exact ih4 _ _ _ _
      | exact ih5 _ _ _
      | exact ih6 _ _ _ _ _ _ _
      | exact ih7 _ _ _ _ _ _ _
      | exact ih8 _ _ _ _ _ _ _ _ _ _ _
      | exact ih9 _ _ _ _ _ _ _ _ _
      | exact ih10 _ _ _ _ _
      | exact impl_CountByDefect.mono _ _
      | exact impl_CountParking.mono _ _
      | exact impl_DefectOf.mono _ _ _
      | exact impl_DoAllPark.mono _ _ _
      | exact impl_DriveSome.mono _ _ _
      | exact impl_PlacesNeeded.mono _ _
      | exact laws_jSame.mono _ _ _
      | exact laws_jSum.mono _ _
      | exact laws_numberOf.mono _ _
      | exact spec_CountByDefect.mono _ _
      | exact spec_DefectOf.mono _ _ _
      | exact spec_DrawDefectOf.mono _ _
      | exact spec_DrawPlacesNeeded.mono _ _
      | exact spec_DriveSome.mono _ _ _
      | exact spec_PlacesNeeded.mono _ _
      | exact LeO.none _
      | refine LeO.ite ?_ ?_
      | refine LeO.bind ?_ (fun _ => ?_)
set_option maxHeartbeats 8000000 in
set_option maxRecDepth 100000 in
theorem laws_FnDefects.calls (k : Nat) (A0 : Option Addr) (c0 : Nat) (l0 : List Int) (A1 : Option Addr) (c1 : Nat) (l1 : List Int) (r : Bool) (w : World) (hr0 : Kd.C (Kd.int .u8) w A0 l0.length l0) (hc0 : l0.length ≤ c0) (hr1 : Kd.C (Kd.int .u8) w A1 l1.length l1) (hc1 : l1.length ≤ c1) (h : laws_FnDefects.f k l0 l1 = some r) :
    Calls Try.prog 10 #[.slice A0 l0.length c0, .slice A1 l1.length c1] w fun e w' => e = .returned (.bool r) ∧ Below w.heap.size w w' := by
  have HR0 := Aside0.mk hr0
  have HC0 := Aside0.mk hc0
  clear hr0 hc0
  have HR1 := Aside0.mk hr1
  have HC1 := Aside0.mk hc1
  clear hr1 hc1
  have HB := Aside0.mk (Below.refl w.heap.size w)
  have H : ((laws_big.f l0 l1).bind fun t932 => (if t932 = true then (some true) else ((spec_DrawDefectOf.f k l0).bind fun bt933 => ((impl_DefectOf.f k bt933.1 bt933.2).bind fun bt937 => ((spec_DefectOf.f k bt933.1 bt933.2).bind fun bt939 => ((impl_DriveSome.f k bt933.1 bt933.2).bind fun bt941 => ((spec_DriveSome.f k bt933.1 bt933.2).bind fun bt945 => (if (bt937.2 != bt939.2) = true then (laws_FnDefects.j0 k l1 bt933.1 bt933.2 bt937.1 bt937.2 bt941.1 true) else (if bt937.1 = bt939.1 then (if (bt941.2 != bt945.2) = true then (laws_FnDefects.j0 k l1 bt933.1 bt933.2 bt937.1 bt937.2 bt941.1 true) else ((laws_jSame.f k bt941.1 bt945.1).bind fun t949 => (if t949 = true then (laws_FnDefects.j0 k l1 bt933.1 bt933.2 bt937.1 bt937.2 bt941.1 (bt941.2 != bt937.2)) else (laws_FnDefects.j0 k l1 bt933.1 bt933.2 bt937.1 bt937.2 bt941.1 true)))) else (laws_FnDefects.j0 k l1 bt933.1 bt933.2 bt937.1 bt937.2 bt941.1 true)))))))))) = some r := h
  clear h
  replace H := Option.bind_eq_some_iff.mp H
  obtain ⟨t932, A30, H⟩ := H
  replace H : (if t932 = true then (some true) else ((spec_DrawDefectOf.f k l0).bind fun bt933 => ((impl_DefectOf.f k bt933.1 bt933.2).bind fun bt937 => ((spec_DefectOf.f k bt933.1 bt933.2).bind fun bt939 => ((impl_DriveSome.f k bt933.1 bt933.2).bind fun bt941 => ((spec_DriveSome.f k bt933.1 bt933.2).bind fun bt945 => (if (bt937.2 != bt939.2) = true then (laws_FnDefects.j0 k l1 bt933.1 bt933.2 bt937.1 bt937.2 bt941.1 true) else (if bt937.1 = bt939.1 then (if (bt941.2 != bt945.2) = true then (laws_FnDefects.j0 k l1 bt933.1 bt933.2 bt937.1 bt937.2 bt941.1 true) else ((laws_jSame.f k bt941.1 bt945.1).bind fun t949 => (if t949 = true then (laws_FnDefects.j0 k l1 bt933.1 bt933.2 bt937.1 bt937.2 bt941.1 (bt941.2 != bt937.2)) else (laws_FnDefects.j0 k l1 bt933.1 bt933.2 bt937.1 bt937.2 bt941.1 true)))) else (laws_FnDefects.j0 k l1 bt933.1 bt933.2 bt937.1 bt937.2 bt941.1 true))))))))) = some r := H
  have A3 := Aside0.mk A30
  clear A30
  by_cases c4 : t932 = true
  · subst c4
    have H1 : (some true) = some r := by rw [if_pos rfl] at H; exact H
    clear H
    have H := H1
    clear H1
    obtain rfl := Option.some.inj H
    go_enter Try.func10, Try.ntmps10
    go_wp2_with (first | ((with_reducible refine gate_callee (f := 17) rfl ?_); refine goesL_ (some 45) rfl rfl Try.func17 (by kernel_rfl) rfl #[.slice A0 l0.length c0, .slice A1 l1.length c1] rfl (by (try simp only [List.map_toArray, List.map_cons, List.map_nil]); first | done | rfl | (simp only [List.length_drop, List.length_take]; rfl)) ?_; (with_reducible refine (laws_big.calls _ _ l0 _ _ l1 true _ ?side1 ?side2 ?side3 ?side4 A3.out).mono ?_); (case side1 => repeat (first | exact HR0.out | (with_reducible refine Kd.C_alloc ?_ _) | (with_reducible refine Kd.C_drewN ?_ _) | (with_reducible refine Kd.C_drew ?_))); (case side2 => exact HC0.out); (case side3 => repeat (first | exact HR1.out | (with_reducible refine Kd.C_alloc ?_ _) | (with_reducible refine Kd.C_drewN ?_ _) | (with_reducible refine Kd.C_drew ?_))); (case side4 => exact HC1.out); rintro e w' ⟨rfl, ⟨nd, rfl⟩⟩; refine ⟨_, rfl, ?_⟩))
    go_ret
    exact ⟨by first | rfl | (simp [errW_none, errW_some] <;> rfl) | (simp [*, errW_none, errW_some] <;> rfl), by repeat (first | (with_reducible first | exact HB.out | apply below_alloc | apply pw_below_drewN | apply below_drew1) | exact HB.out)⟩
  · as_aux_lemma =>
    replace c4 := Bool.eq_false_iff.mpr c4
    subst c4
    have H1 : ((spec_DrawDefectOf.f k l0).bind fun bt933 => ((impl_DefectOf.f k bt933.1 bt933.2).bind fun bt937 => ((spec_DefectOf.f k bt933.1 bt933.2).bind fun bt939 => ((impl_DriveSome.f k bt933.1 bt933.2).bind fun bt941 => ((spec_DriveSome.f k bt933.1 bt933.2).bind fun bt945 => (if (bt937.2 != bt939.2) = true then (laws_FnDefects.j0 k l1 bt933.1 bt933.2 bt937.1 bt937.2 bt941.1 true) else (if bt937.1 = bt939.1 then (if (bt941.2 != bt945.2) = true then (laws_FnDefects.j0 k l1 bt933.1 bt933.2 bt937.1 bt937.2 bt941.1 true) else ((laws_jSame.f k bt941.1 bt945.1).bind fun t949 => (if t949 = true then (laws_FnDefects.j0 k l1 bt933.1 bt933.2 bt937.1 bt937.2 bt941.1 (bt941.2 != bt937.2)) else (laws_FnDefects.j0 k l1 bt933.1 bt933.2 bt937.1 bt937.2 bt941.1 true)))) else (laws_FnDefects.j0 k l1 bt933.1 bt933.2 bt937.1 bt937.2 bt941.1 true)))))))) = some r := by rw [if_neg (show ¬ (false = true) by decide)] at H; exact H
    clear H
    have H := H1
    clear H1
    replace H := Option.bind_eq_some_iff.mp H
    obtain ⟨⟨t933, t934⟩, A50, H⟩ := H
    replace H : ((impl_DefectOf.f k t933 t934).bind fun bt937 => ((spec_DefectOf.f k t933 t934).bind fun bt939 => ((impl_DriveSome.f k t933 t934).bind fun bt941 => ((spec_DriveSome.f k t933 t934).bind fun bt945 => (if (bt937.2 != bt939.2) = true then (laws_FnDefects.j0 k l1 t933 t934 bt937.1 bt937.2 bt941.1 true) else (if bt937.1 = bt939.1 then (if (bt941.2 != bt945.2) = true then (laws_FnDefects.j0 k l1 t933 t934 bt937.1 bt937.2 bt941.1 true) else ((laws_jSame.f k bt941.1 bt945.1).bind fun t949 => (if t949 = true then (laws_FnDefects.j0 k l1 t933 t934 bt937.1 bt937.2 bt941.1 (bt941.2 != bt937.2)) else (laws_FnDefects.j0 k l1 t933 t934 bt937.1 bt937.2 bt941.1 true)))) else (laws_FnDefects.j0 k l1 t933 t934 bt937.1 bt937.2 bt941.1 true))))))) = some r := H
    have A5 := Aside0.mk A50
    clear A50
    replace H := Option.bind_eq_some_iff.mp H
    obtain ⟨⟨t937, t938⟩, A60, H⟩ := H
    replace H : ((spec_DefectOf.f k t933 t934).bind fun bt939 => ((impl_DriveSome.f k t933 t934).bind fun bt941 => ((spec_DriveSome.f k t933 t934).bind fun bt945 => (if (t938 != bt939.2) = true then (laws_FnDefects.j0 k l1 t933 t934 t937 t938 bt941.1 true) else (if t937 = bt939.1 then (if (bt941.2 != bt945.2) = true then (laws_FnDefects.j0 k l1 t933 t934 t937 t938 bt941.1 true) else ((laws_jSame.f k bt941.1 bt945.1).bind fun t949 => (if t949 = true then (laws_FnDefects.j0 k l1 t933 t934 t937 t938 bt941.1 (bt941.2 != t938)) else (laws_FnDefects.j0 k l1 t933 t934 t937 t938 bt941.1 true)))) else (laws_FnDefects.j0 k l1 t933 t934 t937 t938 bt941.1 true)))))) = some r := H
    have A6 := Aside0.mk A60
    clear A60
    replace H := Option.bind_eq_some_iff.mp H
    obtain ⟨⟨t939, t940⟩, A70, H⟩ := H
    replace H : ((impl_DriveSome.f k t933 t934).bind fun bt941 => ((spec_DriveSome.f k t933 t934).bind fun bt945 => (if (t938 != t940) = true then (laws_FnDefects.j0 k l1 t933 t934 t937 t938 bt941.1 true) else (if t937 = t939 then (if (bt941.2 != bt945.2) = true then (laws_FnDefects.j0 k l1 t933 t934 t937 t938 bt941.1 true) else ((laws_jSame.f k bt941.1 bt945.1).bind fun t949 => (if t949 = true then (laws_FnDefects.j0 k l1 t933 t934 t937 t938 bt941.1 (bt941.2 != t938)) else (laws_FnDefects.j0 k l1 t933 t934 t937 t938 bt941.1 true)))) else (laws_FnDefects.j0 k l1 t933 t934 t937 t938 bt941.1 true))))) = some r := H
    have A7 := Aside0.mk A70
    clear A70
    replace H := Option.bind_eq_some_iff.mp H
    obtain ⟨⟨t941, t942⟩, A80, H⟩ := H
    replace H : ((spec_DriveSome.f k t933 t934).bind fun bt945 => (if (t938 != t940) = true then (laws_FnDefects.j0 k l1 t933 t934 t937 t938 t941 true) else (if t937 = t939 then (if (t942 != bt945.2) = true then (laws_FnDefects.j0 k l1 t933 t934 t937 t938 t941 true) else ((laws_jSame.f k t941 bt945.1).bind fun t949 => (if t949 = true then (laws_FnDefects.j0 k l1 t933 t934 t937 t938 t941 (t942 != t938)) else (laws_FnDefects.j0 k l1 t933 t934 t937 t938 t941 true)))) else (laws_FnDefects.j0 k l1 t933 t934 t937 t938 t941 true)))) = some r := H
    have A8 := Aside0.mk A80
    clear A80
    replace H := Option.bind_eq_some_iff.mp H
    obtain ⟨⟨t945, t946⟩, A90, H⟩ := H
    replace H : (if (t938 != t940) = true then (laws_FnDefects.j0 k l1 t933 t934 t937 t938 t941 true) else (if t937 = t939 then (if (t942 != t946) = true then (laws_FnDefects.j0 k l1 t933 t934 t937 t938 t941 true) else ((laws_jSame.f k t941 t945).bind fun t949 => (if t949 = true then (laws_FnDefects.j0 k l1 t933 t934 t937 t938 t941 (t942 != t938)) else (laws_FnDefects.j0 k l1 t933 t934 t937 t938 t941 true)))) else (laws_FnDefects.j0 k l1 t933 t934 t937 t938 t941 true))) = some r := H
    have A9 := Aside0.mk A90
    clear A90
    have HC10 := Aside0.mk H
    clear H
    go_enter Try.func10, Try.ntmps10
    go_upto_region 8 with (first | ((with_reducible refine gate_callee (f := 17) rfl ?_); refine goesL_ (some 45) rfl rfl Try.func17 (by kernel_rfl) rfl #[.slice A0 l0.length c0, .slice A1 l1.length c1] rfl (by (try simp only [List.map_toArray, List.map_cons, List.map_nil]); first | done | rfl | (simp only [List.length_drop, List.length_take]; rfl)) ?_; (with_reducible refine (laws_big.calls _ _ l0 _ _ l1 false _ ?side1 ?side2 ?side3 ?side4 A3.out).mono ?_); (case side1 => repeat (first | exact HR0.out | (with_reducible refine Kd.C_alloc ?_ _) | (with_reducible refine Kd.C_drewN ?_ _) | (with_reducible refine Kd.C_drew ?_))); (case side2 => exact HC0.out); (case side3 => repeat (first | exact HR1.out | (with_reducible refine Kd.C_alloc ?_ _) | (with_reducible refine Kd.C_drewN ?_ _) | (with_reducible refine Kd.C_drew ?_))); (case side4 => exact HC1.out); rintro e w' ⟨rfl, ⟨nd, rfl⟩⟩; refine ⟨_, rfl, ?_⟩) | ((with_reducible refine gate_callee (f := 46) rfl ?_); refine goesL_ (some 48) rfl rfl Try.func46 (by kernel_rfl) rfl #[.slice A0 l0.length c0] rfl (by (try simp only [List.map_toArray, List.map_cons, List.map_nil]); first | done | rfl | (simp only [List.length_drop, List.length_take]; rfl)) ?_; (with_reducible refine (spec_DrawDefectOf.calls k _ _ l0 t933 t934 _ ?side1 ?side2 A5.out).mono ?_); (case side1 => repeat (first | exact HR0.out | (with_reducible refine Kd.C_alloc ?_ _) | (with_reducible refine Kd.C_drewN ?_ _) | (with_reducible refine Kd.C_drew ?_))); (case side2 => exact HC0.out); rintro e w11 ⟨v935, rfl, ho0, hb⟩; refine ⟨_, rfl, ?_⟩; have n0_ := Aside0.mk (Kd.R_lower ho0 (below_size (by repeat (first | (with_reducible first | exact HB.out | apply below_alloc | apply pw_below_drewN | apply below_drew1) | exact HB.out)))); have n1_ := Aside0.mk (below_step (by repeat (first | (with_reducible first | exact HB.out | apply below_alloc | apply pw_below_drewN | apply below_drew1) | exact HB.out)) hb); clear HB; have HO936 := n0_; have HB := n1_; clear n0_ n1_; (try clear hb); (try clear hb2); (try clear hk); (try clear hi); (try clear ho0); obtain ⟨Ao12, co12, eo12⟩ := Kd.R_slice HO936.out; subst eo12) | ((with_reducible refine gate_callee (f := 47) rfl ?_); refine goesL_ (some 54) rfl rfl Try.func47 (by kernel_rfl) rfl #[.slice Ao12 t933.length co12, .int .i64 t934] rfl (by (try simp only [List.map_toArray, List.map_cons, List.map_nil]); first | done | rfl | (simp only [List.length_drop, List.length_take]; rfl)) ?_; (with_reducible refine (impl_DefectOf.calls k _ _ t933 t934 t937 t938 _ ?side1 ?side2 A6.out).mono ?_); (case side1 => repeat (first | exact (Kd.R_reads' HO936.out).2.2 | (with_reducible refine Kd.C_alloc ?_ _) | (with_reducible refine Kd.C_drewN ?_ _) | (with_reducible refine Kd.C_drew ?_))); (case side2 => exact (Kd.R_reads' HO936.out).2.1); rintro e w13 ⟨rfl, hb⟩; refine ⟨_, rfl, ?_⟩; have n0_ := Aside0.mk (Kd.R_below (by (with_reducible repeat (first | apply Kd.R_alloc | apply Kd.R_drewN | apply Kd.R_drew)); exact HO936.out) hb); have n1_ := Aside0.mk (below_step (by repeat (first | (with_reducible first | exact HB.out | apply below_alloc | apply pw_below_drewN | apply below_drew1) | exact HB.out)) hb); clear HO936; clear HB; have HO936 := n0_; have HB := n1_; clear n0_ n1_; (try clear hb); (try clear hb2); (try clear hk); (try clear hi)) | ((with_reducible refine gate_callee (f := 48) rfl ?_); refine goesL_ (some 60) rfl rfl Try.func48 (by kernel_rfl) rfl #[.slice Ao12 t933.length co12, .int .i64 t934] rfl (by (try simp only [List.map_toArray, List.map_cons, List.map_nil]); first | done | rfl | (simp only [List.length_drop, List.length_take]; rfl)) ?_; (with_reducible refine (spec_DefectOf.calls k _ _ t933 t934 t939 t940 _ ?side1 ?side2 A7.out).mono ?_); (case side1 => repeat (first | exact (Kd.R_reads' HO936.out).2.2 | (with_reducible refine Kd.C_alloc ?_ _) | (with_reducible refine Kd.C_drewN ?_ _) | (with_reducible refine Kd.C_drew ?_))); (case side2 => exact (Kd.R_reads' HO936.out).2.1); rintro e w14 ⟨rfl, hb⟩; refine ⟨_, rfl, ?_⟩; have n0_ := Aside0.mk (Kd.R_below (by (with_reducible repeat (first | apply Kd.R_alloc | apply Kd.R_drewN | apply Kd.R_drew)); exact HO936.out) hb); have n1_ := Aside0.mk (below_step (by repeat (first | (with_reducible first | exact HB.out | apply below_alloc | apply pw_below_drewN | apply below_drew1) | exact HB.out)) hb); clear HO936; clear HB; have HO936 := n0_; have HB := n1_; clear n0_ n1_; (try clear hb); (try clear hb2); (try clear hk); (try clear hi)) | ((with_reducible refine gate_callee (f := 49) rfl ?_); refine goesL_ (some 66) rfl rfl Try.func49 (by kernel_rfl) rfl #[.slice Ao12 t933.length co12, .int .i64 t934] rfl (by (try simp only [List.map_toArray, List.map_cons, List.map_nil]); first | done | rfl | (simp only [List.length_drop, List.length_take]; rfl)) ?_; (with_reducible refine (impl_DriveSome.calls k _ _ t933 t934 t941 t942 _ ?side1 ?side2 A8.out).mono ?_); (case side1 => repeat (first | exact (Kd.R_reads' HO936.out).2.2 | (with_reducible refine Kd.C_alloc ?_ _) | (with_reducible refine Kd.C_drewN ?_ _) | (with_reducible refine Kd.C_drew ?_))); (case side2 => exact (Kd.R_reads' HO936.out).2.1); rintro e w15 ⟨v943, rfl, ho0, hb⟩; refine ⟨_, rfl, ?_⟩; have n0_ := Aside0.mk (Kd.R_elder' (by (with_reducible repeat (first | apply Kd.R_alloc | apply Kd.R_drewN | apply Kd.R_drew)); exact HO936.out) (Kd.R_base ho0) hb); have n1_ := Aside0.mk (Kd.R_lower (Kd.R_new' ho0 (Kd.R_lt (by (with_reducible repeat (first | apply Kd.R_alloc | apply Kd.R_drewN | apply Kd.R_drew)); exact HO936.out))) (below_size (by repeat (first | (with_reducible first | exact HB.out | apply below_alloc | apply pw_below_drewN | apply below_drew1) | exact HB.out)))); have n2_ := Aside0.mk (below_step (by repeat (first | (with_reducible first | exact HB.out | apply below_alloc | apply pw_below_drewN | apply below_drew1) | exact HB.out)) hb); clear HO936; clear HB; have HO936 := n0_; have HO944 := n1_; have HB := n2_; clear n0_ n1_ n2_; (try clear hb); (try clear hb2); (try clear hk); (try clear hi); (try clear ho0)) | ((with_reducible refine gate_callee (f := 50) rfl ?_); refine goesL_ (some 72) rfl rfl Try.func50 (by kernel_rfl) rfl #[.slice Ao12 t933.length co12, .int .i64 t934] rfl (by (try simp only [List.map_toArray, List.map_cons, List.map_nil]); first | done | rfl | (simp only [List.length_drop, List.length_take]; rfl)) ?_; (with_reducible refine (spec_DriveSome.calls k _ _ t933 t934 t945 t946 _ ?side1 ?side2 A9.out).mono ?_); (case side1 => repeat (first | exact (Kd.R_reads' HO936.out).2.2 | (with_reducible refine Kd.C_alloc ?_ _) | (with_reducible refine Kd.C_drewN ?_ _) | (with_reducible refine Kd.C_drew ?_))); (case side2 => exact (Kd.R_reads' HO936.out).2.1); rintro e w16 ⟨v947, rfl, ho0, hb⟩; refine ⟨_, rfl, ?_⟩; have n0_ := Aside0.mk (Kd.R_elder' (by (with_reducible repeat (first | apply Kd.R_alloc | apply Kd.R_drewN | apply Kd.R_drew)); exact HO936.out) (Kd.R_base ho0) hb); have n1_ := Aside0.mk (Kd.R_elder' (by (with_reducible repeat (first | apply Kd.R_alloc | apply Kd.R_drewN | apply Kd.R_drew)); exact HO944.out) (Kd.R_base ho0) hb); have n2_ := Aside0.mk (Kd.R_lower (Kd.R_new' (Kd.R_new' ho0 (Kd.R_lt (by (with_reducible repeat (first | apply Kd.R_alloc | apply Kd.R_drewN | apply Kd.R_drew)); exact HO936.out))) (Kd.R_lt (by (with_reducible repeat (first | apply Kd.R_alloc | apply Kd.R_drewN | apply Kd.R_drew)); exact HO944.out))) (below_size (by repeat (first | (with_reducible first | exact HB.out | apply below_alloc | apply pw_below_drewN | apply below_drew1) | exact HB.out)))); have n3_ := Aside0.mk (below_step (by repeat (first | (with_reducible first | exact HB.out | apply below_alloc | apply pw_below_drewN | apply below_drew1) | exact HB.out)) hb); clear HO936; clear HO944; clear HB; have HO936 := n0_; have HO944 := n1_; have HO948 := n2_; have HB := n3_; clear n0_ n1_ n2_ n3_; (try clear hb); (try clear hb2); (try clear hk); (try clear hi); (try clear ho0)))
    (try simp only [Act.put, List.setIfInBounds_toArray, List.set_cons_zero, List.set_cons_succ])
    go_cut [98] (fun v98 wc => ∃ (kq : Nat) (x98_9 : Bool), v98 = .bool x98_9 ∧ Aside0 (laws_FnDefects.j0 kq l1 t933 t934 t937 t938 t941 x98_9 = some r) ∧ Aside0 (kq ≤ k) ∧ Aside0 (Kd.R (Kd.int .i64) 3 wc w.heap.size (fun k_ => some k_ ≠ (v943 : Value).ownBlock) (.slice Ao12 t933.length co12) t933) ∧ Aside0 (Kd.R (Kd.int .i64) 3 wc w.heap.size (fun k_ => some k_ ≠ ((.slice Ao12 t933.length co12) : Value).ownBlock) v943 t941) ∧ Aside0 (Below w.heap.size w wc))
    case first =>
      have H := HC10.out
      clear HC10
      by_cases c17 : (t938 != t940) = true
      · rw [if_pos c17] at H
        have c17b0 : (t938 != t940) = true := c17
        (try (have c17b1 : decide (t938 = t940) = false := by simpa using c17))
        (try (have c17b2 : (t938 == t940) = false := by simpa using c17))
        (try (have c17b3 : ¬ (t938 = t940) := by simpa using c17))
        clear c17
        (first | rw [c17b0] | (simp only [i64_w, i32_w]; rw [c17b0]) | skip)
        have H' := Aside0.mk H
        clear H
        go_wp2
        go_meet
        case rel => exact ⟨_, (true), (by first | rfl | (simp; done) | (simp [*]; done)), H', ⟨by first | omega | exact Nat.le_refl _⟩, ⟨by (with_reducible repeat (first | apply Kd.R_alloc | apply Kd.R_drewN | apply Kd.R_drew)); exact Kd.R_mono HO936.out (fun _ hk => hk.1.2)⟩, ⟨by (with_reducible repeat (first | apply Kd.R_alloc | apply Kd.R_drewN | apply Kd.R_drew)); exact Kd.R_mono HO944.out (fun _ hk => hk.1.2)⟩, ⟨by repeat (first | (with_reducible first | exact HB.out | apply below_alloc | apply pw_below_drewN | apply below_drew1) | exact HB.out)⟩⟩
      · as_aux_lemma =>
        rw [if_neg c17] at H
        have c17b0 : (t938 != t940) = false := by simpa using c17
        (try (have c17b1 : decide (t938 = t940) = true := by simpa using c17))
        (try (have c17b2 : (t938 == t940) = true := by simpa using c17))
        clear c17
        (first | rw [c17b0] | (simp only [i64_w, i32_w]; rw [c17b0]) | skip)
        by_cases c18 : t937 = t939
        · as_aux_lemma =>
          rw [if_pos c18] at H
          have c18b0 : (t937 == t939) = true := beq_iff_eq.mpr c18
          have c18b1 : (t937 != t939) = false := bne_eq_false_iff_eq.mpr c18
          clear c18
          by_cases c19 : (t942 != t946) = true
          · rw [if_pos c19] at H
            have c19b0 : (t942 != t946) = true := c19
            (try (have c19b1 : decide (t942 = t946) = false := by simpa using c19))
            (try (have c19b2 : (t942 == t946) = false := by simpa using c19))
            (try (have c19b3 : ¬ (t942 = t946) := by simpa using c19))
            clear c19
            have H' := Aside0.mk H
            clear H
            go_wp2
            go_meet
            case rel => exact ⟨_, (true), (by first | rfl | (simp; done) | (simp [*]; done)), H', ⟨by first | omega | exact Nat.le_refl _⟩, ⟨by (with_reducible repeat (first | apply Kd.R_alloc | apply Kd.R_drewN | apply Kd.R_drew)); exact Kd.R_mono HO936.out (fun _ hk => hk.1.2)⟩, ⟨by (with_reducible repeat (first | apply Kd.R_alloc | apply Kd.R_drewN | apply Kd.R_drew)); exact Kd.R_mono HO944.out (fun _ hk => hk.1.2)⟩, ⟨by repeat (first | (with_reducible first | exact HB.out | apply below_alloc | apply pw_below_drewN | apply below_drew1) | exact HB.out)⟩⟩
          · rw [if_neg c19] at H
            have c19b0 : (t942 != t946) = false := by simpa using c19
            (try (have c19b1 : decide (t942 = t946) = true := by simpa using c19))
            (try (have c19b2 : (t942 == t946) = true := by simpa using c19))
            clear c19
            replace H := Option.bind_eq_some_iff.mp H
            obtain ⟨t949, A200, H⟩ := H
            replace H : (if t949 = true then (laws_FnDefects.j0 k l1 t933 t934 t937 t938 t941 (t942 != t938)) else (laws_FnDefects.j0 k l1 t933 t934 t937 t938 t941 true)) = some r := H
            have A20 := Aside0.mk A200
            clear A200
            by_cases c21 : t949 = true
            · subst c21
              have H1 : (laws_FnDefects.j0 k l1 t933 t934 t937 t938 t941 (t942 != t938)) = some r := by rw [if_pos rfl] at H; exact H
              clear H
              have H := H1
              clear H1
              have H' := Aside0.mk H
              clear H
              obtain ⟨Ao22, co22, eo22⟩ := Kd.R_slice HO944.out
              subst eo22
              obtain ⟨Ao23, co23, eo23⟩ := Kd.R_slice HO948.out
              subst eo23
              go_wp2_with (first | (go_at_call 34; (with_reducible refine (laws_jSame.calls k _ _ t941 _ _ t945 true _ ?side1 ?side2 ?side3 ?side4 A20.out).mono ?_); (case side1 => repeat (first | exact (Kd.R_reads' HO944.out).2.2 | (with_reducible refine Kd.C_alloc ?_ _) | (with_reducible refine Kd.C_drewN ?_ _) | (with_reducible refine Kd.C_drew ?_))); (case side2 => exact (Kd.R_reads' HO944.out).2.1); (case side3 => repeat (first | exact (Kd.R_reads' HO948.out).2.2 | (with_reducible refine Kd.C_alloc ?_ _) | (with_reducible refine Kd.C_drewN ?_ _) | (with_reducible refine Kd.C_drew ?_))); (case side4 => exact (Kd.R_reads' HO948.out).2.1); rintro e w' ⟨rfl, ⟨nd, rfl⟩⟩))
              go_meet
              case rel => exact ⟨_, ((t942 != t938)), (by first | rfl | (simp; done) | (simp [*]; done)), H', ⟨by first | omega | exact Nat.le_refl _⟩, ⟨by (with_reducible repeat (first | apply Kd.R_alloc | apply Kd.R_drewN | apply Kd.R_drew)); exact Kd.R_mono HO936.out (fun _ hk => hk.1.2)⟩, ⟨by (with_reducible repeat (first | apply Kd.R_alloc | apply Kd.R_drewN | apply Kd.R_drew)); exact Kd.R_mono HO944.out (fun _ hk => hk.1.2)⟩, ⟨by repeat (first | (with_reducible first | exact HB.out | apply below_alloc | apply pw_below_drewN | apply below_drew1) | exact HB.out)⟩⟩
            · replace c21 := Bool.eq_false_iff.mpr c21
              subst c21
              have H1 : (laws_FnDefects.j0 k l1 t933 t934 t937 t938 t941 true) = some r := by rw [if_neg (show ¬ (false = true) by decide)] at H; exact H
              clear H
              have H := H1
              clear H1
              have H' := Aside0.mk H
              clear H
              obtain ⟨Ao24, co24, eo24⟩ := Kd.R_slice HO944.out
              subst eo24
              obtain ⟨Ao25, co25, eo25⟩ := Kd.R_slice HO948.out
              subst eo25
              go_wp2_with (first | (go_at_call 34; (with_reducible refine (laws_jSame.calls k _ _ t941 _ _ t945 false _ ?side1 ?side2 ?side3 ?side4 A20.out).mono ?_); (case side1 => repeat (first | exact (Kd.R_reads' HO944.out).2.2 | (with_reducible refine Kd.C_alloc ?_ _) | (with_reducible refine Kd.C_drewN ?_ _) | (with_reducible refine Kd.C_drew ?_))); (case side2 => exact (Kd.R_reads' HO944.out).2.1); (case side3 => repeat (first | exact (Kd.R_reads' HO948.out).2.2 | (with_reducible refine Kd.C_alloc ?_ _) | (with_reducible refine Kd.C_drewN ?_ _) | (with_reducible refine Kd.C_drew ?_))); (case side4 => exact (Kd.R_reads' HO948.out).2.1); rintro e w' ⟨rfl, ⟨nd, rfl⟩⟩))
              go_meet
              case rel => exact ⟨_, (true), (by first | rfl | (simp; done) | (simp [*]; done)), H', ⟨by first | omega | exact Nat.le_refl _⟩, ⟨by (with_reducible repeat (first | apply Kd.R_alloc | apply Kd.R_drewN | apply Kd.R_drew)); exact Kd.R_mono HO936.out (fun _ hk => hk.1.2)⟩, ⟨by (with_reducible repeat (first | apply Kd.R_alloc | apply Kd.R_drewN | apply Kd.R_drew)); exact Kd.R_mono HO944.out (fun _ hk => hk.1.2)⟩, ⟨by repeat (first | (with_reducible first | exact HB.out | apply below_alloc | apply pw_below_drewN | apply below_drew1) | exact HB.out)⟩⟩
        · rw [if_neg c18] at H
          have c18b0 : (t937 == t939) = false := beq_eq_false_iff_ne.mpr c18
          have c18b1 : (t937 != t939) = true := bne_iff_ne.mpr c18
          have H' := Aside0.mk H
          clear H
          go_wp2
          go_meet
          case rel => exact ⟨_, (true), (by first | rfl | (simp; done) | (simp [*]; done)), H', ⟨by first | omega | exact Nat.le_refl _⟩, ⟨by (with_reducible repeat (first | apply Kd.R_alloc | apply Kd.R_drewN | apply Kd.R_drew)); exact Kd.R_mono HO936.out (fun _ hk => hk.1.2)⟩, ⟨by (with_reducible repeat (first | apply Kd.R_alloc | apply Kd.R_drewN | apply Kd.R_drew)); exact Kd.R_mono HO944.out (fun _ hk => hk.1.2)⟩, ⟨by repeat (first | (with_reducible first | exact HB.out | apply below_alloc | apply pw_below_drewN | apply below_drew1) | exact HB.out)⟩⟩
    case rest =>
      clear HC10
      try clear c1
      try clear c2
      try clear p2
      try clear c4
      try clear c5
      try clear c10
      try clear c17
      try clear c17b0
      try clear c17b1
      try clear c17b2
      try clear c18
      try clear c18b0
      try clear c18b1
      try clear c19
      try clear c19b0
      try clear c19b1
      try clear c19b2
      try clear c21
      obtain ⟨kq, x98_9, rfl, HA, HJ9, HO_5, HO_11, HB⟩ := hcut
      cases kq with
      | zero => exact absurd HA.out (by simp [laws_FnDefects.j0])
      | succ kj9 =>
        have H := HA.out
        clear HA
        simp only [laws_FnDefects.j0] at H
        by_cases c26 : x98_9 = true
        · subst c26
          have H1 : (some false) = some r := by rw [if_pos rfl] at H; exact H
          clear H
          have H := H1
          clear H1
          obtain rfl := Option.some.inj H
          go_wp2
          go_ret
          exact ⟨by first | rfl | (simp [errW_none, errW_some] <;> rfl) | (simp [*, errW_none, errW_some] <;> rfl), by repeat (first | (with_reducible first | exact HB.out | apply below_alloc | apply pw_below_drewN | apply below_drew1) | exact HB.out)⟩
        · as_aux_lemma =>
          replace c26 := Bool.eq_false_iff.mpr c26
          subst c26
          have H1 : (if t938 = true then (laws_FnDefects.l0 kj9 l1 t933 t934 t937 t941 0 0) else (laws_FnDefects.j5 kj9 l1)) = some r := by rw [if_neg (show ¬ (false = true) by decide)] at H; exact H
          clear H
          have H := H1
          clear H1
          have HC27 := Aside0.mk H
          clear H
          go_upto_if 99 with (fail)
          go_cut [] (fun wc => ∃ (kq : Nat), Aside0 (laws_FnDefects.j5 kq l1 = some r) ∧ Aside0 (kq ≤ kj9) ∧ Aside0 (Below w.heap.size w wc))
          case first =>
            have H := HC27.out
            clear HC27
            by_cases c28 : t938 = true
            · as_aux_lemma =>
              subst c28
              have H1 : (laws_FnDefects.l0 kj9 l1 t933 t934 t937 t941 0 0) = some r := by rw [if_pos rfl] at H; exact H
              clear H
              have H := H1
              clear H1
              have H' := Aside0.mk H
              clear H
              go_wp2
              go_loopg [15, 16] kj9 (fun kq v15 v16 w' => ∃ (x15_2 : Int) (x16_2 : Int), v15 = .int .i64 x15_2 ∧ v16 = .int .i64 x16_2 ∧ Aside0 (laws_FnDefects.l0 kq l1 t933 t934 t937 t941 x15_2 x16_2 = some r) ∧ Aside0 (kq ≤ kj9) ∧ Aside0 (Kd.R (Kd.int .i64) 3 w' w.heap.size (fun k_ => some k_ ≠ (v943 : Value).ownBlock) (.slice Ao12 t933.length co12) t933) ∧ Aside0 (Kd.R (Kd.int .i64) 3 w' w.heap.size (fun k_ => some k_ ≠ ((.slice Ao12 t933.length co12) : Value).ownBlock) v943 t941) ∧ Aside0 (Below w.heap.size w w'))
              case atStart => exact ⟨(0), (0), (by first | rfl | (simp; done) | (simp [*]; done)), (by first | rfl | (simp; done) | (simp [*]; done)), H', ⟨Nat.le_refl _⟩, ⟨by (with_reducible repeat (first | apply Kd.R_alloc | apply Kd.R_drewN | apply Kd.R_drew)); exact HO_5.out⟩, ⟨by (with_reducible repeat (first | apply Kd.R_alloc | apply Kd.R_drewN | apply Kd.R_drew)); exact HO_11.out⟩, ⟨by repeat (first | (with_reducible first | exact HB.out | apply below_alloc | apply pw_below_drewN | apply below_drew1) | exact HB.out)⟩⟩
              case round =>
                clear H'
                try clear c1
                try clear c2
                try clear p2
                try clear c4
                try clear c5
                try clear c10
                try clear c17
                try clear c17b0
                try clear c17b1
                try clear c17b2
                try clear c18
                try clear c18b0
                try clear c18b1
                try clear c19
                try clear c19b0
                try clear c19b1
                try clear c19b2
                try clear c21
                try clear c26
                try clear c28
                try clear p2
                obtain ⟨x15_2, x16_2, rfl, rfl, HA, HK2, HO_5, HO_11, HB⟩ := hrel
                cases gk with
                | zero => exact absurd HA.out (by simp [laws_FnDefects.l0])
                | succ k2 =>
                  have H := HA.out
                  clear HA
                  simp only [laws_FnDefects.l0] at H
                  by_cases c29 : x16_2 < t934
                  · as_aux_lemma =>
                    rw [if_pos c29] at H
                    have c29b0 : decide (x16_2 < t934) = true := decide_eq_true c29
                    clear c29
                    (first | rw [c29b0] | (simp only [i64_w, i32_w]; rw [c29b0]) | skip)
                    have H' := Aside0.mk H
                    clear H
                    go_wp2
                    go_loopg [17, 107] k2 (fun kq v17 v107 w' => ∃ (x17_3 : Int) (x107_3 : Int), v17 = .int .i64 x17_3 ∧ v107 = .int .i64 x107_3 ∧ Aside0 (laws_FnDefects.l1 kq l1 t933 t934 t937 t941 x15_2 x16_2 x17_3 t933 (t933.length : Int) x107_3 = some r) ∧ Aside0 (kq ≤ k2) ∧ Aside0 (Kd.R (Kd.int .i64) 3 w' w.heap.size (fun k_ => some k_ ≠ (v943 : Value).ownBlock) (.slice Ao12 t933.length co12) t933) ∧ Aside0 (Kd.R (Kd.int .i64) 3 w' w.heap.size (fun k_ => some k_ ≠ ((.slice Ao12 t933.length co12) : Value).ownBlock ∧ some k_ ≠ ((.slice Ao12 t933.length co12) : Value).ownBlock) v943 t941) ∧ Aside0 (Kd.R (Kd.int .i64) 3 w' w.heap.size (fun k_ => some k_ ≠ (v943 : Value).ownBlock) (.slice Ao12 t933.length co12) t933) ∧ Aside0 (Below w.heap.size w w'))
                    case atStart => exact ⟨(0), (0), (by first | rfl | (simp; done) | (simp [*]; done)), (by first | rfl | (simp; done) | (simp [*]; done)), H', ⟨Nat.le_refl _⟩, ⟨by (with_reducible repeat (first | apply Kd.R_alloc | apply Kd.R_drewN | apply Kd.R_drew)); exact HO_5.out⟩, ⟨by (with_reducible repeat (first | apply Kd.R_alloc | apply Kd.R_drewN | apply Kd.R_drew)); exact Kd.R_mono HO_11.out (fun _ hk => ⟨hk, hk⟩)⟩, ⟨by (with_reducible repeat (first | apply Kd.R_alloc | apply Kd.R_drewN | apply Kd.R_drew)); exact HO_5.out⟩, ⟨by repeat (first | (with_reducible first | exact HB.out | apply below_alloc | apply pw_below_drewN | apply below_drew1) | exact HB.out)⟩⟩
                    case round =>
                      clear H'
                      try clear c1
                      try clear c2
                      try clear p2
                      try clear c4
                      try clear c5
                      try clear c10
                      try clear c17
                      try clear c17b0
                      try clear c17b1
                      try clear c17b2
                      try clear c18
                      try clear c18b0
                      try clear c18b1
                      try clear c19
                      try clear c19b0
                      try clear c19b1
                      try clear c19b2
                      try clear c21
                      try clear c26
                      try clear c28
                      try clear c29
                      try clear c29b0
                      try clear p2
                      obtain ⟨x17_3, x107_3, rfl, rfl, HA, HK3, HO_5, HO_11, HO_105, HB⟩ := hrel
                      cases gk with
                      | zero => exact absurd HA.out (by simp [laws_FnDefects.l1])
                      | succ k3 =>
                        have H := HA.out
                        clear HA
                        simp only [laws_FnDefects.l1] at H
                        by_cases c30 : x107_3 < (t933.length : Int)
                        · rw [if_pos c30] at H
                          have c30b0 : decide (x107_3 < (t933.length : Int)) = true := decide_eq_true c30
                          clear c30
                          by_cases c31 : 0 ≤ x107_3
                          · rw [if_pos c31] at H
                            have c31b0 : decide (0 ≤ x107_3) = true := decide_eq_true c31
                            clear c31
                            by_cases c32 : x107_3 < (t933.length : Int)
                            · rw [if_pos c32] at H
                              have c32b0 : decide (x107_3 < (t933.length : Int)) = true := decide_eq_true c32
                              clear c32
                              by_cases c33 : (rd t933 x107_3) ≥ x16_2
                              · rw [if_pos c33] at H
                                have c33b0 : decide (x16_2 ≤ (rd t933 x107_3)) = true := decide_eq_true c33
                                clear c33
                                have H' := Aside0.mk H
                                clear H
                                have p950 : 0 ≤ (x107_3 : Int) := of_decide_eq_true (by first | (with_reducible assumption) | assumption)
                                have q950 : x107_3 < (t933.length : Int) := of_decide_eq_true (by first | (with_reducible assumption) | assumption)
                                obtain ⟨ad950, e950, hx950_0⟩ := Kd.at_int (Kd.R_reads' HO_105.out).2.2 x107_3 p950 q950
                                cases e950
                                replace p950 := eq_true p950
                                replace q950 := eq_true q950
                                go_wp2
                                go_roundg k3
                                case measure => have := HJ9.out; have := HK2.out; have := HK3.out; omega
                                case rel => exact ⟨(wrap64 (x17_3 + 1)), (wrap64 (x107_3 + 1)), (by first | rfl | (simp; done) | (simp [*]; done)), (by first | rfl | (simp; done) | (simp [*]; done)), H', ⟨by have := HJ9.out; have := HK2.out; have := HK3.out; omega⟩, ⟨by (with_reducible repeat (first | apply Kd.R_alloc | apply Kd.R_drewN | apply Kd.R_drew)); exact HO_5.out⟩, ⟨by (with_reducible repeat (first | apply Kd.R_alloc | apply Kd.R_drewN | apply Kd.R_drew)); exact HO_11.out⟩, ⟨by (with_reducible repeat (first | apply Kd.R_alloc | apply Kd.R_drewN | apply Kd.R_drew)); exact HO_105.out⟩, ⟨by repeat (first | (with_reducible first | exact HB.out | apply below_alloc | apply pw_below_drewN | apply below_drew1) | exact HB.out)⟩⟩
                              · rw [if_neg c33] at H
                                have c33b0 : decide (x16_2 ≤ (rd t933 x107_3)) = false := decide_eq_false c33
                                clear c33
                                have H' := Aside0.mk H
                                clear H
                                have p950 : 0 ≤ (x107_3 : Int) := of_decide_eq_true (by first | (with_reducible assumption) | assumption)
                                have q950 : x107_3 < (t933.length : Int) := of_decide_eq_true (by first | (with_reducible assumption) | assumption)
                                obtain ⟨ad950, e950, hx950_0⟩ := Kd.at_int (Kd.R_reads' HO_105.out).2.2 x107_3 p950 q950
                                cases e950
                                replace p950 := eq_true p950
                                replace q950 := eq_true q950
                                go_wp2
                                go_roundg k3
                                case measure => have := HJ9.out; have := HK2.out; have := HK3.out; omega
                                case rel => exact ⟨(x17_3), (wrap64 (x107_3 + 1)), (by first | rfl | (simp; done) | (simp [*]; done)), (by first | rfl | (simp; done) | (simp [*]; done)), H', ⟨by have := HJ9.out; have := HK2.out; have := HK3.out; omega⟩, ⟨by (with_reducible repeat (first | apply Kd.R_alloc | apply Kd.R_drewN | apply Kd.R_drew)); exact HO_5.out⟩, ⟨by (with_reducible repeat (first | apply Kd.R_alloc | apply Kd.R_drewN | apply Kd.R_drew)); exact HO_11.out⟩, ⟨by (with_reducible repeat (first | apply Kd.R_alloc | apply Kd.R_drewN | apply Kd.R_drew)); exact HO_105.out⟩, ⟨by repeat (first | (with_reducible first | exact HB.out | apply below_alloc | apply pw_below_drewN | apply below_drew1) | exact HB.out)⟩⟩
                            · rw [if_neg c32] at H
                              exact absurd H (by simp)
                          · rw [if_neg c31] at H
                            exact absurd H (by simp)
                        · rw [if_neg c30] at H
                          have c30b0 : decide (x107_3 < (t933.length : Int)) = false := decide_eq_false c30
                          clear c30
                          by_cases c34 : (wrap64 (x17_3 - (wrap64 (t934 - x16_2)))) > x15_2
                          · rw [if_pos c34] at H
                            have c34b0 : decide (x15_2 < (wrap64 (x17_3 - (wrap64 (t934 - x16_2))))) = true := decide_eq_true c34
                            clear c34
                            have H' := Aside0.mk H
                            clear H
                            go_wp2
                            go_roundg k3
                            case measure => have := HJ9.out; have := HK2.out; have := HK3.out; omega
                            case rel => exact ⟨(wrap64 (x17_3 - (wrap64 (t934 - x16_2)))), (wrap64 (x16_2 + 1)), (by first | rfl | (simp; done) | (simp [*]; done)), (by first | rfl | (simp; done) | (simp [*]; done)), H', ⟨by have := HJ9.out; have := HK2.out; have := HK3.out; omega⟩, ⟨by (with_reducible repeat (first | apply Kd.R_alloc | apply Kd.R_drewN | apply Kd.R_drew)); exact HO_5.out⟩, ⟨by (with_reducible repeat (first | apply Kd.R_alloc | apply Kd.R_drewN | apply Kd.R_drew)); exact Kd.R_mono HO_11.out (fun _ hk => hk.1)⟩, ⟨by repeat (first | (with_reducible first | exact HB.out | apply below_alloc | apply pw_below_drewN | apply below_drew1) | exact HB.out)⟩⟩
                          · rw [if_neg c34] at H
                            have c34b0 : decide (x15_2 < (wrap64 (x17_3 - (wrap64 (t934 - x16_2))))) = false := decide_eq_false c34
                            clear c34
                            have H' := Aside0.mk H
                            clear H
                            go_wp2
                            go_roundg k3
                            case measure => have := HJ9.out; have := HK2.out; have := HK3.out; omega
                            case rel => exact ⟨(x15_2), (wrap64 (x16_2 + 1)), (by first | rfl | (simp; done) | (simp [*]; done)), (by first | rfl | (simp; done) | (simp [*]; done)), H', ⟨by have := HJ9.out; have := HK2.out; have := HK3.out; omega⟩, ⟨by (with_reducible repeat (first | apply Kd.R_alloc | apply Kd.R_drewN | apply Kd.R_drew)); exact HO_5.out⟩, ⟨by (with_reducible repeat (first | apply Kd.R_alloc | apply Kd.R_drewN | apply Kd.R_drew)); exact Kd.R_mono HO_11.out (fun _ hk => hk.1)⟩, ⟨by repeat (first | (with_reducible first | exact HB.out | apply below_alloc | apply pw_below_drewN | apply below_drew1) | exact HB.out)⟩⟩
                  · as_aux_lemma =>
                    rw [if_neg c29] at H
                    have c29b0 : decide (x16_2 < t934) = false := decide_eq_false c29
                    clear c29
                    (first | rw [c29b0] | (simp only [i64_w, i32_w]; rw [c29b0]) | skip)
                    have H' := Aside0.mk H
                    clear H
                    obtain ⟨Ao35, co35, eo35⟩ := Kd.R_slice HO_11.out
                    subst eo35
                    go_wp2
                    go_loopg [20, 131] k2 (fun kq v20 v131 w' => ∃ (x20_3 : Int) (x131_3 : Int), v20 = .int .i64 x20_3 ∧ v131 = .int .i64 x131_3 ∧ Aside0 (laws_FnDefects.l2 kq l1 t933 t934 t937 x15_2 x20_3 t941 (t941.length : Int) x131_3 = some r) ∧ Aside0 (kq ≤ k2) ∧ Aside0 (Kd.R (Kd.int .i64) 3 w' w.heap.size (fun k_ => some k_ ≠ ((.slice Ao35 t941.length co35) : Value).ownBlock) (.slice Ao12 t933.length co12) t933) ∧ Aside0 (Kd.R (Kd.int .i64) 3 w' w.heap.size (fun k_ => some k_ ≠ ((.slice Ao12 t933.length co12) : Value).ownBlock) (.slice Ao35 t941.length co35) t941) ∧ Aside0 (Below w.heap.size w w'))
                    case atStart => exact ⟨(0), (0), (by first | rfl | (simp; done) | (simp [*]; done)), (by first | rfl | (simp; done) | (simp [*]; done)), H', ⟨Nat.le_refl _⟩, ⟨by (with_reducible repeat (first | apply Kd.R_alloc | apply Kd.R_drewN | apply Kd.R_drew)); exact HO_5.out⟩, ⟨by (with_reducible repeat (first | apply Kd.R_alloc | apply Kd.R_drewN | apply Kd.R_drew)); exact HO_11.out⟩, ⟨by repeat (first | (with_reducible first | exact HB.out | apply below_alloc | apply pw_below_drewN | apply below_drew1) | exact HB.out)⟩⟩
                    case round =>
                      clear H'
                      try clear c1
                      try clear c2
                      try clear p2
                      try clear c3
                      try clear c4
                      try clear c5
                      try clear p6
                      try clear p9
                      try clear q9
                      try clear hx9
                      try clear c10
                      try clear c17
                      try clear c17b0
                      try clear c17b1
                      try clear c17b2
                      try clear c18
                      try clear c18b0
                      try clear c18b1
                      try clear c19
                      try clear c19b0
                      try clear c19b1
                      try clear c19b2
                      try clear c21
                      try clear c26
                      try clear c28
                      try clear c29
                      try clear c29b0
                      try clear c30
                      try clear c30b0
                      try clear c31
                      try clear c31b0
                      try clear c32
                      try clear c32b0
                      try clear c33
                      try clear c33b0
                      try clear c34
                      try clear c34b0
                      try clear hx950_0
                      try clear p2
                      try clear p950
                      try clear q950
                      obtain ⟨x20_3, x131_3, rfl, rfl, HA, HK3, HO_5, HO_129, HB⟩ := hrel
                      cases gk with
                      | zero => exact absurd HA.out (by simp [laws_FnDefects.l2])
                      | succ k3 =>
                        have H := HA.out
                        clear HA
                        simp only [laws_FnDefects.l2] at H
                        by_cases c36 : x131_3 < (t941.length : Int)
                        · rw [if_pos c36] at H
                          have c36b0 : decide (x131_3 < (t941.length : Int)) = true := decide_eq_true c36
                          clear c36
                          by_cases c37 : 0 ≤ x131_3
                          · rw [if_pos c37] at H
                            have c37b0 : decide (0 ≤ x131_3) = true := decide_eq_true c37
                            clear c37
                            by_cases c38 : x131_3 < (t941.length : Int)
                            · rw [if_pos c38] at H
                              have c38b0 : decide (x131_3 < (t941.length : Int)) = true := decide_eq_true c38
                              clear c38
                              by_cases c39 : (rd t941 x131_3) = (-1)
                              · rw [if_pos c39] at H
                                have c39b0 : ((rd t941 x131_3) == (-1)) = true := beq_iff_eq.mpr c39
                                have c39b1 : ((rd t941 x131_3) != (-1)) = false := bne_eq_false_iff_eq.mpr c39
                                clear c39
                                have H' := Aside0.mk H
                                clear H
                                have p951 : 0 ≤ (x131_3 : Int) := of_decide_eq_true (by first | (with_reducible assumption) | assumption)
                                have q951 : x131_3 < (t941.length : Int) := of_decide_eq_true (by first | (with_reducible assumption) | assumption)
                                obtain ⟨ad951, e951, hx951_0⟩ := Kd.at_int (Kd.R_reads' HO_129.out).2.2 x131_3 p951 q951
                                cases e951
                                replace p951 := eq_true p951
                                replace q951 := eq_true q951
                                go_wp2
                                go_roundg k3
                                case measure => have := HJ9.out; have := HK2.out; have := HK3.out; omega
                                case rel => exact ⟨(wrap64 (x20_3 + 1)), (wrap64 (x131_3 + 1)), (by first | rfl | (simp; done) | (simp [*]; done)), (by first | rfl | (simp; done) | (simp [*]; done)), H', ⟨by have := HJ9.out; have := HK2.out; have := HK3.out; omega⟩, ⟨by (with_reducible repeat (first | apply Kd.R_alloc | apply Kd.R_drewN | apply Kd.R_drew)); exact HO_5.out⟩, ⟨by (with_reducible repeat (first | apply Kd.R_alloc | apply Kd.R_drewN | apply Kd.R_drew)); exact HO_129.out⟩, ⟨by repeat (first | (with_reducible first | exact HB.out | apply below_alloc | apply pw_below_drewN | apply below_drew1) | exact HB.out)⟩⟩
                              · rw [if_neg c39] at H
                                have c39b0 : ((rd t941 x131_3) == (-1)) = false := beq_eq_false_iff_ne.mpr c39
                                have c39b1 : ((rd t941 x131_3) != (-1)) = true := bne_iff_ne.mpr c39
                                have H' := Aside0.mk H
                                clear H
                                have p951 : 0 ≤ (x131_3 : Int) := of_decide_eq_true (by first | (with_reducible assumption) | assumption)
                                have q951 : x131_3 < (t941.length : Int) := of_decide_eq_true (by first | (with_reducible assumption) | assumption)
                                obtain ⟨ad951, e951, hx951_0⟩ := Kd.at_int (Kd.R_reads' HO_129.out).2.2 x131_3 p951 q951
                                cases e951
                                replace p951 := eq_true p951
                                replace q951 := eq_true q951
                                go_wp2
                                go_roundg k3
                                case measure => have := HJ9.out; have := HK2.out; have := HK3.out; omega
                                case rel => exact ⟨(x20_3), (wrap64 (x131_3 + 1)), (by first | rfl | (simp; done) | (simp [*]; done)), (by first | rfl | (simp; done) | (simp [*]; done)), H', ⟨by have := HJ9.out; have := HK2.out; have := HK3.out; omega⟩, ⟨by (with_reducible repeat (first | apply Kd.R_alloc | apply Kd.R_drewN | apply Kd.R_drew)); exact HO_5.out⟩, ⟨by (with_reducible repeat (first | apply Kd.R_alloc | apply Kd.R_drewN | apply Kd.R_drew)); exact HO_129.out⟩, ⟨by repeat (first | (with_reducible first | exact HB.out | apply below_alloc | apply pw_below_drewN | apply below_drew1) | exact HB.out)⟩⟩
                            · rw [if_neg c38] at H
                              exact absurd H (by simp)
                          · rw [if_neg c37] at H
                            exact absurd H (by simp)
                        · as_aux_lemma =>
                          rw [if_neg c36] at H
                          have c36b0 : decide (x131_3 < (t941.length : Int)) = false := decide_eq_false c36
                          clear c36
                          have HC40 := Aside0.mk H
                          clear H
                          go_upto_region 31 with (fail)
                          go_cut [147] (fun v147 wc => ∃ (kq : Nat) (x147_39 : Bool), v147 = .bool x147_39 ∧ Aside0 (laws_FnDefects.j4 kq l1 t933 t934 t937 x147_39 = some r) ∧ Aside0 (kq ≤ k3) ∧ Aside0 (Kd.R (Kd.int .i64) 3 wc w.heap.size (fun _ => True) (.slice Ao12 t933.length co12) t933) ∧ Aside0 (Below w.heap.size w wc))
                          case first =>
                            have H := HC40.out
                            clear HC40
                            by_cases c41 : t937 = x15_2
                            · rw [if_pos c41] at H
                              have c41b0 : (t937 == x15_2) = true := beq_iff_eq.mpr c41
                              have c41b1 : (t937 != x15_2) = false := bne_eq_false_iff_eq.mpr c41
                              clear c41
                              (first | rw [c41b0] | (simp only [i64_w, i32_w]; rw [c41b0]) | skip)
                              have H' := Aside0.mk H
                              clear H
                              go_wp2
                              go_meet
                              case rel => exact ⟨_, ((t937 != x20_3)), (by first | rfl | (simp; done) | (simp [*]; done)), H', ⟨by have := HJ9.out; have := HK2.out; have := HK3.out; first | omega | exact Nat.le_refl _⟩, ⟨by (with_reducible repeat (first | apply Kd.R_alloc | apply Kd.R_drewN | apply Kd.R_drew)); exact Kd.R_mono HO_5.out (fun _ hk => trivial)⟩, ⟨by repeat (first | (with_reducible first | exact HB.out | apply below_alloc | apply pw_below_drewN | apply below_drew1) | exact HB.out)⟩⟩
                            · rw [if_neg c41] at H
                              have c41b0 : (t937 == x15_2) = false := beq_eq_false_iff_ne.mpr c41
                              have c41b1 : (t937 != x15_2) = true := bne_iff_ne.mpr c41
                              (first | rw [c41b0] | (simp only [i64_w, i32_w]; rw [c41b0]) | skip)
                              have H' := Aside0.mk H
                              clear H
                              go_wp2
                              go_meet
                              case rel => exact ⟨_, (true), (by first | rfl | (simp; done) | (simp [*]; done)), H', ⟨by have := HJ9.out; have := HK2.out; have := HK3.out; first | omega | exact Nat.le_refl _⟩, ⟨by (with_reducible repeat (first | apply Kd.R_alloc | apply Kd.R_drewN | apply Kd.R_drew)); exact Kd.R_mono HO_5.out (fun _ hk => trivial)⟩, ⟨by repeat (first | (with_reducible first | exact HB.out | apply below_alloc | apply pw_below_drewN | apply below_drew1) | exact HB.out)⟩⟩
                          case rest =>
                            clear HC40
                            try clear c1
                            try clear c2
                            try clear p2
                            try clear c3
                            try clear c4
                            try clear c5
                            try clear p6
                            try clear p9
                            try clear q9
                            try clear hx9
                            try clear c10
                            try clear c17
                            try clear c17b0
                            try clear c17b1
                            try clear c17b2
                            try clear c18
                            try clear c18b0
                            try clear c18b1
                            try clear c19
                            try clear c19b0
                            try clear c19b1
                            try clear c19b2
                            try clear c21
                            try clear c26
                            try clear c28
                            try clear c29
                            try clear c29b0
                            try clear c30
                            try clear c30b0
                            try clear c31
                            try clear c31b0
                            try clear c32
                            try clear c32b0
                            try clear c33
                            try clear c33b0
                            try clear c34
                            try clear c34b0
                            try clear c36
                            try clear c36b0
                            try clear c37
                            try clear c37b0
                            try clear c38
                            try clear c38b0
                            try clear c39
                            try clear c39b0
                            try clear c39b1
                            try clear c41
                            try clear c41b0
                            try clear c41b1
                            try clear hx950_0
                            try clear hx951_0
                            try clear p2
                            try clear p6
                            try clear p9
                            try clear p950
                            try clear p951
                            try clear q9
                            try clear q950
                            try clear q951
                            obtain ⟨kq, x147_39, rfl, HA, HJ39, HO_5, HB⟩ := hcut
                            cases kq with
                            | zero => exact absurd HA.out (by simp [laws_FnDefects.j4])
                            | succ kj39 =>
                              have H := HA.out
                              clear HA
                              simp only [laws_FnDefects.j4] at H
                              by_cases c42 : x147_39 = true
                              · subst c42
                                have H1 : (some false) = some r := by rw [if_pos rfl] at H; exact H
                                clear H
                                have H := H1
                                clear H1
                                obtain rfl := Option.some.inj H
                                go_wp2
                                go_ret
                                exact ⟨by first | rfl | (simp [errW_none, errW_some] <;> rfl) | (simp [*, errW_none, errW_some] <;> rfl), by repeat (first | (with_reducible first | exact HB.out | apply below_alloc | apply pw_below_drewN | apply below_drew1) | exact HB.out)⟩
                              · as_aux_lemma =>
                                replace c42 := Bool.eq_false_iff.mpr c42
                                subst c42
                                have H1 : (if (t933.length : Int) > 1 then ((laws_numberOf.f kj39 l1).bind fun t952 => (if (wrap64 ((t933.length : Int) - 1)) = 0 then (none) else ((laws_jSwapped.f t933 (Int.tmod t952 (wrap64 ((t933.length : Int) - 1)))).bind fun t953 => ((impl_DefectOf.f kj39 t953 t934).bind fun bt956 => (if bt956.2 = true then (if bt956.1 = t937 then (laws_FnDefects.j5 kj39 l1) else (some false)) else (some false)))))) else (laws_FnDefects.j5 kj39 l1)) = some r := by rw [if_neg (show ¬ (false = true) by decide)] at H; exact H
                                clear H
                                have H := H1
                                clear H1
                                by_cases c43 : (t933.length : Int) > 1
                                · as_aux_lemma =>
                                  rw [if_pos c43] at H
                                  have c43b0 : decide (1 < (t933.length : Int)) = true := decide_eq_true c43
                                  have c43b1 : decide (1 < t933.length) = true := decide_eq_true (by omega)
                                  clear c43
                                  replace H := Option.bind_eq_some_iff.mp H
                                  obtain ⟨t952, A440, H⟩ := H
                                  replace H : (if (wrap64 ((t933.length : Int) - 1)) = 0 then (none) else ((laws_jSwapped.f t933 (Int.tmod t952 (wrap64 ((t933.length : Int) - 1)))).bind fun t953 => ((impl_DefectOf.f kj39 t953 t934).bind fun bt956 => (if bt956.2 = true then (if bt956.1 = t937 then (laws_FnDefects.j5 kj39 l1) else (some false)) else (some false))))) = some r := H
                                  have A44 := Aside0.mk A440
                                  clear A440
                                  by_cases c45 : (wrap64 ((t933.length : Int) - 1)) = 0
                                  · rw [if_pos c45] at H
                                    exact absurd H (by simp)
                                  · as_aux_lemma =>
                                    rw [if_neg c45] at H
                                    have c45b0 : ((wrap64 ((t933.length : Int) - 1)) == 0) = false := beq_eq_false_iff_ne.mpr c45
                                    have c45b1 : ((wrap64 ((t933.length : Int) - 1)) != 0) = true := bne_iff_ne.mpr c45
                                    replace H := Option.bind_eq_some_iff.mp H
                                    obtain ⟨t953, A460, H⟩ := H
                                    replace H : ((impl_DefectOf.f kj39 t953 t934).bind fun bt956 => (if bt956.2 = true then (if bt956.1 = t937 then (laws_FnDefects.j5 kj39 l1) else (some false)) else (some false))) = some r := H
                                    have A46 := Aside0.mk A460
                                    clear A460
                                    replace H := Option.bind_eq_some_iff.mp H
                                    obtain ⟨⟨t956, t957⟩, A470, H⟩ := H
                                    replace H : (if t957 = true then (if t956 = t937 then (laws_FnDefects.j5 kj39 l1) else (some false)) else (some false)) = some r := H
                                    have A47 := Aside0.mk A470
                                    clear A470
                                    by_cases c48 : t957 = true
                                    · as_aux_lemma =>
                                      subst c48
                                      have H1 : (if t956 = t937 then (laws_FnDefects.j5 kj39 l1) else (some false)) = some r := by rw [if_pos rfl] at H; exact H
                                      clear H
                                      have H := H1
                                      clear H1
                                      by_cases c49 : t956 = t937
                                      · rw [if_pos c49] at H
                                        have c49b0 : (t956 == t937) = true := beq_iff_eq.mpr c49
                                        have c49b1 : (t956 != t937) = false := bne_eq_false_iff_eq.mpr c49
                                        clear c49
                                        have H' := Aside0.mk H
                                        clear H
                                        go_wp2_with (first | ((with_reducible refine gate_callee (f := 52) rfl ?_); refine goesL_ (some 154) rfl rfl Try.func52 (by kernel_rfl) rfl #[.slice A1 l1.length c1] rfl (by (try simp only [List.map_toArray, List.map_cons, List.map_nil]); first | done | rfl | (simp only [List.length_drop, List.length_take]; rfl)) ?_; (with_reducible refine (laws_numberOf.calls kj39 _ _ l1 t952 _ ?side1 ?side2 A44.out).mono ?_); (case side1 => repeat (first | exact (Kd.C_below HR1.out HB.out) | (with_reducible refine Kd.C_alloc ?_ _) | (with_reducible refine Kd.C_drewN ?_ _) | (with_reducible refine Kd.C_drew ?_))); (case side2 => exact HC1.out); rintro e w' ⟨rfl, ⟨nd, rfl⟩⟩; refine ⟨_, rfl, ?_⟩) | ((with_reducible refine gate_callee (f := 51) rfl ?_); refine goesL_ (some 159) rfl rfl Try.func51 (by kernel_rfl) rfl #[.slice Ao12 t933.length co12, .int .i64 (Int.tmod t952 (wrap64 ((t933.length : Int) - 1)))] rfl (by (try simp only [List.map_toArray, List.map_cons, List.map_nil]); first | done | rfl | (simp only [List.length_drop, List.length_take]; rfl)) ?_; (with_reducible refine (laws_jSwapped.calls _ _ t933 (Int.tmod t952 (wrap64 ((t933.length : Int) - 1))) t953 _ ?side1 ?side2 A46.out).mono ?_); (case side1 => repeat (first | exact (Kd.R_reads' HO_5.out).2.2 | (with_reducible refine Kd.C_alloc ?_ _) | (with_reducible refine Kd.C_drewN ?_ _) | (with_reducible refine Kd.C_drew ?_))); (case side2 => exact (Kd.R_reads' HO_5.out).2.1); rintro e w50 ⟨v954, rfl, ho0, hb⟩; refine ⟨_, rfl, ?_⟩; have n0_ := Aside0.mk (Kd.R_elder' (by (with_reducible repeat (first | apply Kd.R_alloc | apply Kd.R_drewN | apply Kd.R_drew)); exact HO_5.out) (Kd.R_base ho0) hb); have n1_ := Aside0.mk (Kd.R_lower (Kd.R_new' ho0 (Kd.R_lt (by (with_reducible repeat (first | apply Kd.R_alloc | apply Kd.R_drewN | apply Kd.R_drew)); exact HO_5.out))) (below_size (by repeat (first | (with_reducible first | exact HB.out | apply below_alloc | apply pw_below_drewN | apply below_drew1) | exact HB.out)))); have n2_ := Aside0.mk (below_step (by repeat (first | (with_reducible first | exact HB.out | apply below_alloc | apply pw_below_drewN | apply below_drew1) | exact HB.out)) hb); clear HO_5; clear HB; have HO_5 := n0_; have HO955 := n1_; have HB := n2_; clear n0_ n1_ n2_; (try clear hb); (try clear hb2); (try clear hk); (try clear hi); (try clear ho0); obtain ⟨Ao51, co51, eo51⟩ := Kd.R_slice HO955.out; subst eo51) | ((with_reducible refine gate_callee (f := 47) rfl ?_); refine goesL_ (some 161) rfl rfl Try.func47 (by kernel_rfl) rfl #[.slice Ao51 t953.length co51, .int .i64 t934] rfl (by (try simp only [List.map_toArray, List.map_cons, List.map_nil]); first | done | rfl | (simp only [List.length_drop, List.length_take]; rfl)) ?_; (with_reducible refine (impl_DefectOf.calls kj39 _ _ t953 t934 t956 true _ ?side1 ?side2 A47.out).mono ?_); (case side1 => repeat (first | exact (Kd.R_reads' HO955.out).2.2 | (with_reducible refine Kd.C_alloc ?_ _) | (with_reducible refine Kd.C_drewN ?_ _) | (with_reducible refine Kd.C_drew ?_))); (case side2 => exact (Kd.R_reads' HO955.out).2.1); rintro e w52 ⟨rfl, hb⟩; refine ⟨_, rfl, ?_⟩; have n0_ := Aside0.mk (Kd.R_below (by (with_reducible repeat (first | apply Kd.R_alloc | apply Kd.R_drewN | apply Kd.R_drew)); exact HO_5.out) hb); have n1_ := Aside0.mk (Kd.R_below (by (with_reducible repeat (first | apply Kd.R_alloc | apply Kd.R_drewN | apply Kd.R_drew)); exact HO955.out) hb); have n2_ := Aside0.mk (below_step (by repeat (first | (with_reducible first | exact HB.out | apply below_alloc | apply pw_below_drewN | apply below_drew1) | exact HB.out)) hb); clear HO_5; clear HO955; clear HB; have HO_5 := n0_; have HO955 := n1_; have HB := n2_; clear n0_ n1_ n2_; (try clear hb); (try clear hb2); (try clear hk); (try clear hi)))
                                        go_meet
                                        case rel => exact ⟨_, H', ⟨by have := HJ9.out; have := HK2.out; have := HK3.out; have := HJ39.out; first | omega | exact Nat.le_refl _⟩, ⟨by repeat (first | (with_reducible first | exact HB.out | apply below_alloc | apply pw_below_drewN | apply below_drew1) | exact HB.out)⟩⟩
                                      · rw [if_neg c49] at H
                                        have c49b0 : (t956 == t937) = false := beq_eq_false_iff_ne.mpr c49
                                        have c49b1 : (t956 != t937) = true := bne_iff_ne.mpr c49
                                        obtain rfl := Option.some.inj H
                                        go_wp2_with (first | ((with_reducible refine gate_callee (f := 52) rfl ?_); refine goesL_ (some 154) rfl rfl Try.func52 (by kernel_rfl) rfl #[.slice A1 l1.length c1] rfl (by (try simp only [List.map_toArray, List.map_cons, List.map_nil]); first | done | rfl | (simp only [List.length_drop, List.length_take]; rfl)) ?_; (with_reducible refine (laws_numberOf.calls kj39 _ _ l1 t952 _ ?side1 ?side2 A44.out).mono ?_); (case side1 => repeat (first | exact (Kd.C_below HR1.out HB.out) | (with_reducible refine Kd.C_alloc ?_ _) | (with_reducible refine Kd.C_drewN ?_ _) | (with_reducible refine Kd.C_drew ?_))); (case side2 => exact HC1.out); rintro e w' ⟨rfl, ⟨nd, rfl⟩⟩; refine ⟨_, rfl, ?_⟩) | ((with_reducible refine gate_callee (f := 51) rfl ?_); refine goesL_ (some 159) rfl rfl Try.func51 (by kernel_rfl) rfl #[.slice Ao12 t933.length co12, .int .i64 (Int.tmod t952 (wrap64 ((t933.length : Int) - 1)))] rfl (by (try simp only [List.map_toArray, List.map_cons, List.map_nil]); first | done | rfl | (simp only [List.length_drop, List.length_take]; rfl)) ?_; (with_reducible refine (laws_jSwapped.calls _ _ t933 (Int.tmod t952 (wrap64 ((t933.length : Int) - 1))) t953 _ ?side1 ?side2 A46.out).mono ?_); (case side1 => repeat (first | exact (Kd.R_reads' HO_5.out).2.2 | (with_reducible refine Kd.C_alloc ?_ _) | (with_reducible refine Kd.C_drewN ?_ _) | (with_reducible refine Kd.C_drew ?_))); (case side2 => exact (Kd.R_reads' HO_5.out).2.1); rintro e w53 ⟨v954, rfl, ho0, hb⟩; refine ⟨_, rfl, ?_⟩; have n0_ := Aside0.mk (Kd.R_elder' (by (with_reducible repeat (first | apply Kd.R_alloc | apply Kd.R_drewN | apply Kd.R_drew)); exact HO_5.out) (Kd.R_base ho0) hb); have n1_ := Aside0.mk (Kd.R_lower (Kd.R_new' ho0 (Kd.R_lt (by (with_reducible repeat (first | apply Kd.R_alloc | apply Kd.R_drewN | apply Kd.R_drew)); exact HO_5.out))) (below_size (by repeat (first | (with_reducible first | exact HB.out | apply below_alloc | apply pw_below_drewN | apply below_drew1) | exact HB.out)))); have n2_ := Aside0.mk (below_step (by repeat (first | (with_reducible first | exact HB.out | apply below_alloc | apply pw_below_drewN | apply below_drew1) | exact HB.out)) hb); clear HO_5; clear HB; have HO_5 := n0_; have HO955 := n1_; have HB := n2_; clear n0_ n1_ n2_; (try clear hb); (try clear hb2); (try clear hk); (try clear hi); (try clear ho0); obtain ⟨Ao54, co54, eo54⟩ := Kd.R_slice HO955.out; subst eo54) | ((with_reducible refine gate_callee (f := 47) rfl ?_); refine goesL_ (some 161) rfl rfl Try.func47 (by kernel_rfl) rfl #[.slice Ao54 t953.length co54, .int .i64 t934] rfl (by (try simp only [List.map_toArray, List.map_cons, List.map_nil]); first | done | rfl | (simp only [List.length_drop, List.length_take]; rfl)) ?_; (with_reducible refine (impl_DefectOf.calls kj39 _ _ t953 t934 t956 true _ ?side1 ?side2 A47.out).mono ?_); (case side1 => repeat (first | exact (Kd.R_reads' HO955.out).2.2 | (with_reducible refine Kd.C_alloc ?_ _) | (with_reducible refine Kd.C_drewN ?_ _) | (with_reducible refine Kd.C_drew ?_))); (case side2 => exact (Kd.R_reads' HO955.out).2.1); rintro e w55 ⟨rfl, hb⟩; refine ⟨_, rfl, ?_⟩; have n0_ := Aside0.mk (Kd.R_below (by (with_reducible repeat (first | apply Kd.R_alloc | apply Kd.R_drewN | apply Kd.R_drew)); exact HO_5.out) hb); have n1_ := Aside0.mk (Kd.R_below (by (with_reducible repeat (first | apply Kd.R_alloc | apply Kd.R_drewN | apply Kd.R_drew)); exact HO955.out) hb); have n2_ := Aside0.mk (below_step (by repeat (first | (with_reducible first | exact HB.out | apply below_alloc | apply pw_below_drewN | apply below_drew1) | exact HB.out)) hb); clear HO_5; clear HO955; clear HB; have HO_5 := n0_; have HO955 := n1_; have HB := n2_; clear n0_ n1_ n2_; (try clear hb); (try clear hb2); (try clear hk); (try clear hi)))
                                        go_ret
                                        exact ⟨by first | rfl | (simp [errW_none, errW_some] <;> rfl) | (simp [*, errW_none, errW_some] <;> rfl), by repeat (first | (with_reducible first | exact HB.out | apply below_alloc | apply pw_below_drewN | apply below_drew1) | exact HB.out)⟩
                                    · replace c48 := Bool.eq_false_iff.mpr c48
                                      subst c48
                                      have H1 : (some false) = some r := by rw [if_neg (show ¬ (false = true) by decide)] at H; exact H
                                      clear H
                                      have H := H1
                                      clear H1
                                      obtain rfl := Option.some.inj H
                                      go_wp2_with (first | ((with_reducible refine gate_callee (f := 52) rfl ?_); refine goesL_ (some 154) rfl rfl Try.func52 (by kernel_rfl) rfl #[.slice A1 l1.length c1] rfl (by (try simp only [List.map_toArray, List.map_cons, List.map_nil]); first | done | rfl | (simp only [List.length_drop, List.length_take]; rfl)) ?_; (with_reducible refine (laws_numberOf.calls kj39 _ _ l1 t952 _ ?side1 ?side2 A44.out).mono ?_); (case side1 => repeat (first | exact (Kd.C_below HR1.out HB.out) | (with_reducible refine Kd.C_alloc ?_ _) | (with_reducible refine Kd.C_drewN ?_ _) | (with_reducible refine Kd.C_drew ?_))); (case side2 => exact HC1.out); rintro e w' ⟨rfl, ⟨nd, rfl⟩⟩; refine ⟨_, rfl, ?_⟩) | ((with_reducible refine gate_callee (f := 51) rfl ?_); refine goesL_ (some 159) rfl rfl Try.func51 (by kernel_rfl) rfl #[.slice Ao12 t933.length co12, .int .i64 (Int.tmod t952 (wrap64 ((t933.length : Int) - 1)))] rfl (by (try simp only [List.map_toArray, List.map_cons, List.map_nil]); first | done | rfl | (simp only [List.length_drop, List.length_take]; rfl)) ?_; (with_reducible refine (laws_jSwapped.calls _ _ t933 (Int.tmod t952 (wrap64 ((t933.length : Int) - 1))) t953 _ ?side1 ?side2 A46.out).mono ?_); (case side1 => repeat (first | exact (Kd.R_reads' HO_5.out).2.2 | (with_reducible refine Kd.C_alloc ?_ _) | (with_reducible refine Kd.C_drewN ?_ _) | (with_reducible refine Kd.C_drew ?_))); (case side2 => exact (Kd.R_reads' HO_5.out).2.1); rintro e w56 ⟨v954, rfl, ho0, hb⟩; refine ⟨_, rfl, ?_⟩; have n0_ := Aside0.mk (Kd.R_elder' (by (with_reducible repeat (first | apply Kd.R_alloc | apply Kd.R_drewN | apply Kd.R_drew)); exact HO_5.out) (Kd.R_base ho0) hb); have n1_ := Aside0.mk (Kd.R_lower (Kd.R_new' ho0 (Kd.R_lt (by (with_reducible repeat (first | apply Kd.R_alloc | apply Kd.R_drewN | apply Kd.R_drew)); exact HO_5.out))) (below_size (by repeat (first | (with_reducible first | exact HB.out | apply below_alloc | apply pw_below_drewN | apply below_drew1) | exact HB.out)))); have n2_ := Aside0.mk (below_step (by repeat (first | (with_reducible first | exact HB.out | apply below_alloc | apply pw_below_drewN | apply below_drew1) | exact HB.out)) hb); clear HO_5; clear HB; have HO_5 := n0_; have HO955 := n1_; have HB := n2_; clear n0_ n1_ n2_; (try clear hb); (try clear hb2); (try clear hk); (try clear hi); (try clear ho0); obtain ⟨Ao57, co57, eo57⟩ := Kd.R_slice HO955.out; subst eo57) | ((with_reducible refine gate_callee (f := 47) rfl ?_); refine goesL_ (some 161) rfl rfl Try.func47 (by kernel_rfl) rfl #[.slice Ao57 t953.length co57, .int .i64 t934] rfl (by (try simp only [List.map_toArray, List.map_cons, List.map_nil]); first | done | rfl | (simp only [List.length_drop, List.length_take]; rfl)) ?_; (with_reducible refine (impl_DefectOf.calls kj39 _ _ t953 t934 t956 false _ ?side1 ?side2 A47.out).mono ?_); (case side1 => repeat (first | exact (Kd.R_reads' HO955.out).2.2 | (with_reducible refine Kd.C_alloc ?_ _) | (with_reducible refine Kd.C_drewN ?_ _) | (with_reducible refine Kd.C_drew ?_))); (case side2 => exact (Kd.R_reads' HO955.out).2.1); rintro e w58 ⟨rfl, hb⟩; refine ⟨_, rfl, ?_⟩; have n0_ := Aside0.mk (Kd.R_below (by (with_reducible repeat (first | apply Kd.R_alloc | apply Kd.R_drewN | apply Kd.R_drew)); exact HO_5.out) hb); have n1_ := Aside0.mk (Kd.R_below (by (with_reducible repeat (first | apply Kd.R_alloc | apply Kd.R_drewN | apply Kd.R_drew)); exact HO955.out) hb); have n2_ := Aside0.mk (below_step (by repeat (first | (with_reducible first | exact HB.out | apply below_alloc | apply pw_below_drewN | apply below_drew1) | exact HB.out)) hb); clear HO_5; clear HO955; clear HB; have HO_5 := n0_; have HO955 := n1_; have HB := n2_; clear n0_ n1_ n2_; (try clear hb); (try clear hb2); (try clear hk); (try clear hi)))
                                      go_ret
                                      exact ⟨by first | rfl | (simp [errW_none, errW_some] <;> rfl) | (simp [*, errW_none, errW_some] <;> rfl), by repeat (first | (with_reducible first | exact HB.out | apply below_alloc | apply pw_below_drewN | apply below_drew1) | exact HB.out)⟩
                                · rw [if_neg c43] at H
                                  have c43b0 : decide (1 < (t933.length : Int)) = false := decide_eq_false c43
                                  have c43b1 : decide (1 < t933.length) = false := decide_eq_false (by omega)
                                  clear c43
                                  have H' := Aside0.mk H
                                  clear H
                                  go_wp2
                                  go_meet
                                  case rel => exact ⟨_, H', ⟨by have := HJ9.out; have := HK2.out; have := HK3.out; have := HJ39.out; first | omega | exact Nat.le_refl _⟩, ⟨by repeat (first | (with_reducible first | exact HB.out | apply below_alloc | apply pw_below_drewN | apply below_drew1) | exact HB.out)⟩⟩
            · replace c28 := Bool.eq_false_iff.mpr c28
              subst c28
              have H1 : (laws_FnDefects.j5 kj9 l1) = some r := by rw [if_neg (show ¬ (false = true) by decide)] at H; exact H
              clear H
              have H := H1
              clear H1
              have H' := Aside0.mk H
              clear H
              go_wp2
              go_meet
              case rel => exact ⟨_, H', ⟨by have := HJ9.out; first | omega | exact Nat.le_refl _⟩, ⟨by repeat (first | (with_reducible first | exact HB.out | apply below_alloc | apply pw_below_drewN | apply below_drew1) | exact HB.out)⟩⟩
          case rest =>
            clear HC27
            try clear c1
            try clear c2
            try clear p2
            try clear c3
            try clear c4
            try clear c5
            try clear p6
            try clear p9
            try clear q9
            try clear hx9
            try clear c10
            try clear c17
            try clear c17b0
            try clear c17b1
            try clear c17b2
            try clear c18
            try clear c18b0
            try clear c18b1
            try clear c19
            try clear c19b0
            try clear c19b1
            try clear c19b2
            try clear c21
            try clear c26
            try clear c28
            try clear c29
            try clear c29b0
            try clear c30
            try clear c30b0
            try clear c31
            try clear c31b0
            try clear c32
            try clear c32b0
            try clear c33
            try clear c33b0
            try clear c34
            try clear c34b0
            try clear c36
            try clear c36b0
            try clear c37
            try clear c37b0
            try clear c38
            try clear c38b0
            try clear c39
            try clear c39b0
            try clear c39b1
            try clear c41
            try clear c41b0
            try clear c41b1
            try clear c42
            try clear c43
            try clear c43b0
            try clear c43b1
            try clear c45
            try clear c45b0
            try clear c45b1
            try clear c46
            try clear c47
            try clear c48
            try clear c49
            try clear c49b0
            try clear c49b1
            try clear c50
            try clear c51
            try clear c52
            try clear hx950_0
            try clear hx951_0
            try clear p2
            try clear p6
            try clear p9
            try clear p950
            try clear p951
            try clear q9
            try clear q950
            try clear q951
            obtain ⟨kq, HA, HJ26, HB⟩ := hcut
            cases kq with
            | zero => exact absurd HA.out (by simp [laws_FnDefects.j5])
            | succ kj26 =>
              have H := HA.out
              clear HA
              simp only [laws_FnDefects.j5] at H
              replace H := Option.bind_eq_some_iff.mp H
              obtain ⟨t958, A590, H⟩ := H
              replace H : ((impl_CountByDefect.f kj26 t958).bind fun bt959 => ((spec_CountByDefect.f kj26 t958).bind fun bt963 => (if (bt959.2 != bt963.2) = true then (laws_FnDefects.j6 kj26 l1 t958 bt959.1 bt959.2 true) else ((laws_jSame.f kj26 bt959.1 bt963.1).bind fun t967 => (laws_FnDefects.j6 kj26 l1 t958 bt959.1 bt959.2 (!t967)))))) = some r := H
              have A59 := Aside0.mk A590
              clear A590
              replace H := Option.bind_eq_some_iff.mp H
              obtain ⟨⟨t959, t960⟩, A600, H⟩ := H
              replace H : ((spec_CountByDefect.f kj26 t958).bind fun bt963 => (if (t960 != bt963.2) = true then (laws_FnDefects.j6 kj26 l1 t958 t959 t960 true) else ((laws_jSame.f kj26 t959 bt963.1).bind fun t967 => (laws_FnDefects.j6 kj26 l1 t958 t959 t960 (!t967))))) = some r := H
              have A60 := Aside0.mk A600
              clear A600
              replace H := Option.bind_eq_some_iff.mp H
              obtain ⟨⟨t963, t964⟩, A610, H⟩ := H
              replace H : (if (t960 != t964) = true then (laws_FnDefects.j6 kj26 l1 t958 t959 t960 true) else ((laws_jSame.f kj26 t959 t963).bind fun t967 => (laws_FnDefects.j6 kj26 l1 t958 t959 t960 (!t967)))) = some r := H
              have A61 := Aside0.mk A610
              clear A610
              have HC62 := Aside0.mk H
              clear H
              go_upto_region 40 with (first | ((with_reducible refine gate_callee (f := 53) rfl ?_); refine goesL_ (some 172) rfl rfl Try.func53 (by kernel_rfl) rfl #[.slice A1 l1.length c1] rfl (by (try simp only [List.map_toArray, List.map_cons, List.map_nil]); first | done | rfl | (simp only [List.length_drop, List.length_take]; rfl)) ?_; (with_reducible refine (spec_DrawCountByDefect.calls _ _ l1 t958 _ ?side1 ?side2 A59.out).mono ?_); (case side1 => repeat (first | exact (Kd.C_below HR1.out HB.out) | (with_reducible refine Kd.C_alloc ?_ _) | (with_reducible refine Kd.C_drewN ?_ _) | (with_reducible refine Kd.C_drew ?_))); (case side2 => exact HC1.out); rintro e w63 ⟨rfl, hb⟩; refine ⟨_, rfl, ?_⟩; have n0_ := Aside0.mk (below_step (by repeat (first | (with_reducible first | exact HB.out | apply below_alloc | apply pw_below_drewN | apply below_drew1) | exact HB.out)) hb); clear HB; have HB := n0_; clear n0_; (try clear hb); (try clear hb2); (try clear hk); (try clear hi)) | ((with_reducible refine gate_callee (f := 28) rfl ?_); refine goesL_ (some 175) rfl rfl Try.func28 (by kernel_rfl) rfl #[.int .i64 t958] rfl (by (try simp only [List.map_toArray, List.map_cons, List.map_nil]); first | done | rfl | (simp only [List.length_drop, List.length_take]; rfl)) ?_; (with_reducible refine (impl_CountByDefect.calls kj26 t958 t959 t960 _ A60.out).mono ?_); rintro e w64 ⟨v961, rfl, ho0, hb⟩; refine ⟨_, rfl, ?_⟩; have n0_ := Aside0.mk (Kd.R_lower ho0 (below_size (by repeat (first | (with_reducible first | exact HB.out | apply below_alloc | apply pw_below_drewN | apply below_drew1) | exact HB.out)))); have n1_ := Aside0.mk (below_step (by repeat (first | (with_reducible first | exact HB.out | apply below_alloc | apply pw_below_drewN | apply below_drew1) | exact HB.out)) hb); clear HB; have HO962 := n0_; have HB := n1_; clear n0_ n1_; (try clear hb); (try clear hb2); (try clear hk); (try clear hi); (try clear ho0)) | ((with_reducible refine gate_callee (f := 27) rfl ?_); refine goesL_ (some 180) rfl rfl Try.func27 (by kernel_rfl) rfl #[.int .i64 t958] rfl (by (try simp only [List.map_toArray, List.map_cons, List.map_nil]); first | done | rfl | (simp only [List.length_drop, List.length_take]; rfl)) ?_; (with_reducible refine (spec_CountByDefect.calls kj26 t958 t963 t964 _ A61.out).mono ?_); rintro e w65 ⟨v965, rfl, ho0, hb⟩; refine ⟨_, rfl, ?_⟩; have n0_ := Aside0.mk (Kd.R_elder' (by (with_reducible repeat (first | apply Kd.R_alloc | apply Kd.R_drewN | apply Kd.R_drew)); exact HO962.out) (Kd.R_base ho0) hb); have n1_ := Aside0.mk (Kd.R_lower (Kd.R_new' ho0 (Kd.R_lt (by (with_reducible repeat (first | apply Kd.R_alloc | apply Kd.R_drewN | apply Kd.R_drew)); exact HO962.out))) (below_size (by repeat (first | (with_reducible first | exact HB.out | apply below_alloc | apply pw_below_drewN | apply below_drew1) | exact HB.out)))); have n2_ := Aside0.mk (below_step (by repeat (first | (with_reducible first | exact HB.out | apply below_alloc | apply pw_below_drewN | apply below_drew1) | exact HB.out)) hb); clear HO962; clear HB; have HO962 := n0_; have HO966 := n1_; have HB := n2_; clear n0_ n1_ n2_; (try clear hb); (try clear hb2); (try clear hk); (try clear hi); (try clear ho0)))
              (try simp only [Act.put, List.setIfInBounds_toArray, List.set_cons_zero, List.set_cons_succ])
              go_cut [191] (fun v191 wc => ∃ (kq : Nat) (x191_61 : Bool), v191 = .bool x191_61 ∧ Aside0 (laws_FnDefects.j6 kq l1 t958 t959 t960 x191_61 = some r) ∧ Aside0 (kq ≤ kj26) ∧ Aside0 (Kd.R (Kd.int .i64) 3 wc w.heap.size (fun _ => True) v961 t959) ∧ Aside0 (Below w.heap.size w wc))
              case first =>
                have H := HC62.out
                clear HC62
                by_cases c66 : (t960 != t964) = true
                · rw [if_pos c66] at H
                  have c66b0 : (t960 != t964) = true := c66
                  (try (have c66b1 : decide (t960 = t964) = false := by simpa using c66))
                  (try (have c66b2 : (t960 == t964) = false := by simpa using c66))
                  (try (have c66b3 : ¬ (t960 = t964) := by simpa using c66))
                  clear c66
                  (first | rw [c66b0] | (simp only [i64_w, i32_w]; rw [c66b0]) | skip)
                  have H' := Aside0.mk H
                  clear H
                  go_wp2
                  go_meet
                  case rel => exact ⟨_, (true), (by first | rfl | (simp; done) | (simp [*]; done)), H', ⟨by have := HJ9.out; have := HJ26.out; first | omega | exact Nat.le_refl _⟩, ⟨by (with_reducible repeat (first | apply Kd.R_alloc | apply Kd.R_drewN | apply Kd.R_drew)); exact Kd.R_mono HO962.out (fun _ hk => trivial)⟩, ⟨by repeat (first | (with_reducible first | exact HB.out | apply below_alloc | apply pw_below_drewN | apply below_drew1) | exact HB.out)⟩⟩
                · rw [if_neg c66] at H
                  have c66b0 : (t960 != t964) = false := by simpa using c66
                  (try (have c66b1 : decide (t960 = t964) = true := by simpa using c66))
                  (try (have c66b2 : (t960 == t964) = true := by simpa using c66))
                  clear c66
                  (first | rw [c66b0] | (simp only [i64_w, i32_w]; rw [c66b0]) | skip)
                  replace H := Option.bind_eq_some_iff.mp H
                  obtain ⟨t967, A670, H⟩ := H
                  replace H : (laws_FnDefects.j6 kj26 l1 t958 t959 t960 (!t967)) = some r := H
                  have A67 := Aside0.mk A670
                  clear A670
                  have H' := Aside0.mk H
                  clear H
                  obtain ⟨Ao68, co68, eo68⟩ := Kd.R_slice HO962.out
                  subst eo68
                  obtain ⟨Ao69, co69, eo69⟩ := Kd.R_slice HO966.out
                  subst eo69
                  go_wp2_with (first | (go_at_call 34; (with_reducible refine (laws_jSame.calls kj26 _ _ t959 _ _ t963 t967 _ ?side1 ?side2 ?side3 ?side4 A67.out).mono ?_); (case side1 => repeat (first | exact (Kd.R_reads' HO962.out).2.2 | (with_reducible refine Kd.C_alloc ?_ _) | (with_reducible refine Kd.C_drewN ?_ _) | (with_reducible refine Kd.C_drew ?_))); (case side2 => exact (Kd.R_reads' HO962.out).2.1); (case side3 => repeat (first | exact (Kd.R_reads' HO966.out).2.2 | (with_reducible refine Kd.C_alloc ?_ _) | (with_reducible refine Kd.C_drewN ?_ _) | (with_reducible refine Kd.C_drew ?_))); (case side4 => exact (Kd.R_reads' HO966.out).2.1); rintro e w' ⟨rfl, ⟨nd, rfl⟩⟩))
                  go_meet
                  case rel => exact ⟨_, (!t967), (by first | rfl | (simp; done) | (simp [*]; done)), H', ⟨by have := HJ9.out; have := HJ26.out; first | omega | exact Nat.le_refl _⟩, ⟨by (with_reducible repeat (first | apply Kd.R_alloc | apply Kd.R_drewN | apply Kd.R_drew)); exact Kd.R_mono HO962.out (fun _ hk => trivial)⟩, ⟨by repeat (first | (with_reducible first | exact HB.out | apply below_alloc | apply pw_below_drewN | apply below_drew1) | exact HB.out)⟩⟩
              case rest =>
                clear HC62
                try clear c1
                try clear c2
                try clear p2
                try clear c3
                try clear c4
                try clear c5
                try clear c6
                try clear p6
                try clear p9
                try clear q9
                try clear hx9
                try clear c10
                try clear c17
                try clear c17b0
                try clear c17b1
                try clear c17b2
                try clear c18
                try clear c18b0
                try clear c18b1
                try clear c19
                try clear c19b0
                try clear c19b1
                try clear c19b2
                try clear c21
                try clear c26
                try clear c27
                try clear c28
                try clear c29
                try clear c29b0
                try clear c30
                try clear c30b0
                try clear c31
                try clear c31b0
                try clear c32
                try clear c32b0
                try clear c33
                try clear c33b0
                try clear c34
                try clear c34b0
                try clear c36
                try clear c36b0
                try clear c37
                try clear c37b0
                try clear c38
                try clear c38b0
                try clear c39
                try clear c39b0
                try clear c39b1
                try clear c41
                try clear c41b0
                try clear c41b1
                try clear c42
                try clear c43
                try clear c43b0
                try clear c43b1
                try clear c45
                try clear c45b0
                try clear c45b1
                try clear c46
                try clear c47
                try clear c48
                try clear c49
                try clear c49b0
                try clear c49b1
                try clear c50
                try clear c51
                try clear c52
                try clear c53
                try clear p64
                try clear c66
                try clear c66b0
                try clear c66b1
                try clear c66b2
                try clear hx950_0
                try clear hx951_0
                try clear p2
                try clear p6
                try clear p9
                try clear p950
                try clear p951
                try clear q9
                try clear q950
                try clear q951
                obtain ⟨kq, x191_61, rfl, HA, HJ61, HO_26, HB⟩ := hcut
                cases kq with
                | zero => exact absurd HA.out (by simp [laws_FnDefects.j6])
                | succ kj61 =>
                  have H := HA.out
                  clear HA
                  simp only [laws_FnDefects.j6] at H
                  by_cases c70 : x191_61 = true
                  · subst c70
                    have H1 : (some false) = some r := by rw [if_pos rfl] at H; exact H
                    clear H
                    have H := H1
                    clear H1
                    obtain rfl := Option.some.inj H
                    go_wp2
                    go_ret
                    exact ⟨by first | rfl | (simp [errW_none, errW_some] <;> rfl) | (simp [*, errW_none, errW_some] <;> rfl), by repeat (first | (with_reducible first | exact HB.out | apply below_alloc | apply pw_below_drewN | apply below_drew1) | exact HB.out)⟩
                  · as_aux_lemma =>
                    replace c70 := Bool.eq_false_iff.mpr c70
                    subst c70
                    have H1 : (if t960 = true then ((impl_CountParking.f kj61 t958).bind fun bt968 => (laws_FnDefects.l3 kj61 l1 t958 t959 bt968.1 bt968.2 1 0)) else (laws_FnDefects.j8 kj61 l1)) = some r := by rw [if_neg (show ¬ (false = true) by decide)] at H; exact H
                    clear H
                    have H := H1
                    clear H1
                    have HC71 := Aside0.mk H
                    clear H
                    go_upto_if 192 with (fail)
                    go_cut [] (fun wc => ∃ (kq : Nat), Aside0 (laws_FnDefects.j8 kq l1 = some r) ∧ Aside0 (kq ≤ kj61) ∧ Aside0 (Below w.heap.size w wc))
                    case first =>
                      have H := HC71.out
                      clear HC71
                      by_cases c72 : t960 = true
                      · as_aux_lemma =>
                        subst c72
                        have H1 : ((impl_CountParking.f kj61 t958).bind fun bt968 => (laws_FnDefects.l3 kj61 l1 t958 t959 bt968.1 bt968.2 1 0)) = some r := by rw [if_pos rfl] at H; exact H
                        clear H
                        have H := H1
                        clear H1
                        replace H := Option.bind_eq_some_iff.mp H
                        obtain ⟨⟨t968, t969⟩, A730, H⟩ := H
                        replace H : (laws_FnDefects.l3 kj61 l1 t958 t959 t968 t969 1 0) = some r := H
                        have A73 := Aside0.mk A730
                        clear A730
                        have H' := Aside0.mk H
                        clear H
                        go_wp2_with (first | ((with_reducible refine gate_callee (f := 40) rfl ?_); refine goesL_ (some 195) rfl rfl Try.func40 (by kernel_rfl) rfl #[.int .i64 t958] rfl (by (try simp only [List.map_toArray, List.map_cons, List.map_nil]); first | done | rfl | (simp only [List.length_drop, List.length_take]; rfl)) ?_; (with_reducible refine (impl_CountParking.calls kj61 t958 t968 t969 _ A73.out).mono ?_); rintro e w74 ⟨rfl, hb⟩; refine ⟨_, rfl, ?_⟩; have n0_ := Aside0.mk (Kd.R_below (by (with_reducible repeat (first | apply Kd.R_alloc | apply Kd.R_drewN | apply Kd.R_drew)); exact HO_26.out) hb); have n1_ := Aside0.mk (below_step (by repeat (first | (with_reducible first | exact HB.out | apply below_alloc | apply pw_below_drewN | apply below_drew1) | exact HB.out)) hb); clear HO_26; clear HB; have HO_26 := n0_; have HB := n1_; clear n0_ n1_; (try clear hb); (try clear hb2); (try clear hk); (try clear hi)))
                        go_loopg [32, 33] kj61 (fun kq v32 v33 w' => ∃ (x32_4 : Int) (x33_4 : Int), v32 = .int .i64 x32_4 ∧ v33 = .int .i64 x33_4 ∧ Aside0 (laws_FnDefects.l3 kq l1 t958 t959 t968 t969 x32_4 x33_4 = some r) ∧ Aside0 (kq ≤ kj61) ∧ Aside0 (Kd.R (Kd.int .i64) 3 w' w.heap.size (fun _ => True) v961 t959) ∧ Aside0 (Below w.heap.size w w'))
                        case atStart => exact ⟨(1), (0), (by first | rfl | (simp; done) | (simp [*]; done)), (by first | rfl | (simp; done) | (simp [*]; done)), H', ⟨Nat.le_refl _⟩, ⟨by (with_reducible repeat (first | apply Kd.R_alloc | apply Kd.R_drewN | apply Kd.R_drew)); exact HO_26.out⟩, ⟨by repeat (first | (with_reducible first | exact HB.out | apply below_alloc | apply pw_below_drewN | apply below_drew1) | exact HB.out)⟩⟩
                        case round =>
                          clear H'
                          try clear c1
                          try clear c2
                          try clear p2
                          try clear c3
                          try clear c4
                          try clear c5
                          try clear c6
                          try clear p6
                          try clear c7
                          try clear p9
                          try clear q9
                          try clear hx9
                          try clear c10
                          try clear c17
                          try clear c17b0
                          try clear c17b1
                          try clear c17b2
                          try clear c18
                          try clear c18b0
                          try clear c18b1
                          try clear c19
                          try clear c19b0
                          try clear c19b1
                          try clear c19b2
                          try clear c21
                          try clear c26
                          try clear c27
                          try clear c28
                          try clear c29
                          try clear c29b0
                          try clear c30
                          try clear c30b0
                          try clear c31
                          try clear c31b0
                          try clear c32
                          try clear c32b0
                          try clear c33
                          try clear c33b0
                          try clear c34
                          try clear c34b0
                          try clear c36
                          try clear c36b0
                          try clear c37
                          try clear c37b0
                          try clear c38
                          try clear c38b0
                          try clear c39
                          try clear c39b0
                          try clear c39b1
                          try clear c40
                          try clear c41
                          try clear c41b0
                          try clear c41b1
                          try clear c42
                          try clear c43
                          try clear c43b0
                          try clear c43b1
                          try clear c45
                          try clear c45b0
                          try clear c45b1
                          try clear c46
                          try clear c47
                          try clear c48
                          try clear c49
                          try clear c49b0
                          try clear c49b1
                          try clear c50
                          try clear c51
                          try clear c52
                          try clear c53
                          try clear p64
                          try clear c66
                          try clear c66b0
                          try clear c66b1
                          try clear c66b2
                          try clear c70
                          try clear c72
                          try clear hx950_0
                          try clear hx951_0
                          try clear p2
                          try clear p6
                          try clear p64
                          try clear p9
                          try clear p950
                          try clear p951
                          try clear q9
                          try clear q950
                          try clear q951
                          obtain ⟨x32_4, x33_4, rfl, rfl, HA, HK4, HO_26, HB⟩ := hrel
                          cases gk with
                          | zero => exact absurd HA.out (by simp [laws_FnDefects.l3])
                          | succ k4 =>
                            have H := HA.out
                            clear HA
                            simp only [laws_FnDefects.l3] at H
                            by_cases c75 : x33_4 < t958
                            · rw [if_pos c75] at H
                              have c75b0 : decide (x33_4 < t958) = true := decide_eq_true c75
                              clear c75
                              (first | rw [c75b0] | (simp only [i64_w, i32_w]; rw [c75b0]) | skip)
                              have H' := Aside0.mk H
                              clear H
                              go_wp2
                              go_roundg k4
                              case measure => have := HJ9.out; have := HJ26.out; have := HJ61.out; have := HK4.out; omega
                              case rel => exact ⟨(wrap64 (x32_4 * t958)), (wrap64 (x33_4 + 1)), (by first | rfl | (simp; done) | (simp [*]; done)), (by first | rfl | (simp; done) | (simp [*]; done)), H', ⟨by have := HJ9.out; have := HJ26.out; have := HJ61.out; have := HK4.out; omega⟩, ⟨by (with_reducible repeat (first | apply Kd.R_alloc | apply Kd.R_drewN | apply Kd.R_drew)); exact HO_26.out⟩, ⟨by repeat (first | (with_reducible first | exact HB.out | apply below_alloc | apply pw_below_drewN | apply below_drew1) | exact HB.out)⟩⟩
                            · as_aux_lemma =>
                              rw [if_neg c75] at H
                              have c75b0 : decide (x33_4 < t958) = false := decide_eq_false c75
                              clear c75
                              (first | rw [c75b0] | (simp only [i64_w, i32_w]; rw [c75b0]) | skip)
                              by_cases c76 : t969 = true
                              · as_aux_lemma =>
                                subst c76
                                have H1 : (if 0 < (t959.length : Int) then (if (rd t959 0) = t968 then ((laws_jSum.f k4 t959).bind fun t971 => (if t971 = x32_4 then (laws_FnDefects.j8 k4 l1) else (some false))) else (some false)) else (none)) = some r := by rw [if_pos rfl] at H; exact H
                                clear H
                                have H := H1
                                clear H1
                                by_cases c77 : 0 < (t959.length : Int)
                                · as_aux_lemma =>
                                  rw [if_pos c77] at H
                                  have c77b0 : decide (0 < (t959.length : Int)) = true := decide_eq_true c77
                                  have c77b1 : decide (0 < t959.length) = true := decide_eq_true (by omega)
                                  clear c77
                                  by_cases c78 : (rd t959 0) = t968
                                  · rw [if_pos c78] at H
                                    have c78b0 : ((rd t959 0) == t968) = true := beq_iff_eq.mpr c78
                                    have c78b1 : ((rd t959 0) != t968) = false := bne_eq_false_iff_eq.mpr c78
                                    clear c78
                                    replace H := Option.bind_eq_some_iff.mp H
                                    obtain ⟨t971, A790, H⟩ := H
                                    replace H : (if t971 = x32_4 then (laws_FnDefects.j8 k4 l1) else (some false)) = some r := H
                                    have A79 := Aside0.mk A790
                                    clear A790
                                    by_cases c80 : t971 = x32_4
                                    · rw [if_pos c80] at H
                                      have c80b0 : (t971 == x32_4) = true := beq_iff_eq.mpr c80
                                      have c80b1 : (t971 != x32_4) = false := bne_eq_false_iff_eq.mpr c80
                                      clear c80
                                      have H' := Aside0.mk H
                                      clear H
                                      obtain ⟨Ao81, co81, eo81⟩ := Kd.R_slice HO_26.out
                                      subst eo81
                                      have p970 : 0 ≤ (0 : Int) := (by omega)
                                      have q970 : 0 < (t959.length : Int) := of_decide_eq_true (by first | (with_reducible assumption) | assumption)
                                      obtain ⟨ad970, e970, hx970_0⟩ := Kd.at_int (Kd.R_reads' HO_26.out).2.2 0 p970 q970
                                      cases e970
                                      have qi970 : (0 < t959.length) = True := eq_true (by omega)
                                      (try rw [show ((0 : Int)).toNat = 0 from rfl] at hx970_0)
                                      (try rw [Addr.add_zero'] at hx970_0)
                                      replace p970 := eq_true p970
                                      replace q970 := eq_true q970
                                      go_wp2_with (first | (go_at_call 21; (with_reducible refine (laws_jSum.calls k4 _ _ t959 t971 _ ?side1 ?side2 A79.out).mono ?_); (case side1 => repeat (first | exact (Kd.R_reads' HO_26.out).2.2 | (with_reducible refine Kd.C_alloc ?_ _) | (with_reducible refine Kd.C_drewN ?_ _) | (with_reducible refine Kd.C_drew ?_))); (case side2 => exact (Kd.R_reads' HO_26.out).2.1); rintro e w' ⟨rfl, ⟨nd, rfl⟩⟩))
                                      go_meet
                                      case rel => exact ⟨_, H', ⟨by have := HJ9.out; have := HJ26.out; have := HJ61.out; have := HK4.out; first | omega | exact Nat.le_refl _⟩, ⟨by repeat (first | (with_reducible first | exact HB.out | apply below_alloc | apply pw_below_drewN | apply below_drew1) | exact HB.out)⟩⟩
                                    · rw [if_neg c80] at H
                                      have c80b0 : (t971 == x32_4) = false := beq_eq_false_iff_ne.mpr c80
                                      have c80b1 : (t971 != x32_4) = true := bne_iff_ne.mpr c80
                                      obtain rfl := Option.some.inj H
                                      obtain ⟨Ao82, co82, eo82⟩ := Kd.R_slice HO_26.out
                                      subst eo82
                                      have p970 : 0 ≤ (0 : Int) := (by omega)
                                      have q970 : 0 < (t959.length : Int) := of_decide_eq_true (by first | (with_reducible assumption) | assumption)
                                      obtain ⟨ad970, e970, hx970_0⟩ := Kd.at_int (Kd.R_reads' HO_26.out).2.2 0 p970 q970
                                      cases e970
                                      have qi970 : (0 < t959.length) = True := eq_true (by omega)
                                      (try rw [show ((0 : Int)).toNat = 0 from rfl] at hx970_0)
                                      (try rw [Addr.add_zero'] at hx970_0)
                                      replace p970 := eq_true p970
                                      replace q970 := eq_true q970
                                      go_wp2_with (first | (go_at_call 21; (with_reducible refine (laws_jSum.calls k4 _ _ t959 t971 _ ?side1 ?side2 A79.out).mono ?_); (case side1 => repeat (first | exact (Kd.R_reads' HO_26.out).2.2 | (with_reducible refine Kd.C_alloc ?_ _) | (with_reducible refine Kd.C_drewN ?_ _) | (with_reducible refine Kd.C_drew ?_))); (case side2 => exact (Kd.R_reads' HO_26.out).2.1); rintro e w' ⟨rfl, ⟨nd, rfl⟩⟩))
                                      go_ret
                                      exact ⟨by first | rfl | (simp [errW_none, errW_some] <;> rfl) | (simp [*, errW_none, errW_some] <;> rfl), by repeat (first | (with_reducible first | exact HB.out | apply below_alloc | apply pw_below_drewN | apply below_drew1) | exact HB.out)⟩
                                  · rw [if_neg c78] at H
                                    have c78b0 : ((rd t959 0) == t968) = false := beq_eq_false_iff_ne.mpr c78
                                    have c78b1 : ((rd t959 0) != t968) = true := bne_iff_ne.mpr c78
                                    obtain rfl := Option.some.inj H
                                    obtain ⟨Ao83, co83, eo83⟩ := Kd.R_slice HO_26.out
                                    subst eo83
                                    have p970 : 0 ≤ (0 : Int) := (by omega)
                                    have q970 : 0 < (t959.length : Int) := of_decide_eq_true (by first | (with_reducible assumption) | assumption)
                                    obtain ⟨ad970, e970, hx970_0⟩ := Kd.at_int (Kd.R_reads' HO_26.out).2.2 0 p970 q970
                                    cases e970
                                    have qi970 : (0 < t959.length) = True := eq_true (by omega)
                                    (try rw [show ((0 : Int)).toNat = 0 from rfl] at hx970_0)
                                    (try rw [Addr.add_zero'] at hx970_0)
                                    replace p970 := eq_true p970
                                    replace q970 := eq_true q970
                                    go_wp2
                                    go_ret
                                    exact ⟨by first | rfl | (simp [errW_none, errW_some] <;> rfl) | (simp [*, errW_none, errW_some] <;> rfl), by repeat (first | (with_reducible first | exact HB.out | apply below_alloc | apply pw_below_drewN | apply below_drew1) | exact HB.out)⟩
                                · rw [if_neg c77] at H
                                  exact absurd H (by simp)
                              · replace c76 := Bool.eq_false_iff.mpr c76
                                subst c76
                                have H1 : (some false) = some r := by rw [if_neg (show ¬ (false = true) by decide)] at H; exact H
                                clear H
                                have H := H1
                                clear H1
                                obtain rfl := Option.some.inj H
                                go_wp2
                                go_ret
                                exact ⟨by first | rfl | (simp [errW_none, errW_some] <;> rfl) | (simp [*, errW_none, errW_some] <;> rfl), by repeat (first | (with_reducible first | exact HB.out | apply below_alloc | apply pw_below_drewN | apply below_drew1) | exact HB.out)⟩
                      · replace c72 := Bool.eq_false_iff.mpr c72
                        subst c72
                        have H1 : (laws_FnDefects.j8 kj61 l1) = some r := by rw [if_neg (show ¬ (false = true) by decide)] at H; exact H
                        clear H
                        have H := H1
                        clear H1
                        have H' := Aside0.mk H
                        clear H
                        go_wp2
                        go_meet
                        case rel => exact ⟨_, H', ⟨by have := HJ9.out; have := HJ26.out; have := HJ61.out; first | omega | exact Nat.le_refl _⟩, ⟨by repeat (first | (with_reducible first | exact HB.out | apply below_alloc | apply pw_below_drewN | apply below_drew1) | exact HB.out)⟩⟩
                    case rest =>
                      clear HC71
                      try clear c1
                      try clear c2
                      try clear p2
                      try clear c3
                      try clear c4
                      try clear c5
                      try clear c6
                      try clear p6
                      try clear c7
                      try clear c8
                      try clear p9
                      try clear q9
                      try clear hx9
                      try clear qi9
                      try clear c10
                      try clear c17
                      try clear c17b0
                      try clear c17b1
                      try clear c17b2
                      try clear c18
                      try clear c18b0
                      try clear c18b1
                      try clear c19
                      try clear c19b0
                      try clear c19b1
                      try clear c19b2
                      try clear c21
                      try clear c26
                      try clear c27
                      try clear c28
                      try clear c29
                      try clear c29b0
                      try clear c30
                      try clear c30b0
                      try clear c31
                      try clear c31b0
                      try clear c32
                      try clear c32b0
                      try clear c33
                      try clear c33b0
                      try clear c34
                      try clear c34b0
                      try clear c36
                      try clear c36b0
                      try clear c37
                      try clear c37b0
                      try clear c38
                      try clear c38b0
                      try clear c39
                      try clear c39b0
                      try clear c39b1
                      try clear c40
                      try clear c41
                      try clear c41b0
                      try clear c41b1
                      try clear c42
                      try clear c43
                      try clear c43b0
                      try clear c43b1
                      try clear c45
                      try clear c45b0
                      try clear c45b1
                      try clear c46
                      try clear c47
                      try clear c48
                      try clear c49
                      try clear c49b0
                      try clear c49b1
                      try clear c50
                      try clear c51
                      try clear c52
                      try clear c53
                      try clear p64
                      try clear c66
                      try clear c66b0
                      try clear c66b1
                      try clear c66b2
                      try clear c70
                      try clear c72
                      try clear c75
                      try clear c75b0
                      try clear c76
                      try clear c77
                      try clear c77b0
                      try clear c77b1
                      try clear c78
                      try clear c78b0
                      try clear c78b1
                      try clear c80
                      try clear c80b0
                      try clear c80b1
                      try clear hx950_0
                      try clear hx951_0
                      try clear hx970_0
                      try clear p2
                      try clear p6
                      try clear p64
                      try clear p9
                      try clear p950
                      try clear p951
                      try clear p970
                      try clear q9
                      try clear q950
                      try clear q951
                      try clear q970
                      obtain ⟨kq, HA, HJ70, HB⟩ := hcut
                      cases kq with
                      | zero => exact absurd HA.out (by simp [laws_FnDefects.j8])
                      | succ kj70 =>
                        have H := HA.out
                        clear HA
                        simp only [laws_FnDefects.j8] at H
                        replace H := Option.bind_eq_some_iff.mp H
                        obtain ⟨t972, A840, H⟩ := H
                        replace H : ((impl_PlacesNeeded.f kj70 t972).bind fun bt975 => ((spec_PlacesNeeded.f kj70 t972).bind fun bt977 => (if (bt975.2 != bt977.2) = true then (laws_FnDefects.j9 kj70 t972 bt975.1 bt975.2 true) else (laws_FnDefects.j9 kj70 t972 bt975.1 bt975.2 (bt975.1 != bt977.1))))) = some r := H
                        have A84 := Aside0.mk A840
                        clear A840
                        replace H := Option.bind_eq_some_iff.mp H
                        obtain ⟨⟨t975, t976⟩, A850, H⟩ := H
                        replace H : ((spec_PlacesNeeded.f kj70 t972).bind fun bt977 => (if (t976 != bt977.2) = true then (laws_FnDefects.j9 kj70 t972 t975 t976 true) else (laws_FnDefects.j9 kj70 t972 t975 t976 (t975 != bt977.1)))) = some r := H
                        have A85 := Aside0.mk A850
                        clear A850
                        replace H := Option.bind_eq_some_iff.mp H
                        obtain ⟨⟨t977, t978⟩, A860, H⟩ := H
                        replace H : (if (t976 != t978) = true then (laws_FnDefects.j9 kj70 t972 t975 t976 true) else (laws_FnDefects.j9 kj70 t972 t975 t976 (t975 != t977))) = some r := H
                        have A86 := Aside0.mk A860
                        clear A860
                        have HC87 := Aside0.mk H
                        clear H
                        go_upto_region 54 with (first | ((with_reducible refine gate_callee (f := 54) rfl ?_); refine goesL_ (some 222) rfl rfl Try.func54 (by kernel_rfl) rfl #[.slice A1 l1.length c1] rfl (by (try simp only [List.map_toArray, List.map_cons, List.map_nil]); first | done | rfl | (simp only [List.length_drop, List.length_take]; rfl)) ?_; (with_reducible refine (spec_DrawPlacesNeeded.calls kj70 _ _ l1 t972 _ ?side1 ?side2 A84.out).mono ?_); (case side1 => repeat (first | exact (Kd.C_below HR1.out HB.out) | (with_reducible refine Kd.C_alloc ?_ _) | (with_reducible refine Kd.C_drewN ?_ _) | (with_reducible refine Kd.C_drew ?_))); (case side2 => exact HC1.out); rintro e w88 ⟨v973, rfl, ho0, hb⟩; refine ⟨_, rfl, ?_⟩; have n0_ := Aside0.mk (Kd.R_lower ho0 (below_size (by repeat (first | (with_reducible first | exact HB.out | apply below_alloc | apply pw_below_drewN | apply below_drew1) | exact HB.out)))); have n1_ := Aside0.mk (below_step (by repeat (first | (with_reducible first | exact HB.out | apply below_alloc | apply pw_below_drewN | apply below_drew1) | exact HB.out)) hb); clear HB; have HO974 := n0_; have HB := n1_; clear n0_ n1_; (try clear hb); (try clear hb2); (try clear hk); (try clear hi); (try clear ho0); obtain ⟨Ao89, co89, eo89⟩ := Kd.R_slice HO974.out; subst eo89) | ((with_reducible refine gate_callee (f := 55) rfl ?_); refine goesL_ (some 225) rfl rfl Try.func55 (by kernel_rfl) rfl #[.slice Ao89 t972.length co89] rfl (by (try simp only [List.map_toArray, List.map_cons, List.map_nil]); first | done | rfl | (simp only [List.length_drop, List.length_take]; rfl)) ?_; (with_reducible refine (impl_PlacesNeeded.calls kj70 _ _ t972 t975 t976 _ ?side1 ?side2 A85.out).mono ?_); (case side1 => repeat (first | exact (Kd.R_reads' HO974.out).2.2 | (with_reducible refine Kd.C_alloc ?_ _) | (with_reducible refine Kd.C_drewN ?_ _) | (with_reducible refine Kd.C_drew ?_))); (case side2 => exact (Kd.R_reads' HO974.out).2.1); rintro e w90 ⟨rfl, hb⟩; refine ⟨_, rfl, ?_⟩; have n0_ := Aside0.mk (Kd.R_below (by (with_reducible repeat (first | apply Kd.R_alloc | apply Kd.R_drewN | apply Kd.R_drew)); exact HO974.out) hb); have n1_ := Aside0.mk (below_step (by repeat (first | (with_reducible first | exact HB.out | apply below_alloc | apply pw_below_drewN | apply below_drew1) | exact HB.out)) hb); clear HO974; clear HB; have HO974 := n0_; have HB := n1_; clear n0_ n1_; (try clear hb); (try clear hb2); (try clear hk); (try clear hi)) | ((with_reducible refine gate_callee (f := 56) rfl ?_); refine goesL_ (some 230) rfl rfl Try.func56 (by kernel_rfl) rfl #[.slice Ao89 t972.length co89] rfl (by (try simp only [List.map_toArray, List.map_cons, List.map_nil]); first | done | rfl | (simp only [List.length_drop, List.length_take]; rfl)) ?_; (with_reducible refine (spec_PlacesNeeded.calls kj70 _ _ t972 t977 t978 _ ?side1 ?side2 A86.out).mono ?_); (case side1 => repeat (first | exact (Kd.R_reads' HO974.out).2.2 | (with_reducible refine Kd.C_alloc ?_ _) | (with_reducible refine Kd.C_drewN ?_ _) | (with_reducible refine Kd.C_drew ?_))); (case side2 => exact (Kd.R_reads' HO974.out).2.1); rintro e w91 ⟨rfl, hb⟩; refine ⟨_, rfl, ?_⟩; have n0_ := Aside0.mk (Kd.R_below (by (with_reducible repeat (first | apply Kd.R_alloc | apply Kd.R_drewN | apply Kd.R_drew)); exact HO974.out) hb); have n1_ := Aside0.mk (below_step (by repeat (first | (with_reducible first | exact HB.out | apply below_alloc | apply pw_below_drewN | apply below_drew1) | exact HB.out)) hb); clear HO974; clear HB; have HO974 := n0_; have HB := n1_; clear n0_ n1_; (try clear hb); (try clear hb2); (try clear hk); (try clear hi)))
                        (try simp only [Act.put, List.setIfInBounds_toArray, List.set_cons_zero, List.set_cons_succ])
                        go_cut [240] (fun v240 wc => ∃ (kq : Nat) (x240_86 : Bool), v240 = .bool x240_86 ∧ Aside0 (laws_FnDefects.j9 kq t972 t975 t976 x240_86 = some r) ∧ Aside0 (kq ≤ kj70) ∧ Aside0 (Kd.R (Kd.int .i64) 3 wc w.heap.size (fun _ => True) (.slice Ao89 t972.length co89) t972) ∧ Aside0 (Below w.heap.size w wc))
                        case first =>
                          have H := HC87.out
                          clear HC87
                          by_cases c92 : (t976 != t978) = true
                          · rw [if_pos c92] at H
                            have c92b0 : (t976 != t978) = true := c92
                            (try (have c92b1 : decide (t976 = t978) = false := by simpa using c92))
                            (try (have c92b2 : (t976 == t978) = false := by simpa using c92))
                            (try (have c92b3 : ¬ (t976 = t978) := by simpa using c92))
                            clear c92
                            (first | rw [c92b0] | (simp only [i64_w, i32_w]; rw [c92b0]) | skip)
                            have H' := Aside0.mk H
                            clear H
                            go_wp2
                            go_meet
                            case rel => exact ⟨_, (true), (by first | rfl | (simp; done) | (simp [*]; done)), H', ⟨by have := HJ9.out; have := HJ26.out; have := HJ61.out; have := HJ70.out; first | omega | exact Nat.le_refl _⟩, ⟨by (with_reducible repeat (first | apply Kd.R_alloc | apply Kd.R_drewN | apply Kd.R_drew)); exact HO974.out⟩, ⟨by repeat (first | (with_reducible first | exact HB.out | apply below_alloc | apply pw_below_drewN | apply below_drew1) | exact HB.out)⟩⟩
                          · rw [if_neg c92] at H
                            have c92b0 : (t976 != t978) = false := by simpa using c92
                            (try (have c92b1 : decide (t976 = t978) = true := by simpa using c92))
                            (try (have c92b2 : (t976 == t978) = true := by simpa using c92))
                            clear c92
                            (first | rw [c92b0] | (simp only [i64_w, i32_w]; rw [c92b0]) | skip)
                            have H' := Aside0.mk H
                            clear H
                            go_wp2
                            go_meet
                            case rel => exact ⟨_, ((t975 != t977)), (by first | rfl | (simp; done) | (simp [*]; done)), H', ⟨by have := HJ9.out; have := HJ26.out; have := HJ61.out; have := HJ70.out; first | omega | exact Nat.le_refl _⟩, ⟨by (with_reducible repeat (first | apply Kd.R_alloc | apply Kd.R_drewN | apply Kd.R_drew)); exact HO974.out⟩, ⟨by repeat (first | (with_reducible first | exact HB.out | apply below_alloc | apply pw_below_drewN | apply below_drew1) | exact HB.out)⟩⟩
                        case rest =>
                          clear HC87
                          try clear c1
                          try clear c2
                          try clear p2
                          try clear c3
                          try clear c4
                          try clear c5
                          try clear c6
                          try clear p6
                          try clear c7
                          try clear c8
                          try clear c9
                          try clear p9
                          try clear q9
                          try clear hx9
                          try clear qi9
                          try clear c10
                          try clear c17
                          try clear c17b0
                          try clear c17b1
                          try clear c17b2
                          try clear c18
                          try clear c18b0
                          try clear c18b1
                          try clear c19
                          try clear c19b0
                          try clear c19b1
                          try clear c19b2
                          try clear c21
                          try clear c26
                          try clear c27
                          try clear c28
                          try clear c29
                          try clear c29b0
                          try clear c30
                          try clear c30b0
                          try clear c31
                          try clear c31b0
                          try clear c32
                          try clear c32b0
                          try clear c33
                          try clear c33b0
                          try clear c34
                          try clear c34b0
                          try clear c36
                          try clear c36b0
                          try clear c37
                          try clear c37b0
                          try clear c38
                          try clear c38b0
                          try clear c39
                          try clear c39b0
                          try clear c39b1
                          try clear c40
                          try clear c41
                          try clear c41b0
                          try clear c41b1
                          try clear c42
                          try clear c43
                          try clear c43b0
                          try clear c43b1
                          try clear c45
                          try clear c45b0
                          try clear c45b1
                          try clear c46
                          try clear c47
                          try clear c48
                          try clear c49
                          try clear c49b0
                          try clear c49b1
                          try clear c50
                          try clear c51
                          try clear c52
                          try clear c53
                          try clear c54
                          try clear c55
                          try clear c56
                          try clear p64
                          try clear c66
                          try clear c66b0
                          try clear c66b1
                          try clear c66b2
                          try clear c70
                          try clear c72
                          try clear c75
                          try clear c75b0
                          try clear c76
                          try clear c77
                          try clear c77b0
                          try clear c77b1
                          try clear c78
                          try clear c78b0
                          try clear c78b1
                          try clear c80
                          try clear c80b0
                          try clear c80b1
                          try clear c92
                          try clear c92b0
                          try clear c92b1
                          try clear c92b2
                          try clear hx950_0
                          try clear hx951_0
                          try clear hx970_0
                          try clear p2
                          try clear p6
                          try clear p64
                          try clear p9
                          try clear p950
                          try clear p951
                          try clear p970
                          try clear q9
                          try clear q950
                          try clear q951
                          try clear q970
                          obtain ⟨kq, x240_86, rfl, HA, HJ86, HO_34, HB⟩ := hcut
                          cases kq with
                          | zero => exact absurd HA.out (by simp [laws_FnDefects.j9])
                          | succ kj86 =>
                            have H := HA.out
                            clear HA
                            simp only [laws_FnDefects.j9] at H
                            by_cases c93 : x240_86 = true
                            · subst c93
                              have H1 : (some false) = some r := by rw [if_pos rfl] at H; exact H
                              clear H
                              have H := H1
                              clear H1
                              obtain rfl := Option.some.inj H
                              go_wp2
                              go_ret
                              exact ⟨by first | rfl | (simp [errW_none, errW_some] <;> rfl) | (simp [*, errW_none, errW_some] <;> rfl), by repeat (first | (with_reducible first | exact HB.out | apply below_alloc | apply pw_below_drewN | apply below_drew1) | exact HB.out)⟩
                            · as_aux_lemma =>
                              replace c93 := Bool.eq_false_iff.mpr c93
                              subst c93
                              have H1 : (if t976 = true then ((impl_DoAllPark.f kj86 t972 t975).bind fun bt979 => (if bt979.2 = true then (laws_FnDefects.j10 kj86 t972 t975 (!bt979.1)) else (laws_FnDefects.j10 kj86 t972 t975 true))) else (some true)) = some r := by rw [if_neg (show ¬ (false = true) by decide)] at H; exact H
                              clear H
                              have H := H1
                              clear H1
                              by_cases c94 : t976 = true
                              · as_aux_lemma =>
                                subst c94
                                have H1 : ((impl_DoAllPark.f kj86 t972 t975).bind fun bt979 => (if bt979.2 = true then (laws_FnDefects.j10 kj86 t972 t975 (!bt979.1)) else (laws_FnDefects.j10 kj86 t972 t975 true))) = some r := by rw [if_pos rfl] at H; exact H
                                clear H
                                have H := H1
                                clear H1
                                replace H := Option.bind_eq_some_iff.mp H
                                obtain ⟨⟨t979, t980⟩, A950, H⟩ := H
                                replace H : (if t980 = true then (laws_FnDefects.j10 kj86 t972 t975 (!t979)) else (laws_FnDefects.j10 kj86 t972 t975 true)) = some r := H
                                have A95 := Aside0.mk A950
                                clear A950
                                have HC96 := Aside0.mk H
                                clear H
                                go_upto_region 58 with (first | ((with_reducible refine gate_callee (f := 57) rfl ?_); refine goesL_ (some 245) rfl rfl Try.func57 (by kernel_rfl) rfl #[.slice Ao89 t972.length co89, .int .i64 t975] rfl (by (try simp only [List.map_toArray, List.map_cons, List.map_nil]); first | done | rfl | (simp only [List.length_drop, List.length_take]; rfl)) ?_; (with_reducible refine (impl_DoAllPark.calls kj86 _ _ t972 t975 t979 t980 _ ?side1 ?side2 A95.out).mono ?_); (case side1 => repeat (first | exact (Kd.R_reads' HO_34.out).2.2 | (with_reducible refine Kd.C_alloc ?_ _) | (with_reducible refine Kd.C_drewN ?_ _) | (with_reducible refine Kd.C_drew ?_))); (case side2 => exact (Kd.R_reads' HO_34.out).2.1); rintro e w97 ⟨rfl, hb⟩; refine ⟨_, rfl, ?_⟩; have n0_ := Aside0.mk (Kd.R_below (by (with_reducible repeat (first | apply Kd.R_alloc | apply Kd.R_drewN | apply Kd.R_drew)); exact HO_34.out) hb); have n1_ := Aside0.mk (below_step (by repeat (first | (with_reducible first | exact HB.out | apply below_alloc | apply pw_below_drewN | apply below_drew1) | exact HB.out)) hb); clear HO_34; clear HB; have HO_34 := n0_; have HB := n1_; clear n0_ n1_; (try clear hb); (try clear hb2); (try clear hk); (try clear hi)))
                                (try simp only [Act.put, List.setIfInBounds_toArray, List.set_cons_zero, List.set_cons_succ])
                                go_cut [253] (fun v253 wc => ∃ (kq : Nat) (x253_95 : Bool), v253 = .bool x253_95 ∧ Aside0 (laws_FnDefects.j10 kq t972 t975 x253_95 = some r) ∧ Aside0 (kq ≤ kj86) ∧ Aside0 (Kd.R (Kd.int .i64) 3 wc w.heap.size (fun _ => True) (.slice Ao89 t972.length co89) t972) ∧ Aside0 (Below w.heap.size w wc))
                                case first =>
                                  have H := HC96.out
                                  clear HC96
                                  by_cases c98 : t980 = true
                                  · subst c98
                                    have H1 : (laws_FnDefects.j10 kj86 t972 t975 (!t979)) = some r := by rw [if_pos rfl] at H; exact H
                                    clear H
                                    have H := H1
                                    clear H1
                                    have H' := Aside0.mk H
                                    clear H
                                    go_wp2
                                    go_meet
                                    case rel => exact ⟨_, (!t979), (by first | rfl | (simp; done) | (simp [*]; done)), H', ⟨by have := HJ9.out; have := HJ26.out; have := HJ61.out; have := HJ70.out; have := HJ86.out; first | omega | exact Nat.le_refl _⟩, ⟨by (with_reducible repeat (first | apply Kd.R_alloc | apply Kd.R_drewN | apply Kd.R_drew)); exact HO_34.out⟩, ⟨by repeat (first | (with_reducible first | exact HB.out | apply below_alloc | apply pw_below_drewN | apply below_drew1) | exact HB.out)⟩⟩
                                  · replace c98 := Bool.eq_false_iff.mpr c98
                                    subst c98
                                    have H1 : (laws_FnDefects.j10 kj86 t972 t975 true) = some r := by rw [if_neg (show ¬ (false = true) by decide)] at H; exact H
                                    clear H
                                    have H := H1
                                    clear H1
                                    have H' := Aside0.mk H
                                    clear H
                                    go_wp2
                                    go_meet
                                    case rel => exact ⟨_, (true), (by first | rfl | (simp; done) | (simp [*]; done)), H', ⟨by have := HJ9.out; have := HJ26.out; have := HJ61.out; have := HJ70.out; have := HJ86.out; first | omega | exact Nat.le_refl _⟩, ⟨by (with_reducible repeat (first | apply Kd.R_alloc | apply Kd.R_drewN | apply Kd.R_drew)); exact HO_34.out⟩, ⟨by repeat (first | (with_reducible first | exact HB.out | apply below_alloc | apply pw_below_drewN | apply below_drew1) | exact HB.out)⟩⟩
                                case rest =>
                                  clear HC96
                                  try clear c1
                                  try clear c2
                                  try clear p2
                                  try clear c3
                                  try clear c4
                                  try clear c5
                                  try clear c6
                                  try clear p6
                                  try clear c7
                                  try clear c8
                                  try clear c9
                                  try clear p9
                                  try clear q9
                                  try clear hx9
                                  try clear qi9
                                  try clear c10
                                  try clear c17
                                  try clear c17b0
                                  try clear c17b1
                                  try clear c17b2
                                  try clear c18
                                  try clear c18b0
                                  try clear c18b1
                                  try clear c19
                                  try clear c19b0
                                  try clear c19b1
                                  try clear c19b2
                                  try clear c21
                                  try clear c26
                                  try clear c27
                                  try clear c28
                                  try clear c29
                                  try clear c29b0
                                  try clear c30
                                  try clear c30b0
                                  try clear c31
                                  try clear c31b0
                                  try clear c32
                                  try clear c32b0
                                  try clear c33
                                  try clear c33b0
                                  try clear c34
                                  try clear c34b0
                                  try clear c36
                                  try clear c36b0
                                  try clear c37
                                  try clear c37b0
                                  try clear c38
                                  try clear c38b0
                                  try clear c39
                                  try clear c39b0
                                  try clear c39b1
                                  try clear c40
                                  try clear c41
                                  try clear c41b0
                                  try clear c41b1
                                  try clear c42
                                  try clear c43
                                  try clear c43b0
                                  try clear c43b1
                                  try clear c45
                                  try clear c45b0
                                  try clear c45b1
                                  try clear c46
                                  try clear c47
                                  try clear c48
                                  try clear c49
                                  try clear c49b0
                                  try clear c49b1
                                  try clear c50
                                  try clear c51
                                  try clear c52
                                  try clear c53
                                  try clear c54
                                  try clear c55
                                  try clear c56
                                  try clear c57
                                  try clear p64
                                  try clear c66
                                  try clear c66b0
                                  try clear c66b1
                                  try clear c66b2
                                  try clear c70
                                  try clear c72
                                  try clear c75
                                  try clear c75b0
                                  try clear c76
                                  try clear c77
                                  try clear c77b0
                                  try clear c77b1
                                  try clear c78
                                  try clear c78b0
                                  try clear c78b1
                                  try clear c80
                                  try clear c80b0
                                  try clear c80b1
                                  try clear c92
                                  try clear c92b0
                                  try clear c92b1
                                  try clear c92b2
                                  try clear c93
                                  try clear c94
                                  try clear p95
                                  try clear q95
                                  try clear hx95
                                  try clear p97
                                  try clear q97
                                  try clear hx97
                                  try clear qi97
                                  try clear c98
                                  try clear hx950_0
                                  try clear hx951_0
                                  try clear hx970_0
                                  try clear p2
                                  try clear p6
                                  try clear p64
                                  try clear p9
                                  try clear p950
                                  try clear p951
                                  try clear p970
                                  try clear q9
                                  try clear q950
                                  try clear q951
                                  try clear q970
                                  obtain ⟨kq, x253_95, rfl, HA, HJ95, HO_34, HB⟩ := hcut
                                  cases kq with
                                  | zero => exact absurd HA.out (by simp [laws_FnDefects.j10])
                                  | succ kj95 =>
                                    have H := HA.out
                                    clear HA
                                    simp only [laws_FnDefects.j10] at H
                                    by_cases c99 : x253_95 = true
                                    · subst c99
                                      have H1 : (some false) = some r := by rw [if_pos rfl] at H; exact H
                                      clear H
                                      have H := H1
                                      clear H1
                                      obtain rfl := Option.some.inj H
                                      go_wp2
                                      go_ret
                                      exact ⟨by first | rfl | (simp [errW_none, errW_some] <;> rfl) | (simp [*, errW_none, errW_some] <;> rfl), by repeat (first | (with_reducible first | exact HB.out | apply below_alloc | apply pw_below_drewN | apply below_drew1) | exact HB.out)⟩
                                    · as_aux_lemma =>
                                      replace c99 := Bool.eq_false_iff.mpr c99
                                      subst c99
                                      have H1 : (if t975 > 1 then ((impl_DoAllPark.f kj95 t972 (wrap64 (t975 - 1))).bind fun bt981 => (if bt981.2 = true then (some (!bt981.1)) else (some true))) else (some true)) = some r := by rw [if_neg (show ¬ (false = true) by decide)] at H; exact H
                                      clear H
                                      have H := H1
                                      clear H1
                                      by_cases c100 : t975 > 1
                                      · rw [if_pos c100] at H
                                        have c100b0 : decide (1 < t975) = true := decide_eq_true c100
                                        clear c100
                                        replace H := Option.bind_eq_some_iff.mp H
                                        obtain ⟨⟨t981, t982⟩, A1010, H⟩ := H
                                        replace H : (if t982 = true then (some (!t981)) else (some true)) = some r := H
                                        have A101 := Aside0.mk A1010
                                        clear A1010
                                        by_cases c102 : t982 = true
                                        · subst c102
                                          have H1 : (some (!t981)) = some r := by rw [if_pos rfl] at H; exact H
                                          clear H
                                          have H := H1
                                          clear H1
                                          obtain rfl := Option.some.inj H
                                          go_wp2_with (first | ((with_reducible refine gate_callee (f := 57) rfl ?_); refine goesL_ (some 260) rfl rfl Try.func57 (by kernel_rfl) rfl #[.slice Ao89 t972.length co89, .int .i64 (wrap64 (t975 - 1))] rfl (by (try simp only [List.map_toArray, List.map_cons, List.map_nil]); first | done | rfl | (simp only [List.length_drop, List.length_take]; rfl)) ?_; (with_reducible refine (impl_DoAllPark.calls kj95 _ _ t972 (wrap64 (t975 - 1)) t981 true _ ?side1 ?side2 A101.out).mono ?_); (case side1 => repeat (first | exact (Kd.R_reads' HO_34.out).2.2 | (with_reducible refine Kd.C_alloc ?_ _) | (with_reducible refine Kd.C_drewN ?_ _) | (with_reducible refine Kd.C_drew ?_))); (case side2 => exact (Kd.R_reads' HO_34.out).2.1); rintro e w103 ⟨rfl, hb⟩; refine ⟨_, rfl, ?_⟩; have n0_ := Aside0.mk (Kd.R_below (by (with_reducible repeat (first | apply Kd.R_alloc | apply Kd.R_drewN | apply Kd.R_drew)); exact HO_34.out) hb); have n1_ := Aside0.mk (below_step (by repeat (first | (with_reducible first | exact HB.out | apply below_alloc | apply pw_below_drewN | apply below_drew1) | exact HB.out)) hb); clear HO_34; clear HB; have HO_34 := n0_; have HB := n1_; clear n0_ n1_; (try clear hb); (try clear hb2); (try clear hk); (try clear hi)))
                                          go_ret
                                          exact ⟨by first | rfl | (simp [errW_none, errW_some] <;> rfl) | (simp [*, errW_none, errW_some] <;> rfl), by repeat (first | (with_reducible first | exact HB.out | apply below_alloc | apply pw_below_drewN | apply below_drew1) | exact HB.out)⟩
                                        · replace c102 := Bool.eq_false_iff.mpr c102
                                          subst c102
                                          have H1 : (some true) = some r := by rw [if_neg (show ¬ (false = true) by decide)] at H; exact H
                                          clear H
                                          have H := H1
                                          clear H1
                                          obtain rfl := Option.some.inj H
                                          go_wp2_with (first | ((with_reducible refine gate_callee (f := 57) rfl ?_); refine goesL_ (some 260) rfl rfl Try.func57 (by kernel_rfl) rfl #[.slice Ao89 t972.length co89, .int .i64 (wrap64 (t975 - 1))] rfl (by (try simp only [List.map_toArray, List.map_cons, List.map_nil]); first | done | rfl | (simp only [List.length_drop, List.length_take]; rfl)) ?_; (with_reducible refine (impl_DoAllPark.calls kj95 _ _ t972 (wrap64 (t975 - 1)) t981 false _ ?side1 ?side2 A101.out).mono ?_); (case side1 => repeat (first | exact (Kd.R_reads' HO_34.out).2.2 | (with_reducible refine Kd.C_alloc ?_ _) | (with_reducible refine Kd.C_drewN ?_ _) | (with_reducible refine Kd.C_drew ?_))); (case side2 => exact (Kd.R_reads' HO_34.out).2.1); rintro e w104 ⟨rfl, hb⟩; refine ⟨_, rfl, ?_⟩; have n0_ := Aside0.mk (Kd.R_below (by (with_reducible repeat (first | apply Kd.R_alloc | apply Kd.R_drewN | apply Kd.R_drew)); exact HO_34.out) hb); have n1_ := Aside0.mk (below_step (by repeat (first | (with_reducible first | exact HB.out | apply below_alloc | apply pw_below_drewN | apply below_drew1) | exact HB.out)) hb); clear HO_34; clear HB; have HO_34 := n0_; have HB := n1_; clear n0_ n1_; (try clear hb); (try clear hb2); (try clear hk); (try clear hi)))
                                          go_ret
                                          exact ⟨by first | rfl | (simp [errW_none, errW_some] <;> rfl) | (simp [*, errW_none, errW_some] <;> rfl), by repeat (first | (with_reducible first | exact HB.out | apply below_alloc | apply pw_below_drewN | apply below_drew1) | exact HB.out)⟩
                                      · rw [if_neg c100] at H
                                        have c100b0 : decide (1 < t975) = false := decide_eq_false c100
                                        clear c100
                                        obtain rfl := Option.some.inj H
                                        go_wp2
                                        go_ret
                                        exact ⟨by first | rfl | (simp [errW_none, errW_some] <;> rfl) | (simp [*, errW_none, errW_some] <;> rfl), by repeat (first | (with_reducible first | exact HB.out | apply below_alloc | apply pw_below_drewN | apply below_drew1) | exact HB.out)⟩
                              · replace c94 := Bool.eq_false_iff.mpr c94
                                subst c94
                                have H1 : (some true) = some r := by rw [if_neg (show ¬ (false = true) by decide)] at H; exact H
                                clear H
                                have H := H1
                                clear H1
                                obtain rfl := Option.some.inj H
                                go_wp2
                                go_ret
                                exact ⟨by first | rfl | (simp [errW_none, errW_some] <;> rfl) | (simp [*, errW_none, errW_some] <;> rfl), by repeat (first | (with_reducible first | exact HB.out | apply below_alloc | apply pw_below_drewN | apply below_drew1) | exact HB.out)⟩

/-- THE ONE PURE STATEMENT of laws_FnDefects: yours. -/
def laws_FnDefects.Pure : Prop := ∀ (l0 : List Int) (l1 : List Int), l0.length ≤ maxLen → l0.length * 1 ≤ 140737488351232 → (∀ x ∈ l0, (Lit.int .u8 x).wf = true) → l1.length ≤ maxLen → l1.length * 1 ≤ 140737488351232 → (∀ x ∈ l1, (Lit.int .u8 x).wf = true) → ∃ k, laws_FnDefects.f k l0 l1 = some true
theorem laws_FnDefects.walk (P : laws_FnDefects.Pure) (a0 : Option Addr) (len0 cap0 : Nat) (z0 : List Int) (a1 : Option Addr) (len1 cap1 : Nat) (z1 : List Int) (w : World) (w0 : (a0 = none ∧ len0 = 0 ∧ cap0 = 0 ∧ z0 = []) ∨ ∃ x, a0 = some x ∧ len0 ≤ cap0 ∧ cap0 ≤ maxLen ∧ z0.length = cap0 ∧ (∀ i, i < z0.length → w.cell? (x.add i) = some (.int .u8 (z0.getD i 0))) ∧ ∀ n ∈ z0, (Lit.int .u8 n).wf = true) (y0 : len0 * 1 ≤ 140737488351232) (w1 : (a1 = none ∧ len1 = 0 ∧ cap1 = 0 ∧ z1 = []) ∨ ∃ x, a1 = some x ∧ len1 ≤ cap1 ∧ cap1 ≤ maxLen ∧ z1.length = cap1 ∧ (∀ i, i < z1.length → w.cell? (x.add i) = some (.int .u8 (z1.getD i 0))) ∧ ∀ n ∈ z1, (Lit.int .u8 n).wf = true) (y1 : len1 * 1 ≤ 140737488351232) :
    Calls Try.prog 10 #[.slice a0 len0 cap0, .slice a1 len1 cap1] w fun e w' => e = .returned (.bool true) ∧ Below w.heap.size w w' := by
  obtain ⟨l0, rfl, hr0, hm0, hw0, hc0⟩ := ReadsInt.ofRowC w0
  obtain ⟨l1, rfl, hr1, hm1, hw1, hc1⟩ := ReadsInt.ofRowC w1
  obtain ⟨k, h⟩ := P l0 l1 hm0 y0 hw0 hm1 y1 hw1
  refine (laws_FnDefects.calls k _ _ l0 _ _ l1 true w (Kd.C_of_reads (d := (0 : Int)) (h1 := fun _ => rfl) hr0) hc0 (Kd.C_of_reads (d := (0 : Int)) (h1 := fun _ => rfl) hr1) hc1 h).mono ?_
  rintro e w' ⟨rfl, hd⟩
  exact ⟨rfl, hd⟩
end Go.Proofs.Ytfclfjengfmjaaa.G
namespace Go.Proofs.Ytfclfjengfmjaaa.G
open Go.RowKit Go.Proofs.YtfclfjengfmjaaaW.PrintWords Go.Proofs.YtfclfjengfmjaaaW.PrintLast Go.Proofs.YtfclfjengfmjaaaW.PrintMore
set_option linter.unusedVariables false
set_option linter.unusedSimpArgs false
theorem wrap_id {x : Int} (h1 : -9223372036854775808 ≤ x) (h2 : x ≤ 9223372036854775807) : wrap64 x = x := by unfold wrap64; omega
theorem wrap_next {i n : Nat} (h : i < n) (hn : n ≤ 4611686018427387904) : wrap64 ((i : Int) + 1) = ((i + 1 : Nat) : Int) := by rw [wrap_id (by omega) (by omega)]; rfl
theorem succ_of {d k : Nat} (h : d < k) : ∃ m, k = m + 1 := ⟨k - 1, by omega⟩
theorem rd_nat (l : List Int) (i : Nat) : rd l (i : Int) = l.getD i 0 := by unfold rd; rw [Int.toNat_natCast]
theorem take_succ_getD {l : List Int} {i : Nat} (h : i < l.length) : l.take (i + 1) = l.take i ++ [l.getD i 0] := by
  rw [List.take_succ_eq_append_getElem h, List.getD_eq_getElem?_getD, List.getElem?_eq_getElem h]; rfl
theorem drop_getD {l : List Int} {i : Nat} (h : i < l.length) : l.drop i = l.getD i 0 :: l.drop (i + 1) := by
  rw [List.drop_eq_getElem_cons h, List.getD_eq_getElem?_getD, List.getElem?_eq_getElem h]; rfl
theorem Ev.of_all {α : Type} {g : Nat → Option α} {r : α} (K : Nat) (h : ∀ k, K < k → g k = some r) : Ev g r := ⟨K + 1, fun k hk => h k (by omega)⟩
/-- A loop that counts up: its state at each count, what is left behind the last one. -/
theorem Ev.up {σ ρ : Type} (n : Nat) (S : Nat → σ) (L : Nat → σ → Int → Option ρ) (r : ρ)
    (hstep : ∀ i, i < n → Ev (fun k => L k (S (i + 1)) ((i + 1 : Nat) : Int)) r → Ev (fun k => L k (S i) (i : Int)) r)
    (hend : Ev (fun k => L k (S n) (n : Int)) r) : ∀ m, m ≤ n → Ev (fun k => L k (S m) (m : Int)) r := by
  intro m hm
  have key : ∀ d m, m + d = n → Ev (fun k => L k (S m) (m : Int)) r := by
    intro d
    induction d with
    | zero => intro m hd; obtain rfl : m = n := by omega
              exact hend
    | succ d ih => intro m hd; exact hstep m (by omega) (ih (m + 1) (by omega))
  exact key (n - m) m (by omega)
theorem Ev.up0 {σ ρ : Type} (n : Nat) (S : Nat → σ) (L : Nat → σ → Int → Option ρ) (r : ρ)
    (hstep : ∀ i, i < n → Ev (fun k => L k (S (i + 1)) ((i + 1 : Nat) : Int)) r → Ev (fun k => L k (S i) (i : Int)) r)
    (hend : Ev (fun k => L k (S n) (n : Int)) r) : Ev (fun k => L k (S 0) 0) r := Ev.up n S L r hstep hend 0 (Nat.zero_le _)
/-- A round that needs no rounds of others. -/
theorem Ev.one {α : Type} {g f : Nat → Option α} {r : α} (k : Ev f r) (h : ∀ k, g (k + 1) = f k) : Ev g r := Ev.step h k
theorem Ev.end_ {α : Type} {g : Nat → Option α} {r : α} (h : ∀ k, g (k + 1) = some r) : Ev g r := Ev.step h (Ev.now r)
theorem Ev.eq {α : Type} {g : Nat → Option α} {r : α} (h : ∀ k, g k = some r) : Ev g r := ⟨0, fun k _ => h k⟩
theorem l1In_eq (a b c : Int) : spec_l1In.f a b c = some (decide (b ≤ a ∧ a ≤ c)) := by
  unfold spec_l1In.f
  split
  · rename_i h; congr 1; rw [Bool.eq_iff_iff]; simp; omega
  · rename_i h; congr 1; rw [Bool.eq_iff_iff]; simp; omega
theorem l1All_l0 (l : List Int) (lo hi : Int) (hn : l.length ≤ 4611686018427387904) : ∀ (d k i : Nat), i + d = l.length → d < k → spec_l1All.l0 k lo hi l (l.length : Int) i = some ((l.drop i).all fun x => decide (lo ≤ x ∧ x ≤ hi)) := by
  intro d
  induction d with
  | zero =>
    intro k i hd hk
    obtain ⟨k, rfl⟩ := succ_of hk
    rw [spec_l1All.l0, if_neg (by omega), List.drop_of_length_le (by omega)]; rfl
  | succ d ih =>
    intro k i hd hk
    obtain ⟨k, rfl⟩ := succ_of hk
    rw [spec_l1All.l0, if_pos (by omega), if_pos (by omega), if_pos (by omega), l1In_eq, Option.bind_some, rd_nat, wrap_next (n := l.length) (by omega) hn, ih k (i + 1) (by omega) (by omega), drop_getD (l := l) (i := i) (by omega), List.all_cons]
    split
    · rename_i h; rw [h, Bool.true_and]
    · rename_i h; rw [Bool.not_eq_true] at h; rw [h, Bool.false_and]
theorem l1All_ev (l : List Int) (lo hi : Int) (hn : l.length ≤ 4611686018427387904) : Ev (fun k => spec_l1All.f k l lo hi) (l.all fun x => decide (lo ≤ x ∧ x ≤ hi)) := by
  refine Ev.of_all l.length fun k hk => ?_
  have := l1All_l0 l lo hi hn l.length k 0 (by omega) hk
  simpa [spec_l1All.f] using this
def Bytes (l : List Int) : Prop := ∀ x ∈ l, 0 ≤ x ∧ x ≤ 255
theorem bytes_of {l : List Int} (h : ∀ x ∈ l, (Lit.int .u8 x).wf = true) : Bytes l := by
  intro x hx
  have h2 := h x hx
  simp only [Lit.wf, Bool.and_eq_true, decide_eq_true_eq] at h2
  have e1 : IntKind.u8.min = 0 := by decide
  have e2 : IntKind.u8.max = 255 := by decide
  rw [e1, e2] at h2
  exact h2
theorem Bytes.get {l : List Int} (h : Bytes l) (j : Nat) : 0 ≤ l.getD j 0 ∧ l.getD j 0 ≤ 255 := by
  rcases Nat.lt_or_ge j l.length with hj | hj
  · exact h _ (by rw [List.getD_eq_getElem?_getD, List.getElem?_eq_getElem hj]; exact List.getElem_mem hj)
  · rw [List.getD_eq_getElem?_getD, List.getElem?_eq_none hj]; simp
theorem and255 (x : Int) : 0 ≤ Go.bits .and .u64 x 255 ∧ Go.bits .and .u64 x 255 ≤ 255 := by
  obtain ⟨a, ha⟩ : ∃ a : BitVec 64, a = BitVec.ofInt 64 x := ⟨_, rfl⟩
  have e : Go.bits .and .u64 x 255 = IntKind.u64.wrap ((BitVec.ofInt 64 x &&& BitVec.ofInt 64 255).toNat : Int) := rfl
  have hle : (BitVec.ofInt 64 x &&& BitVec.ofInt 64 255).toNat ≤ 255 := by
    rw [BitVec.toNat_and]
    exact Nat.le_trans Nat.and_le_right (by decide)
  rw [e, IntKind.wrap_u64]
  omega
theorem next_ok {l : List Int} (hb : Bytes l) (p s : Int) (h0 : 0 ≤ p) (h1 : p ≤ 1000000000000000000) : ∃ v s', spec_l1Cur_next.f l p s = some (v, p + 1, s') ∧ 0 ≤ v ∧ v ≤ 255 := by
  have hw : wrap64 (p + 1) = p + 1 := wrap_id (by omega) (by omega)
  have hr : 0 ≤ rd l p ∧ rd l p ≤ 255 := hb.get _
  unfold spec_l1Cur_next.f
  rw [hw]
  by_cases c1 : p < (l.length : Int)
  · rw [if_pos c1, if_pos h0]
    by_cases c2 : p + 1 ≤ (l.length : Int)
    · rw [if_pos c2]
      exact ⟨_, _, rfl, by rw [wrap_id (by omega) (by omega)]; exact hr⟩
    · omega
  · rw [if_neg c1]
    rw [if_neg (by omega)]
    refine ⟨_, _, rfl, ?_⟩
    have := and255 ((IntKind.u64.wrap ((IntKind.u64.wrap (IntKind.u64.wrap (s * 6364136223846793005))) + 1442695040888963407)) / 1099511627776)
    rw [wrap_id (by omega) (by omega)]
    exact this
theorem tmod_ok {v a : Int} (hv : 0 ≤ v) (ha : 0 < a) : 0 ≤ Int.tmod v a ∧ Int.tmod v a < a := by
  rw [Int.tmod_eq_emod_of_nonneg hv]
  exact ⟨Int.emod_nonneg _ (by omega), Int.emod_lt_of_pos _ ha⟩
theorem pick_ok {l : List Int} (hb : Bytes l) (p s a : Int) (h0 : 0 ≤ p) (h1 : p ≤ 100000000000000000) : ∃ r p' s', spec_l1Cur_pick.f l p s a = some (r, p', s') ∧ 0 ≤ r ∧ (r < a ∨ r = 0) ∧ p ≤ p' ∧ p' ≤ p + 2 := by
  unfold spec_l1Cur_pick.f
  by_cases c1 : a ≤ 1
  · rw [if_pos c1]
    exact ⟨0, p, s, rfl, by omega, Or.inr rfl, by omega, by omega⟩
  · rw [if_neg c1]
    obtain ⟨v, s1, e1, b1, b2⟩ := next_ok hb p s h0 (by omega)
    rw [e1, Option.bind_some]
    by_cases c2 : a > 200
    · rw [if_pos c2]
      obtain ⟨v2, s2, e2, b3, b4⟩ := next_ok hb (p + 1) s1 (by omega) (by omega)
      simp only [e2, Option.bind_some]
      rw [if_neg (by omega)]
      have hw : wrap64 (wrap64 (v * 256) + v2) = v * 256 + v2 := by rw [wrap_id (x := v * 256) (by omega) (by omega), wrap_id (by omega) (by omega)]
      have := tmod_ok (v := v * 256 + v2) (a := a) (by omega) (by omega)
      rw [hw]
      exact ⟨_, _, _, rfl, this.1, Or.inl this.2, by omega, by omega⟩
    · rw [if_neg c2, if_neg (by omega)]
      have := tmod_ok (v := v) (a := a) (by omega) (by omega)
      exact ⟨_, _, _, rfl, this.1, Or.inl this.2, by show p ≤ p + 1; omega, by show p + 1 ≤ p + 2; omega⟩
theorem among_ok {l : List Int} (hb : Bytes l) (p s : Int) (q : List Int) (hq : 0 < q.length) (h0 : 0 ≤ p) (h1 : p ≤ 100000000000000000) : ∃ v p' s', spec_l1Cur_among.f l p s q = some (v, p', s') ∧ p ≤ p' ∧ p' ≤ p + 2 := by
  obtain ⟨r, p', s', e, b1, b2, b3, b4⟩ := pick_ok hb p s (q.length : Int) h0 h1
  unfold spec_l1Cur_among.f
  rw [e, Option.bind_some]
  simp only [b1, if_true]
  rw [if_pos (by omega)]
  exact ⟨_, _, _, rfl, b3, b4⟩
theorem big_eq (a b : List Int) : ∃ r, laws_big.f a b = some r := by
  unfold laws_big.f
  split
  · exact ⟨_, rfl⟩
  · exact ⟨_, rfl⟩
end Go.Proofs.Ytfclfjengfmjaaa.G
namespace ParkT
/-- The first free place among a, a - 1, .., k places back at most. -/
def backF (S : Nat → Bool) : Nat → Nat → Option Nat
  | k, a => if S a = false then some a else match k, a with
    | k + 1, a + 1 => backF S k a
    | _, _ => none
/-- The first free place from a on, of d places. -/
def fwdF (S : Nat → Bool) : Nat → Nat → Option Nat
  | 0, _ => none
  | d + 1, a => if S a = false then some a else fwdF S d (a + 1)
def bplace (N : Nat) (S : Nat → Bool) (k a : Nat) : Option Nat := match backF S k a with
  | some p => some p
  | none => fwdF S (N - a) a
theorem fwdF_some {S : Nat → Bool} : ∀ {d a p : Nat}, fwdF S d a = some p → a ≤ p ∧ p < a + d ∧ S p = false ∧ ∀ q, a ≤ q → q < p → S q = true
  | 0, a, p, h => by simp [fwdF] at h
  | d + 1, a, p, h => by
    unfold fwdF at h
    split at h
    · obtain rfl := Option.some.inj h
      exact ⟨Nat.le_refl _, by omega, ‹_›, fun q h1 h2 => by omega⟩
    · rename_i hs
      obtain ⟨h1, h2, h3, h4⟩ := fwdF_some h
      refine ⟨by omega, by omega, h3, fun q hq1 hq2 => ?_⟩
      rcases Nat.lt_or_ge a q with h5 | h5
      · exact h4 q (by omega) hq2
      · have : q = a := by omega
        rw [this]; simpa using hs
theorem fwdF_none {S : Nat → Bool} : ∀ {d a : Nat}, fwdF S d a = none → ∀ q, a ≤ q → q < a + d → S q = true
  | 0, a, _, q, h1, h2 => by omega
  | d + 1, a, h, q, h1, h2 => by
    unfold fwdF at h
    split at h
    · cases h
    · rename_i hs
      rcases Nat.lt_or_ge a q with h5 | h5
      · exact fwdF_none h q (by omega) (by omega)
      · have : q = a := by omega
        rw [this]; simpa using hs
/-- How many of the places a, .., a + d - 1 are taken. -/
def cnt (S : Nat → Bool) : Nat → Nat → Nat
  | 0, _ => 0
  | d + 1, a => (if S a = true then 1 else 0) + cnt S d (a + 1)
theorem cnt_le (S : Nat → Bool) : ∀ (d a : Nat), cnt S d a ≤ d
  | 0, _ => Nat.le_refl _
  | d + 1, a => by have := cnt_le S d (a + 1); unfold cnt; split <;> omega
theorem cnt_full {S : Nat → Bool} : ∀ (d a : Nat), (∀ q, a ≤ q → q < a + d → S q = true) → cnt S d a = d
  | 0, _, _ => rfl
  | d + 1, a, h => by
    have := cnt_full d (a + 1) (fun q h1 h2 => h q (by omega) (by omega))
    unfold cnt
    rw [if_pos (h a (Nat.le_refl _) (by omega))]; omega
def put (S : Nat → Bool) (p : Nat) : Nat → Bool := fun q => decide (q = p) || S q
theorem cnt_put {S : Nat → Bool} {p : Nat} (hp : S p = false) : ∀ (d a : Nat), cnt (put S p) d a = cnt S d a + if a ≤ p ∧ p < a + d then 1 else 0
  | 0, a => by
    rw [if_neg (by omega)]; rfl
  | d + 1, a => by
    have ih := cnt_put hp d (a + 1)
    unfold cnt
    rw [ih]
    by_cases e : a = p
    · subst e
      have : ¬ (a + 1 ≤ a ∧ a < a + 1 + d) := by omega
      rw [if_neg this, if_pos (show a ≤ a ∧ a < a + (d + 1) by omega)]
      simp [put, hp]; omega
    · have hq : put S p a = S a := by simp [put, e]
      rw [hq]
      by_cases hr : a + 1 ≤ p ∧ p < a + 1 + d
      · rw [if_pos hr, if_pos (show a ≤ p ∧ p < a + (d + 1) by omega)]; omega
      · rw [if_neg hr, if_neg (show ¬ (a ≤ p ∧ p < a + (d + 1)) by omega)]; omega
/-- No more places are taken from any place on. -/
def Dom (N : Nat) (S' S : Nat → Bool) : Prop := ∀ j, j ≤ N → cnt S' (N - j) j ≤ cnt S (N - j) j
theorem Dom.refl (N : Nat) (S : Nat → Bool) : Dom N S S := fun _ _ => Nat.le_refl _
/-- All cars, one behind the other; none where one fails. -/
def driveB (N k : Nat) : (Nat → Bool) → List Nat → Option (List Nat)
  | _, [] => some []
  | S, a :: l => match bplace N S k a with
    | none => none
    | some p => (driveB N k (put S p) l).map (p :: ·)
def driveS (N : Nat) : (Nat → Bool) → List Nat → List (Option Nat)
  | _, [] => []
  | S, a :: l => match fwdF S (N - a) a with
    | none => none :: driveS N S l
    | some p => some p :: driveS N (put S p) l
/-- What is taken in the end. -/
def endS (N : Nat) : (Nat → Bool) → List Nat → (Nat → Bool)
  | S, [] => S
  | S, a :: l => match fwdF S (N - a) a with
    | none => endS N S l
    | some p => endS N (put S p) l
def fails (l : List (Option Nat)) : Nat := (l.filter fun x => x.isNone).length
def from_ (j : Nat) (l : List Nat) : Nat := (l.filter fun x => decide (j ≤ x)).length
theorem endS_keeps (N : Nat) : ∀ (l : List Nat) (S : Nat → Bool) (q : Nat), S q = true → endS N S l q = true
  | [], _, _, h => h
  | a :: l, S, q, h => by
    cases hf : fwdF S (N - a) a with
    | none => simp only [endS, hf]; exact endS_keeps N l S q h
    | some p => simp only [endS, hf]; exact endS_keeps N l _ q (by simp [put, h])
theorem fails_cons_none (l : List (Option Nat)) : fails (none :: l) = fails l + 1 := by simp [fails]
theorem fails_cons_some (p : Nat) (l : List (Option Nat)) : fails (some p :: l) = fails l := by simp [fails]
theorem from_cons (j a : Nat) (l : List Nat) : from_ j (a :: l) = from_ j l + if j ≤ a then 1 else 0 := by
  unfold from_
  rw [List.filter_cons]
  by_cases h : j ≤ a <;> simp [h]
theorem from_le {N : Nat} (j : Nat) (hj : j ≤ N) : ∀ (l : List Nat) (S : Nat → Bool), from_ j l + cnt S (N - j) j ≤ fails (driveS N S l) + cnt (endS N S l) (N - j) j
  | [], S => by simp [from_, driveS, endS, fails]
  | a :: l, S => by
    rw [from_cons]
    cases hp : fwdF S (N - a) a with
    | none =>
      simp only [driveS, endS, hp]
      have := from_le j hj l S
      rw [fails_cons_none]
      split <;> omega
    | some p =>
      simp only [driveS, endS, hp]
      have := from_le j hj l (put S p)
      obtain ⟨h1, h2, h3, h4⟩ := fwdF_some hp
      rw [fails_cons_some]
      rw [cnt_put h3] at this
      by_cases ha : j ≤ a
      · rw [if_pos ha]
        rw [if_pos (by omega)] at this
        omega
      · rw [if_neg ha]
        split at this <;> omega
theorem from_eq {N : Nat} (j : Nat) (hj : j ≤ N) : ∀ (l : List Nat) (S : Nat → Bool), (∀ a ∈ l, a < N) → (j = 0 ∨ endS N S l (j - 1) = false) → from_ j l + cnt S (N - j) j = fails (driveS N S l) + cnt (endS N S l) (N - j) j
  | [], S, _, _ => by simp [from_, driveS, endS, fails]
  | a :: l, S, hl, h0 => by
    have haN := hl a (by simp)
    rw [from_cons]
    cases hf : fwdF S (N - a) a with
    | none =>
      simp only [endS, hf] at h0
      have ih := from_eq j hj l S (fun x hx => hl x (by simp [hx])) h0
      simp only [driveS, endS, hf]
      rw [fails_cons_none]
      have hn := fwdF_none hf
      have : j ≤ a := by
        rcases Nat.lt_or_ge a j with h | h
        · exfalso
          rcases h0 with h1 | h1
          · omega
          · rw [endS_keeps N l S (j - 1) (hn (j - 1) (by omega) (by omega))] at h1; cases h1
        · exact h
      rw [if_pos this]; omega
    | some p =>
      simp only [endS, hf] at h0
      have ih := from_eq j hj l (put S p) (fun x hx => hl x (by simp [hx])) h0
      obtain ⟨h1, h2, h3, h4⟩ := fwdF_some hf
      simp only [driveS, endS, hf]
      rw [fails_cons_some]
      rw [cnt_put h3] at ih
      by_cases ha : j ≤ a
      · rw [if_pos ha]
        rw [if_pos (by omega)] at ih
        omega
      · rw [if_neg ha]
        have : ¬ (j ≤ p) := by
          intro hjp
          rcases h0 with h5 | h5
          · omega
          · have := endS_keeps N l (put S p) (j - 1) (by simp [put, h4 (j - 1) (by omega) (by omega)])
            rw [this] at h5; cases h5
        rw [if_neg (by omega)] at ih
        omega
theorem driveS_fail {N : Nat} : ∀ (l : List Nat) (S : Nat → Bool), (∀ a ∈ l, a < N) → 0 < fails (driveS N S l) → endS N S l (N - 1) = true
  | [], S, _, h => by simp [driveS, fails] at h
  | a :: l, S, hl, h => by
    have haN := hl a (by simp)
    cases hf : fwdF S (N - a) a with
    | none => simp only [endS, hf]; exact endS_keeps N l S _ (fwdF_none hf (N - 1) (by omega) (by omega))
    | some p =>
      simp only [driveS, hf, fails_cons_some] at h
      simp only [endS, hf]
      exact driveS_fail l _ (fun x hx => hl x (by simp [hx])) h
/-- THE DEFECT: as told by the place that is asked for too often. -/
theorem defect_le {N : Nat} (l : List Nat) (j : Nat) (hj : j ≤ N) : from_ j l ≤ fails (driveS N (fun _ => false) l) + (N - j) := by
  have h1 := from_le j hj l (fun _ => false)
  have h2 := cnt_le (endS N (fun _ => false) l) (N - j) j
  omega
theorem defect_at {N : Nat} (l : List Nat) (hl : ∀ a ∈ l, a < N) (h : 0 < fails (driveS N (fun _ => false) l)) : ∃ j, j < N ∧ from_ j l = fails (driveS N (fun _ => false) l) + (N - j) := by
  have hN : 0 < N := by
    cases l with
    | nil => simp [driveS, fails] at h
    | cons a l => have := hl a (by simp); omega
  have hlast := driveS_fail l _ hl h
  generalize hE : endS N (fun _ => false) l = E at hlast
  have ex : ∀ d, d < N → (∀ q, N - 1 - d < q → q < N → E q = true) → ∃ j, j < N ∧ (∀ q, j ≤ q → q < N → E q = true) ∧ (j = 0 ∨ E (j - 1) = false) := by
    intro d hd
    -- go down from N - 1 - d
    have : ∀ (f : Nat) (hf : f < N), (∀ q, f < q → q < N → E q = true) → E f = true → ∃ j, j < N ∧ (∀ q, j ≤ q → q < N → E q = true) ∧ (j = 0 ∨ E (j - 1) = false) := by
      intro f
      induction f with
      | zero => intro hf h1 h2; exact ⟨0, hf, (fun q _ h4 => by
          rcases Nat.eq_zero_or_pos q with h5 | h5
          · rw [h5]; exact h2
          · exact h1 q h5 h4), .inl rfl⟩
      | succ f ih =>
        intro hf h1 h2
        cases hq : E f with
        | true => exact ih (by omega) (fun q h3 h4 => by
            rcases Nat.lt_or_ge (f + 1) q with h5 | h5
            · exact h1 q h5 h4
            · have : q = f + 1 := by omega
              rw [this]; exact h2) hq
        | false => exact ⟨f + 1, hf, (fun q h3 h4 => by
            rcases Nat.lt_or_ge (f + 1) q with h5 | h5
            · exact h1 q h5 h4
            · have : q = f + 1 := by omega
              rw [this]; exact h2), .inr hq⟩
    intro _
    exact this (N - 1) (by omega) (fun q h1 h2 => by omega) hlast
  obtain ⟨j, h1, h2, h3⟩ := ex 0 hN (fun q h1 h2 => by omega)
  refine ⟨j, h1, ?_⟩
  have := from_eq (N := N) j (by omega) l (fun _ => false) hl (by rw [hE]; exact h3)
  rw [hE, cnt_full (S := E) (N - j) j (fun q h4 h5 => h2 q h4 (by omega))] at this
  have hz : cnt (fun _ => false) (N - j) j = 0 := by
    have : ∀ d a, cnt (fun _ => false) d a = 0 := by
      intro d
      induction d with
      | zero => intro a; rfl
      | succ d ih => intro a; unfold cnt; rw [ih]; simp
    exact this _ _
  omega
end ParkT
namespace Go.Proofs.Ytfclfjengfmjaaa.G
open Go.RowKit Go.Proofs.YtfclfjengfmjaaaW.PrintWords Go.Proofs.YtfclfjengfmjaaaW.PrintLast Go.Proofs.YtfclfjengfmjaaaW.PrintMore
set_option linter.unusedVariables false
set_option linter.unusedSimpArgs false
/-- Every car finds a place. -/
def allP (N : Nat) : (Nat → Bool) → List Nat → Bool
  | _, [] => true
  | S, a :: l => match ParkT.fwdF S (N - a) a with
    | none => false
    | some p => allP N (ParkT.put S p) l
def valP : Option Nat → Int
  | none => -1
  | some p => p
theorem allP_iff {N : Nat} : ∀ (l : List Nat) (S : Nat → Bool), allP N S l = !decide ((-1 : Int) ∈ (ParkT.driveS N S l).map valP)
  | [], _ => by simp [allP, ParkT.driveS]
  | a :: l, S => by
    rw [allP, ParkT.driveS]
    cases e : ParkT.fwdF S (N - a) a with
    | none => simp [valP]
    | some p =>
      simp only [List.map_cons, List.mem_cons, valP, allP_iff l]
      congr 1
      have : ¬ ((-1 : Int) = (p : Int)) := by omega
      simp [this]
def occ (x : List Int) (q : Nat) : Bool := decide ((q : Int) ∈ x)
theorem occ_none (x : List Int) : occ (x ++ [-1]) = occ x := by
  funext q
  unfold occ
  have : ¬ ((q : Int) = -1) := by omega
  simp [this]
theorem occ_some (x : List Int) (p : Nat) : occ (x ++ [(p : Int)]) = ParkT.put (occ x) p := by
  funext q
  unfold occ ParkT.put
  have : ((q : Int) = (p : Int)) ↔ q = p := by omega
  simp [this, Bool.or_comm]
theorem l1Has_l0 (x : List Int) (a : Int) (hn : x.length ≤ 4611686018427387904) : ∀ (d i : Nat), i + d = x.length → Ev (fun k => spec_l1Has.l0 k a x (x.length : Int) i) (decide (a ∈ x.drop i)) := by
  intro d
  induction d with
  | zero =>
    intro i hd
    refine Ev.end_ fun k => ?_
    rw [spec_l1Has.l0, if_neg (by omega), List.drop_eq_nil_of_le (by omega)]
    simp
  | succ d ih =>
    intro i hd
    have e1 := drop_getD (l := x) (i := i) (by omega)
    by_cases h : x.getD i 0 = a
    · refine Ev.end_ fun k => ?_
      rw [spec_l1Has.l0, if_pos (by omega), if_pos (by omega), if_pos (by omega), rd_nat, if_pos h, e1, h, decide_eq_true (List.mem_cons_self)]
    · refine Ev.one (f := fun k => spec_l1Has.l0 k a x (x.length : Int) ((i + 1 : Nat) : Int)) ?_ fun k => ?_
      · have := ih (i + 1) (by omega)
        have e : decide (a ∈ x.drop i) = decide (a ∈ x.drop (i + 1)) := by
          rw [e1]
          have : ¬ a = x.getD i 0 := fun e => h e.symm
          simp only [List.mem_cons, this, false_or]
        rw [e]; exact this
      · rw [spec_l1Has.l0, if_pos (by omega), if_pos (by omega), if_pos (by omega), rd_nat, if_neg h, wrap_next (n := x.length) (by omega) hn]
theorem l1Has_ev (x : List Int) (a : Int) (hn : x.length ≤ 4611686018427387904) : Ev (fun k => spec_l1Has.f k x a) (decide (a ∈ x)) := by
  unfold spec_l1Has.f
  have := l1Has_l0 x a hn x.length 0 (by omega)
  simpa using this
theorem paDrive_l1 (N : Nat) (hN : N ≤ 1000) (x l : List Int) (hx : x.length ≤ 1000) (len : Int) (i : Int) (r : List Int) : ∀ (d a : Nat), a + d = N → Ev (fun k => spec_paDrive.l0 k (N : Int) (x ++ [valP (ParkT.fwdF (occ x) d a)]) l len (wrap64 (i + 1))) r → Ev (fun k => spec_paDrive.l1 k (N : Int) x (a : Int) l len i) r := by
  intro d
  induction d with
  | zero =>
    intro a ha h
    refine Ev.one h fun k => ?_
    rw [spec_paDrive.l1, if_neg (by omega), if_pos (by omega), if_pos (by omega)]
    rfl
  | succ d ih =>
    intro a ha h
    rw [ParkT.fwdF] at h
    refine Ev.step (f := fun k => (spec_l1Has.f k x (a : Int)).bind fun t369 => (if t369 = true then (spec_paDrive.l1 k (N : Int) x ((a + 1 : Nat) : Int) l len i) else (spec_paDrive.l0 k (N : Int) (x ++ [(a : Int)]) l len (wrap64 (i + 1))))) (fun k => by rw [spec_paDrive.l1, if_pos (by omega), wrap_next (n := N) (by omega) (by omega), if_neg (show ¬ ((a : Int) ≥ (N : Int)) by omega), if_pos (by omega)]) ?_
    refine Ev.bind (l1Has_ev x _ (by omega)) ?_
    by_cases hh : occ x a = true
    · rw [if_neg (by rw [hh]; simp)] at h
      have e : decide ((a : Int) ∈ x) = true := hh
      simp only [e, if_true]
      exact ih (a + 1) (by omega) h
    · rw [if_pos (by simpa using hh)] at h
      have e : decide ((a : Int) ∈ x) = false := by simpa [occ] using hh
      simp only [e, Bool.false_eq_true, if_false]
      exact h
def natL (l : List Int) : List Nat := l.map Int.toNat
theorem paDrive_l0 (l : List Int) (N : Nat) (hN : N ≤ 1000) (hl : l.length ≤ 900) (hr : ∀ j, j < l.length → 0 ≤ l.getD j 0 ∧ l.getD j 0 ≤ N) : ∀ (d i : Nat) (x : List Int), i + d = l.length → x.length ≤ i → Ev (fun k => spec_paDrive.l0 k (N : Int) x l (l.length : Int) i) (x ++ (ParkT.driveS N (occ x) (natL (l.drop i))).map valP) := by
  intro d
  induction d with
  | zero =>
    intro i x hd hx
    refine Ev.end_ fun k => ?_
    rw [spec_paDrive.l0, if_neg (by omega), List.drop_eq_nil_of_le (by omega)]
    simp [natL, ParkT.driveS]
  | succ d ih =>
    intro i x hd hx
    have hi : i < l.length := by omega
    have hri := hr i hi
    obtain ⟨a, ha⟩ : ∃ a : Nat, l.getD i 0 = a := ⟨(l.getD i 0).toNat, by omega⟩
    refine Ev.one (f := fun k => spec_paDrive.l1 k (N : Int) x (a : Int) l (l.length : Int) (i : Int)) ?_ fun k => by rw [spec_paDrive.l0, if_pos (by omega), if_pos (by omega), if_pos (by omega), rd_nat, ha]
    refine paDrive_l1 N hN x l (by omega) _ _ _ (N - a) a (by omega) ?_
    rw [wrap_next (n := l.length) hi (by omega)]
    have := ih (i + 1) (x ++ [valP (ParkT.fwdF (occ x) (N - a) a)]) (by omega) (by simp; omega)
    have e : x ++ (ParkT.driveS N (occ x) (natL (l.drop i))).map valP = x ++ [valP (ParkT.fwdF (occ x) (N - a) a)] ++ (ParkT.driveS N (occ (x ++ [valP (ParkT.fwdF (occ x) (N - a) a)])) (natL (l.drop (i + 1)))).map valP := by
      rw [drop_getD hi, ha]
      show x ++ (ParkT.driveS N (occ x) ((a : Int).toNat :: natL (l.drop (i + 1)))).map valP = _
      rw [Int.toNat_natCast, ParkT.driveS]
      cases hf : ParkT.fwdF (occ x) (N - a) a with
      | none => simp [valP, occ_none]
      | some p => simp [valP, occ_some]
    rw [e]
    exact this
theorem all_get {l : List Int} {lo hi : Int} (h : (l.all fun x => decide (lo ≤ x ∧ x ≤ hi)) = true) {j : Nat} (hj : j < l.length) : lo ≤ l.getD j 0 ∧ l.getD j 0 ≤ hi := by
  rw [List.all_eq_true] at h
  have := h l[j] (List.getElem_mem hj)
  rw [List.getD_eq_getElem?_getD, List.getElem?_eq_getElem hj]
  simpa using this
def taken (x : List Bool) (q : Nat) : Bool := x.getD q false
theorem drive_l1 (N : Nat) (hN : N ≤ 1000) (x : List Bool) (hx : x.length = N) (o l : List Int) (ho : o.length ≤ 1000) (len i : Int) (r : List Int × Bool) :
    ∀ (d a : Nat), a + d = N → (match ParkT.fwdF (taken x) d a with | none => r = ([], false) | some p => Ev (fun k => impl_drive.l0 k (N : Int) (x.set p true) (o ++ [(p : Int)]) l len (wrap64 (i + 1))) r) → Ev (fun k => impl_drive.l1 k (N : Int) x o (a : Int) l len i) r := by
  intro d
  induction d with
  | zero =>
    intro a ha h
    rw [ParkT.fwdF] at h
    subst h
    exact Ev.end_ fun k => by rw [impl_drive.l1, if_neg (by omega), if_pos (by omega)]
  | succ d ih =>
    intro a ha h
    rw [ParkT.fwdF] at h
    have hrd : rdOf false x (a : Int) = taken x a := by simp [rdOf, taken]
    by_cases hh : taken x a = true
    · rw [if_neg (by rw [hh]; simp)] at h
      refine Ev.one (ih (a + 1) (by omega) h) fun k => ?_
      rw [impl_drive.l1, if_pos (by omega), if_pos (by omega), if_pos (by omega), if_pos (by rw [hrd]; exact hh), wrap_next (n := N) (by omega) (by omega)]
    · rw [if_pos (by simpa using hh)] at h
      simp only at h
      refine Ev.one h fun k => ?_
      rw [impl_drive.l1, if_pos (by omega), if_pos (by omega), if_pos (by omega), if_neg (by rw [hrd]; exact hh), if_neg (by omega), if_pos (by omega), Int.toNat_natCast]
theorem drive_past (N : Nat) (x : List Bool) (o l : List Int) (len i a : Int) (ha : (N : Int) ≤ a) : Ev (fun k => impl_drive.l1 k (N : Int) x o a l len i) (([] : List Int), false) :=
  Ev.end_ fun k => by rw [impl_drive.l1, if_neg (by omega), if_pos (by omega)]
theorem taken_set {x : List Bool} {p : Nat} (hp : p < x.length) : taken (x.set p true) = ParkT.put (taken x) p := by
  funext q
  show (x.set p true).getD q false = (decide (q = p) || x.getD q false)
  rw [List.getD_eq_getElem?_getD, List.getD_eq_getElem?_getD, List.getElem?_set]
  by_cases e : p = q
  · subst e; simp [hp]
  · have : ¬ q = p := fun h => e h.symm
    simp [e, this]
/-- The places, where every car finds one. -/
def outP' (N : Nat) : (Nat → Bool) → List Nat → List Int
  | _, [] => []
  | S, a :: l => match ParkT.fwdF S (N - a) a with
    | none => []
    | some p => (p : Int) :: outP' N (ParkT.put S p) l
theorem drive_l0 (l : List Int) (N : Nat) (hN : N ≤ 1000) (hl : l.length ≤ 900) (hr : ∀ j, j < l.length → 0 ≤ l.getD j 0) : ∀ (d i : Nat) (x : List Bool) (o : List Int), i + d = l.length → x.length = N → o.length ≤ i → Ev (fun k => impl_drive.l0 k (N : Int) x o l (l.length : Int) i) (if allP N (taken x) (natL (l.drop i)) = true then (o ++ outP' N (taken x) (natL (l.drop i)), true) else ([], false)) := by
  intro d
  induction d with
  | zero =>
    intro i x o hd hx ho
    refine Ev.end_ fun k => ?_
    rw [impl_drive.l0, if_neg (by omega), List.drop_eq_nil_of_le (by omega)]
    simp [natL, allP, outP']
  | succ d ih =>
    intro i x o hd hx ho
    have hi : i < l.length := by omega
    have hri := hr i hi
    obtain ⟨a, ha⟩ : ∃ a : Nat, l.getD i 0 = a := ⟨(l.getD i 0).toNat, by omega⟩
    refine Ev.one (f := fun k => impl_drive.l1 k (N : Int) x o (a : Int) l (l.length : Int) (i : Int)) ?_ fun k => by rw [impl_drive.l0, if_pos (by omega), if_pos (by omega), if_pos (by omega), rd_nat, ha]
    have e0 : natL (l.drop i) = a :: natL (l.drop (i + 1)) := by
      rw [drop_getD hi, ha]
      show (a : Int).toNat :: natL (l.drop (i + 1)) = _
      rw [Int.toNat_natCast]
    rw [e0, allP, outP']
    by_cases hlt : a < N
    · refine drive_l1 N hN x hx o l (by omega) _ _ _ (N - a) a (by omega) ?_
      cases hf : ParkT.fwdF (taken x) (N - a) a with
      | none => simp
      | some p =>
        have hp := ParkT.fwdF_some hf
        simp only
        rw [wrap_next (n := l.length) hi (by omega)]
        have := ih (i + 1) (x.set p true) (o ++ [(p : Int)]) (by omega) (by simpa using hx) (by simp; omega)
        rw [taken_set (by omega)] at this
        simpa using this
    · have e1 : N - a = 0 := by omega
      rw [e1, ParkT.fwdF]
      simp only [Bool.false_eq_true, if_false]
      exact drive_past N x o l _ _ _ (by omega)
theorem own_eq (q : List Int) (h : q.length < 17592186044416) : spec_l1Own.f q = some q := by
  unfold spec_l1Own.f
  simp only [Option.bind_some, List.length_nil, Nat.zero_add, h, if_true, List.nil_append]
theorem take_sum' {l : List Int} {q : Nat} (hq : q < l.length) : (l.take (q + 1)).sum = (l.take q).sum + l.getD q 0 := by
  rw [take_succ_getD hq, List.sum_append]; simp
theorem take_range {l : List Int} {B : Int} (hB : 0 ≤ B) (hb : ∀ j, -B ≤ l.getD j 0 ∧ l.getD j 0 ≤ B) : ∀ q, q ≤ l.length → -((q : Int) * B) ≤ (l.take q).sum ∧ (l.take q).sum ≤ (q : Int) * B := by
  intro q
  induction q with
  | zero => intro _; simp
  | succ q ih =>
    intro hq
    have := ih (by omega)
    have := hb q
    rw [take_sum' (by omega)]
    push_cast
    rw [Int.add_mul]
    omega
theorem between_eq (a b c : Int) : impl_between.f a b c = some (decide (b ≤ a ∧ a ≤ c)) := by
  unfold impl_between.f
  by_cases h : a ≥ b
  · rw [if_pos h]; congr 1; simp; omega
  · rw [if_neg h]; congr 1; simp; omega
def inB (l : List Int) (lo hi : Int) : Bool := l.all fun x => decide (lo ≤ x ∧ x ≤ hi)
theorem areBetween_eq (l : List Int) (lo hi : Int) : impl_areBetween.f l lo hi = some (inB l lo hi) := by
  unfold impl_areBetween.f inB
  congr 2
  funext x
  rw [Bool.eq_iff_iff]; simp
theorem inB_get {l : List Int} {lo hi : Int} (h : inB l lo hi = true) {j : Nat} (hj : j < l.length) : lo ≤ l.getD j 0 ∧ l.getD j 0 ≤ hi := by
  unfold inB at h
  rw [List.all_eq_true] at h
  have := h l[j] (List.getElem_mem hj)
  rw [List.getD_eq_getElem?_getD, List.getElem?_eq_getElem hj]
  simpa using this
theorem paDrive_ev (l : List Int) (N : Nat) (hN : N ≤ 1000) (hl : l.length ≤ 900) (hr : ∀ j, j < l.length → 0 ≤ l.getD j 0 ∧ l.getD j 0 ≤ N) : Ev (fun k => spec_paDrive.f k l (N : Int)) ((ParkT.driveS N (fun _ => false) (natL l)).map valP) := by
  unfold spec_paDrive.f
  have := paDrive_l0 l N hN hl hr l.length 0 [] (by omega) (by simp)
  have eo : occ [] = fun _ => false := by funext q; simp [occ]
  rw [eo] at this
  simpa using this
theorem drive_ev (l : List Int) (N : Nat) (hN : N ≤ 1000) (hl : l.length ≤ 900) (hr : ∀ j, j < l.length → 0 ≤ l.getD j 0) : Ev (fun k => impl_drive.f k l (N : Int)) (if allP N (fun _ => false) (natL l) = true then (outP' N (fun _ => false) (natL l), true) else ([], false)) := by
  unfold impl_drive.f
  simp only [show (0 : Int) ≤ (N : Int) by omega, Int.toNat_natCast, show N ≤ 281474976710656 by omega, if_true]
  have := drive_l0 l N hN hl hr l.length 0 (List.replicate N false) [] (by omega) (by simp) (by simp)
  have et : taken (List.replicate N false) = fun _ => false := by
    funext q
    unfold taken
    rw [List.getD_eq_getElem?_getD, List.getElem?_replicate]
    split <;> rfl
  rw [et] at this
  simpa using this
theorem outP'_len {N : Nat} : ∀ (l : List Nat) (S : Nat → Bool), (outP' N S l).length ≤ l.length
  | [], S => by simp [outP']
  | a :: l, S => by
    rw [outP']
    cases e : ParkT.fwdF S (N - a) a with
    | none => simp
    | some p => simp only [List.length_cons]; have := outP'_len l (ParkT.put S p) (N := N); omega
theorem jSame_ev (a : List Int) (hn : a.length ≤ 4611686018427387904) : Ev (fun k => laws_jSame.f k a a) true := by
  unfold laws_jSame.f
  simp only [if_true]
  refine Ev.up0 a.length (fun _ => ()) (fun k _ q => laws_jSame.l0 k a a (a.length : Int) q) true (fun q hq h => Ev.one h fun k => ?_) (Ev.end_ fun k => ?_)
  · rw [laws_jSame.l0, if_pos (by omega), if_pos (by omega), if_pos (by omega), if_pos (by omega), if_pos rfl, wrap_next (n := a.length) hq hn]
  · rw [laws_jSame.l0, if_neg (by omega)]
theorem least_eq (a b : Int) : spec_l1Least.f a b = some (if a < b then a else b) := by
  unfold spec_l1Least.f
  split <;> rfl
theorem taken_none (S : Nat) : taken (List.replicate S false) = fun _ => false := by
  funext q
  unfold taken
  rw [List.getD_eq_getElem?_getD, List.getElem?_replicate]
  split <;> rfl
theorem backF_zero (S : Nat → Bool) (a : Nat) : ParkT.backF S 0 a = if S a = false then some a else none := by
  rw [ParkT.backF.eq_def]
end Go.Proofs.Ytfclfjengfmjaaa.G
namespace Go.Proofs.Ytfclfjengfmjaaa.G
open Go.RowKit Go.Proofs.YtfclfjengfmjaaaW.PrintWords Go.Proofs.YtfclfjengfmjaaaW.PrintLast Go.Proofs.YtfclfjengfmjaaaW.PrintMore
set_option linter.unusedVariables false
set_option linter.unusedSimpArgs false
section
variable (N b : Nat) (l : List Int)
/-- What the program's drive answers. -/
def outB : Option (List Nat) → List Int → List Int × Bool
  | none, _ => ([], false)
  | some L, o => (o ++ L.map fun (p : Nat) => (p : Int), true)
end
end Go.Proofs.Ytfclfjengfmjaaa.G
namespace Go.Proofs.Ytfclfjengfmjaaa.G
set_option linter.unusedVariables false
set_option linter.unusedSimpArgs false
/-- f 0 + .. + f (m - 1) -/
def sumTo (f : Nat → Nat) : Nat → Nat
  | 0 => 0
  | m + 1 => sumTo f m + f m
theorem sumTo_congr {f g : Nat → Nat} : ∀ (m : Nat), (∀ k, k < m → f k = g k) → sumTo f m = sumTo g m
  | 0, _ => rfl
  | m + 1, h => by rw [sumTo, sumTo, sumTo_congr m (fun k hk => h k (by omega)), h m (by omega)]
def b2n (b : Bool) : Nat := if b = true then 1 else 0
end Go.Proofs.Ytfclfjengfmjaaa.G
namespace Go.Proofs.Ytfclfjengfmjaaa.G
open Go.RowKit Go.Proofs.YtfclfjengfmjaaaW.PrintWords Go.Proofs.YtfclfjengfmjaaaW.PrintLast Go.Proofs.YtfclfjengfmjaaaW.PrintMore
set_option linter.unusedVariables false
set_option linter.unusedSimpArgs false
theorem Ev.same {α : Type} {g f : Nat → Option α} {r : α} (h : ∀ k, g k = f k) (e : Ev f r) : Ev g r := by
  have : g = f := funext h
  rw [this]; exact e
def allL (n : Nat) : Nat → List Int → List (List Int)
  | 0, p => [p]
  | d + 1, p => (List.range n).flatMap fun (x : Nat) => allL n d (p ++ [(x : Int)])
theorem flat_len {α : Type} (f : Nat → List α) (M : Nat) (h : ∀ x, (f x).length = M) : ∀ q, ((List.range q).flatMap f).length = q * M
  | 0 => by simp
  | q + 1 => by
    rw [List.range_succ, List.flatMap_append, List.length_append, flat_len f M h q, Nat.add_mul]
    simp [h]
theorem allL_len (n : Nat) : ∀ (d : Nat) (p : List Int), (allL n d p).length = n ^ d
  | 0, p => by simp [allL]
  | d + 1, p => by
    rw [allL, flat_len _ (n ^ d) (fun x => allL_len n d _), Nat.pow_succ, Nat.mul_comm]
theorem flat_succ {α : Type} (f : Nat → List α) (q : Nat) : (List.range (q + 1)).flatMap f = (List.range q).flatMap f ++ f q := by
  rw [List.range_succ, List.flatMap_append]; simp
theorem pow_small {n d : Nat} (hn : n ≤ 5) (hd : d ≤ 5) : n ^ d ≤ 3125 := by
  have h1 : n ^ d ≤ 5 ^ d := Nat.pow_le_pow_left hn d
  have h2 : 5 ^ d ≤ 5 ^ 5 := Nat.pow_le_pow_right (by omega) hd
  have : (5 : Nat) ^ 5 = 3125 := by decide
  omega
theorem loAll_ev (n : Nat) (hn : n ≤ 5) : ∀ (d : Nat) (p : List Int), p.length + d = n → Ev (fun k => spec_loAll.f k p (n : Int)) (allL n d p) := by
  intro d
  induction d with
  | zero =>
    intro p hp
    refine Ev.end_ fun k => ?_
    rw [spec_loAll.f, if_pos (by omega), own_eq p (by omega), Option.bind_some]
    rfl
  | succ d ih =>
    intro p hp
    have hlp : ∀ x, (allL n d (p ++ [((x : Nat) : Int)])).length = n ^ d := fun x => allL_len n d _
    have hM := pow_small hn (show d ≤ 5 by omega)
    have hup := Ev.up0 n (fun q => (List.range q).flatMap fun (x : Nat) => allL n d (p ++ [(x : Int)])) (fun k s q => spec_loAll.l0 k p (n : Int) s q) (allL n (d + 1) p) (fun i hi h => ?_) (Ev.end_ fun k => ?_)
    · refine Ev.one hup fun k => ?_
      rw [spec_loAll.f, if_neg (by omega)]
      rfl
    · refine Ev.step (f := fun k => (spec_loAll.f k (p ++ [(i : Int)]) (n : Int)).bind fun t424 => (if ((List.range i).flatMap fun (x : Nat) => allL n d (p ++ [(x : Int)])).length + t424.length < 5864062014805 then (spec_loAll.l0 k p (n : Int) (((List.range i).flatMap fun (x : Nat) => allL n d (p ++ [(x : Int)])) ++ t424) (wrap64 ((i : Int) + 1))) else none)) (fun k => by
        rw [spec_loAll.l0, if_pos (by omega), own_eq p (by omega), Option.bind_some, if_pos (by omega)]) ?_
      refine Ev.bind (ih (p ++ [(i : Int)]) (by simp; omega)) ?_
      have hb : i * n ^ d ≤ 5 * 3125 := Nat.mul_le_mul (by omega) hM
      rw [wrap_next (n := n) hi (by omega)]
      simp only [show ((List.range i).flatMap fun (x : Nat) => allL n d (p ++ [(x : Int)])).length + (allL n d (p ++ [(i : Int)])).length < 5864062014805 by rw [flat_len _ (n ^ d) hlp, hlp]; omega, if_true]
      rw [flat_succ] at h
      exact h
    · rw [spec_loAll.l0, if_neg (by omega)]
      rfl
theorem digI_front (n : Nat) (hn : 0 < n) (x : Nat) (hx : x < n) : ∀ (m j : Nat), j < n ^ m → digI n (m + 1) (x * n ^ m + j) = (x : Int) :: digI n m j
  | 0, j, hj => by
    rw [Nat.pow_zero] at hj
    obtain rfl : j = 0 := by omega
    simp [digI, Nat.mod_eq_of_lt hx]
  | m + 1, j, hj => by
    have hj2 : j / n < n ^ m := by rw [Nat.div_lt_iff_lt_mul hn]; exact Nat.pow_succ .. ▸ hj
    have e1 : (x * n ^ (m + 1) + j) / n = x * n ^ m + j / n := by
      rw [Nat.pow_succ, ← Nat.mul_assoc, Nat.mul_comm _ n, Nat.mul_add_div hn]
    have e2 : (x * n ^ (m + 1) + j) % n = j % n := by
      rw [Nat.pow_succ, ← Nat.mul_assoc, Nat.mul_comm _ n, Nat.mul_add_mod]
    rw [digI, e1, e2, digI_front n hn x hx m (j / n) hj2, digI]
    rfl
theorem range_mul {α : Type} (f : Nat → α) (M : Nat) : ∀ (n : Nat), (List.range (n * M)).map f = (List.range n).flatMap fun x => (List.range M).map fun j => f (x * M + j)
  | 0 => by simp
  | n + 1 => by
    rw [Nat.add_mul, Nat.one_mul, List.range_add, List.map_append, range_mul f M n, flat_succ, List.map_map]
    rfl
theorem flat_congr {α : Type} (f g : Nat → List α) : ∀ (n : Nat), (∀ x, x < n → f x = g x) → (List.range n).flatMap f = (List.range n).flatMap g
  | 0, _ => rfl
  | n + 1, h => by rw [flat_succ, flat_succ, flat_congr f g n (fun x hx => h x (by omega)), h n (by omega)]
theorem allL_eq (n : Nat) (hn : 0 < n) : ∀ (d : Nat) (p : List Int), allL n d p = (List.range (n ^ d)).map fun j => p ++ digI n d j
  | 0, p => by simp [allL, digI, List.range_succ]
  | d + 1, p => by
    rw [allL, Nat.pow_succ, Nat.mul_comm, range_mul]
    refine flat_congr _ _ n fun x hx => ?_
    rw [allL_eq n hn d]
    refine List.map_congr_left fun j hj => ?_
    rw [digI_front n hn x hx d j (List.mem_range.1 hj)]
    simp
theorem digI_mem (n : Nat) (hn : 0 < n) : ∀ (m q : Nat), ∀ x ∈ digI n m q, 0 ≤ x ∧ x < (n : Int)
  | 0, q, x, h => by simp [digI] at h
  | m + 1, q, x, h => by
    rw [digI] at h
    rcases List.mem_append.1 h with h | h
    · exact digI_mem n hn m _ x h
    · rw [List.mem_singleton] at h
      have := Nat.mod_lt q hn
      omega
theorem digI_get (n : Nat) (hn : 0 < n) (m q : Nat) (j : Nat) (hj : j < (digI n m q).length) : 0 ≤ (digI n m q).getD j 0 ∧ (digI n m q).getD j 0 < (n : Int) := by
  have := digI_mem n hn m q _ (List.getElem_mem hj)
  rw [List.getD_eq_getElem?_getD, List.getElem?_eq_getElem hj]
  exact this
/-- Whether the j-th list parks. -/
def okB (n b j : Nat) : Bool := (ParkT.driveB n b (fun _ => false) (natL (digI n n j))).isSome
def cval (n b j : Nat) : Nat := sumTo (fun i => b2n (okB n b i)) j
theorem outB_ok (o : Option (List Nat)) : (outB o []).2 = o.isSome := by cases o <;> rfl
theorem isTried_eq (a0 : Int) : impl_isTried.f a0 = some (decide (1 ≤ a0 ∧ a0 ≤ 5)) := by unfold impl_isTried.f; rw [between_eq]; rfl
theorem some_l1 (N : Nat) (hN : N ≤ 1000) (x : List Bool) (hx : x.length = N) (o l : List Int) (ho : o.length ≤ 1000) (len i : Int) (r : List Int) :
    ∀ (d a : Nat), a + d = N → (match ParkT.fwdF (taken x) d a with | none => Ev (fun k => impl_driveSome.l0 k (N : Int) x (o ++ [-1]) l len (wrap64 (i + 1))) r | some p => Ev (fun k => impl_driveSome.l0 k (N : Int) (x.set p true) (o ++ [(p : Int)]) l len (wrap64 (i + 1))) r) → Ev (fun k => impl_driveSome.l1 k (N : Int) x o (a : Int) l len i) r := by
  intro d
  induction d with
  | zero =>
    intro a ha h
    rw [ParkT.fwdF] at h
    exact Ev.one h fun k => by rw [impl_driveSome.l1, if_neg (by omega), if_pos (by omega), if_pos (by omega)]
  | succ d ih =>
    intro a ha h
    rw [ParkT.fwdF] at h
    have hrd : rdOf false x (a : Int) = taken x a := by simp [rdOf, taken]
    by_cases hh : taken x a = true
    · rw [if_neg (by rw [hh]; simp)] at h
      refine Ev.one (ih (a + 1) (by omega) h) fun k => ?_
      rw [impl_driveSome.l1, if_pos (by omega), if_pos (by omega), if_pos (by omega), if_pos (by rw [hrd]; exact hh), wrap_next (n := N) (by omega) (by omega)]
    · rw [if_pos (by simpa using hh)] at h
      simp only at h
      refine Ev.one h fun k => ?_
      rw [impl_driveSome.l1, if_pos (by omega), if_pos (by omega), if_pos (by omega), if_neg (by rw [hrd]; exact hh), if_neg (by omega), if_pos (by omega), Int.toNat_natCast]
end Go.Proofs.Ytfclfjengfmjaaa.G
