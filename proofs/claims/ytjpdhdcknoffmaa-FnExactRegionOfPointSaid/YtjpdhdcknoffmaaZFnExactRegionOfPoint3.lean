/- The law FnExactRegionOfPoint: part 3 of the printed functions and the facts on them that its row leans on (merged by this session's slim.py). -/
import Derived.Test.YtjpdhdcknoffmaaZFnExactRegionOfPoint2
namespace Go.Proofs.Ytjpdhdcknoffmaa.G
open Go.RowKit Go.Proofs.YtjpdhdcknoffmaaW.PrintWords Go.Proofs.YtjpdhdcknoffmaaW.PrintLast Go.Proofs.YtjpdhdcknoffmaaW.PrintMore
attribute [local go_sem] max2_int min2_int max_two min_two max_three min_three max_four min_four   -- for this text's walks alone
set_option linter.unusedVariables false
set_option linter.unusedSimpArgs false
/-! ### laws_FnExactRegionOfPoint: function 3 -/
mutual
def laws_FnExactRegionOfPoint.j0 : Nat → List Int → Bool → List Int → Bool → Bool → List Int → List Int → List Int → List Int → Option (Bool)
 | 0, _, _, _, _, _, _, _, _, _ => none
 | k + 1, x0, x4, x5, x7, x37, x208000, x208001, x219000, x219001 => if x37 = true then (some false) else ((laws_toIntS.f k x0).bind fun t220 => ((laws_eqIntS.f k x5 t220).bind fun t223 => (if t223 = true then ((laws_markIntS.f k x5 1).bind fun bt224 => (if bt224.1 < 0 then (laws_FnExactRegionOfPoint.j1 k x0 x4 true x208000 x208001 x219000 x219001) else ((laws_eqRegion.f k x219000 x219001 x208000 x208001).bind fun t226 => (if t226 = true then (laws_FnExactRegionOfPoint.j1 k x0 x4 (x7 != x4) x208000 x208001 x219000 x219001) else (laws_FnExactRegionOfPoint.j1 k x0 x4 true x208000 x208001 x219000 x219001))))) else (some false))))
def laws_FnExactRegionOfPoint.j1 : Nat → List Int → Bool → Bool → List Int → List Int → List Int → List Int → Option (Bool)
 | 0, _, _, _, _, _, _, _ => none
 | k + 1, x0, x4, x58, x208000, x208001, x219000, x219001 => if x58 = true then (some false) else ((laws_markRegion.f k x219000 x219001 1).bind fun bt227 => ((laws_heldRegion.f k bt227.2.1 bt227.2.2 1).bind fun t230 => (if t230 < 0 then (some false) else (if t230 = bt227.1 then ((laws_toIntS.f k x0).bind fun t231 => ((impl_RegionOfPoint.f t231).bind fun bt234 => ((laws_eqRegion.f k bt234.1 bt234.2.1 x208000 x208001).bind fun t242 => (if t242 = true then (laws_FnExactRegionOfPoint.j2 k bt227.1 (bt234.2.2 != x4) bt227.2.1 bt227.2.2) else (laws_FnExactRegionOfPoint.j2 k bt227.1 true bt227.2.1 bt227.2.2))))) else (some false)))))
def laws_FnExactRegionOfPoint.j2 : Nat → Int → Bool → List Int → List Int → Option (Bool)
 | 0, _, _, _, _ => none
 | k + 1, x9, x84, x219000, x219001 => if x84 = true then (some false) else ((laws_heldRegion.f k x219000 x219001 1).bind fun t243 => (if t243 < 0 then (some false) else (if t243 = x9 then (some true) else (some false))))
end
def laws_FnExactRegionOfPoint.f (k : Nat) (l0 : List Int) : Option (Bool) := if (l0.length : Int) > 1048576 then (some true) else ((laws_toIntS.f k l0).bind fun t197 => ((spec_RegionOfPoint.f k t197).bind fun bt200 => ((laws_toIntS.f k l0).bind fun t208 => ((impl_RegionOfPoint.f t208).bind fun bt211 => ((laws_eqRegion.f k bt211.1 bt211.2.1 bt200.1 bt200.2.1).bind fun t219 => (if t219 = true then (laws_FnExactRegionOfPoint.j0 k l0 bt200.2.2 t208 bt211.2.2 (bt211.2.2 != bt200.2.2) bt200.1 bt200.2.1 bt211.1 bt211.2.1) else (laws_FnExactRegionOfPoint.j0 k l0 bt200.2.2 t208 bt211.2.2 true bt200.1 bt200.2.1 bt211.1 bt211.2.1)))))))
theorem laws_FnExactRegionOfPoint.mono_l : ∀ k, (∀ y0 y1 y2 y3 y4 y5 y6 y7 y8, LeO (laws_FnExactRegionOfPoint.j0 k y0 y1 y2 y3 y4 y5 y6 y7 y8) (laws_FnExactRegionOfPoint.j0 (k + 1) y0 y1 y2 y3 y4 y5 y6 y7 y8)) ∧ (∀ y0 y1 y2 y3 y4 y5 y6, LeO (laws_FnExactRegionOfPoint.j1 k y0 y1 y2 y3 y4 y5 y6) (laws_FnExactRegionOfPoint.j1 (k + 1) y0 y1 y2 y3 y4 y5 y6)) ∧ (∀ y0 y1 y2 y3, LeO (laws_FnExactRegionOfPoint.j2 k y0 y1 y2 y3) (laws_FnExactRegionOfPoint.j2 (k + 1) y0 y1 y2 y3))
 | 0 => ⟨fun _ _ _ _ _ _ _ _ _ r h => by simp [laws_FnExactRegionOfPoint.j0] at h, fun _ _ _ _ _ _ _ r h => by simp [laws_FnExactRegionOfPoint.j1] at h, fun _ _ _ _ r h => by simp [laws_FnExactRegionOfPoint.j2] at h⟩
 | k + 1 => by
  obtain ⟨ih0, ih1, ih2⟩ := laws_FnExactRegionOfPoint.mono_l k
  refine ⟨?_, ?_, ?_⟩
  ·intro y0 y1 y2 y3 y4 y5 y6 y7 y8
   unfold laws_FnExactRegionOfPoint.j0
   repeat' first
   | (with_reducible exact ih0 _ _ _ _ _ _ _ _ _)
   | (with_reducible exact ih1 _ _ _ _ _ _ _)
   | (with_reducible exact ih2 _ _ _ _)
   | (with_reducible exact laws_eqIntS.mono _ _ _)
   | (with_reducible exact laws_eqRegion.mono _ _ _ _ _)
   | (with_reducible exact laws_heldRegion.mono _ _ _ _)
   | (with_reducible exact laws_markIntS.mono _ _ _)
   | (with_reducible exact laws_markRegion.mono _ _ _ _)
   | (with_reducible exact laws_toIntS.mono _ _)
   | (with_reducible exact spec_RegionOfPoint.mono _ _)
   | (with_reducible exact LeO.refl _)
   | (with_reducible exact LeO.none _)
   | (with_reducible refine LeO.ite ?_ ?_)
   | (with_reducible refine LeO.bind ?_ (fun _ => ?_))
   | exact ih0 _ _ _ _ _ _ _ _ _
   | exact ih1 _ _ _ _ _ _ _
   | exact ih2 _ _ _ _
   | exact laws_eqIntS.mono _ _ _
   | exact laws_eqRegion.mono _ _ _ _ _
   | exact laws_heldRegion.mono _ _ _ _
   | exact laws_markIntS.mono _ _ _
   | exact laws_markRegion.mono _ _ _ _
   | exact laws_toIntS.mono _ _
   | exact spec_RegionOfPoint.mono _ _
   | exact LeO.none _
   | refine LeO.ite ?_ ?_
   | refine LeO.bind ?_ (fun _ => ?_)
  ·intro y0 y1 y2 y3 y4 y5 y6
   unfold laws_FnExactRegionOfPoint.j1
   repeat' first
   | (with_reducible exact ih0 _ _ _ _ _ _ _ _ _)
   | (with_reducible exact ih1 _ _ _ _ _ _ _)
   | (with_reducible exact ih2 _ _ _ _)
   | (with_reducible exact laws_eqIntS.mono _ _ _)
   | (with_reducible exact laws_eqRegion.mono _ _ _ _ _)
   | (with_reducible exact laws_heldRegion.mono _ _ _ _)
   | (with_reducible exact laws_markIntS.mono _ _ _)
   | (with_reducible exact laws_markRegion.mono _ _ _ _)
   | (with_reducible exact laws_toIntS.mono _ _)
   | (with_reducible exact spec_RegionOfPoint.mono _ _)
   | (with_reducible exact LeO.refl _)
   | (with_reducible exact LeO.none _)
   | (with_reducible refine LeO.ite ?_ ?_)
   | (with_reducible refine LeO.bind ?_ (fun _ => ?_))
   | exact ih0 _ _ _ _ _ _ _ _ _
   | exact ih1 _ _ _ _ _ _ _
   | exact ih2 _ _ _ _
   | exact laws_eqIntS.mono _ _ _
   | exact laws_eqRegion.mono _ _ _ _ _
   | exact laws_heldRegion.mono _ _ _ _
   | exact laws_markIntS.mono _ _ _
   | exact laws_markRegion.mono _ _ _ _
   | exact laws_toIntS.mono _ _
   | exact spec_RegionOfPoint.mono _ _
   | exact LeO.none _
   | refine LeO.ite ?_ ?_
   | refine LeO.bind ?_ (fun _ => ?_)
  ·intro y0 y1 y2 y3
   unfold laws_FnExactRegionOfPoint.j2
   repeat' first
   | (with_reducible exact ih0 _ _ _ _ _ _ _ _ _)
   | (with_reducible exact ih1 _ _ _ _ _ _ _)
   | (with_reducible exact ih2 _ _ _ _)
   | (with_reducible exact laws_eqIntS.mono _ _ _)
   | (with_reducible exact laws_eqRegion.mono _ _ _ _ _)
   | (with_reducible exact laws_heldRegion.mono _ _ _ _)
   | (with_reducible exact laws_markIntS.mono _ _ _)
   | (with_reducible exact laws_markRegion.mono _ _ _ _)
   | (with_reducible exact laws_toIntS.mono _ _)
   | (with_reducible exact spec_RegionOfPoint.mono _ _)
   | (with_reducible exact LeO.refl _)
   | (with_reducible exact LeO.none _)
   | (with_reducible refine LeO.ite ?_ ?_)
   | (with_reducible refine LeO.bind ?_ (fun _ => ?_))
   | exact ih0 _ _ _ _ _ _ _ _ _
   | exact ih1 _ _ _ _ _ _ _
   | exact ih2 _ _ _ _
   | exact laws_eqIntS.mono _ _ _
   | exact laws_eqRegion.mono _ _ _ _ _
   | exact laws_heldRegion.mono _ _ _ _
   | exact laws_markIntS.mono _ _ _
   | exact laws_markRegion.mono _ _ _ _
   | exact laws_toIntS.mono _ _
   | exact spec_RegionOfPoint.mono _ _
   | exact LeO.none _
   | refine LeO.ite ?_ ?_
   | refine LeO.bind ?_ (fun _ => ?_)
theorem laws_FnExactRegionOfPoint.mono : ∀ a0 k, LeO (laws_FnExactRegionOfPoint.f k a0) (laws_FnExactRegionOfPoint.f (k + 1) a0) := by
 intro a0 k
 obtain ⟨ih0, ih1, ih2⟩ := laws_FnExactRegionOfPoint.mono_l k
 unfold laws_FnExactRegionOfPoint.f
 repeat' first
   | (with_reducible exact ih0 _ _ _ _ _ _ _ _ _)
   | (with_reducible exact ih1 _ _ _ _ _ _ _)
   | (with_reducible exact ih2 _ _ _ _)
   | (with_reducible exact laws_eqIntS.mono _ _ _)
   | (with_reducible exact laws_eqRegion.mono _ _ _ _ _)
   | (with_reducible exact laws_heldRegion.mono _ _ _ _)
   | (with_reducible exact laws_markIntS.mono _ _ _)
   | (with_reducible exact laws_markRegion.mono _ _ _ _)
   | (with_reducible exact laws_toIntS.mono _ _)
   | (with_reducible exact spec_RegionOfPoint.mono _ _)
   | (with_reducible exact LeO.refl _)
   | (with_reducible exact LeO.none _)
   | (with_reducible refine LeO.ite ?_ ?_)
   | (with_reducible refine LeO.bind ?_ (fun _ => ?_))
   | exact ih0 _ _ _ _ _ _ _ _ _
   | exact ih1 _ _ _ _ _ _ _
   | exact ih2 _ _ _ _
   | exact laws_eqIntS.mono _ _ _
   | exact laws_eqRegion.mono _ _ _ _ _
   | exact laws_heldRegion.mono _ _ _ _
   | exact laws_markIntS.mono _ _ _
   | exact laws_markRegion.mono _ _ _ _
   | exact laws_toIntS.mono _ _
   | exact spec_RegionOfPoint.mono _ _
   | exact LeO.none _
   | refine LeO.ite ?_ ?_
   | refine LeO.bind ?_ (fun _ => ?_)
set_option maxHeartbeats 8000000 in
set_option maxRecDepth 100000 in
theorem laws_FnExactRegionOfPoint.calls (k : Nat) (A0 : Option Addr) (c0 : Nat) (l0 : List Int) (r : Bool) (w : World) (hr0 : Kd.C (Kd.int .i64) w A0 l0.length l0) (hc0 : l0.length ≤ c0) (h : laws_FnExactRegionOfPoint.f k l0 = some r) :
  Calls Try.prog 3 #[.slice A0 l0.length c0] w fun e w' => e = .returned (.bool r) ∧ Below w.heap.size w w' := by
 have hu24 := Try.underlying24
 have HR0 := aS_ hr0
 have HC0 := aS_ hc0
 clear hr0 hc0
 have HB := aS_ (Below.refl w.heap.size w)
 have H : (if (l0.length : Int) > 1048576 then (some true) else ((laws_toIntS.f k l0).bind fun t197 => ((spec_RegionOfPoint.f k t197).bind fun bt200 => ((laws_toIntS.f k l0).bind fun t208 => ((impl_RegionOfPoint.f t208).bind fun bt211 => ((laws_eqRegion.f k bt211.1 bt211.2.1 bt200.1 bt200.2.1).bind fun t219 => (if t219 = true then (laws_FnExactRegionOfPoint.j0 k l0 bt200.2.2 t208 bt211.2.2 (bt211.2.2 != bt200.2.2) bt200.1 bt200.2.1 bt211.1 bt211.2.1) else (laws_FnExactRegionOfPoint.j0 k l0 bt200.2.2 t208 bt211.2.2 true bt200.1 bt200.2.1 bt211.1 bt211.2.1)))))))) = some r := h
 clear h
 by_cases c2 : (l0.length : Int) > 1048576
 ·rw [if_pos c2] at H
  have c2b0 : decide (1048576 < (l0.length : Int)) = true := decide_eq_true c2
  have c2b1 : decide (1048576 < l0.length) = true := decide_eq_true (by omega)
  clear c2
  obtain rfl := Option.some.inj H
  go_enter Try.func3, Try.ntmps3
  go_wp2
  go_ret
  exact ⟨by first | rfl | (simp [errW_none, errW_some] <;> rfl) | (simp [*, errW_none, errW_some] <;> rfl), by repeat (first | (with_reducible first | exact HB.out | apply bA_ | apply pN_ | apply bD_) | exact HB.out)⟩
 ·rw [if_neg c2] at H
  have c2b0 : decide (1048576 < (l0.length : Int)) = false := decide_eq_false c2
  have c2b1 : decide (1048576 < l0.length) = false := decide_eq_false (by omega)
  clear c2
  replace H := Option.bind_eq_some_iff.mp H
  obtain ⟨t197, A30, H⟩ := H
  have A3 := aS_ A30
  clear A30
  replace H := Option.bind_eq_some_iff.mp H
  obtain ⟨⟨t200, t203, t206⟩, A40, H⟩ := H
  have A4 := aS_ A40
  clear A40
  replace H := Option.bind_eq_some_iff.mp H
  obtain ⟨t208, A50, H⟩ := H
  have A5 := aS_ A50
  clear A50
  replace H := Option.bind_eq_some_iff.mp H
  obtain ⟨⟨t211, t214, t217⟩, A60, H⟩ := H
  have A6 := aS_ A60
  clear A60
  have HC7 := aS_ H
  clear H
  go_enter Try.func3, Try.ntmps3
  go_upto_region 6 with (first | ((with_reducible refine gate_callee (f := 5) rfl ?_); refine goesL_ (some 18) rfl rfl Try.func5 (by kernel_rfl) rfl #[.slice A0 l0.length c0] rfl (by (try simp only [List.map_toArray, List.map_cons, List.map_nil]); first | done | rfl | (simp only [List.length_drop, List.length_take]; rfl)) ?_; (with_reducible refine (laws_toIntS.calls k _ _ l0 t197 _ ?side1 ?side2 A3.out).mono ?_); (case side1 => repeat (first | exact HR0.out | (with_reducible refine Kd.C_alloc ?_ _) | (with_reducible refine Kd.C_drewN ?_ _) | (with_reducible refine Kd.C_drew ?_))); (case side2 => exact HC0.out); rintro e w8 ⟨v198, rfl, ho0, hb⟩; refine ⟨_, rfl, ?_⟩; have n0_ := aS_ (Kd.R_lower ho0 (below_size (by repeat (first | (with_reducible first | exact HB.out | apply bA_ | apply pN_ | apply bD_) | exact HB.out)))); have n1_ := aS_ (below_step (by repeat (first | (with_reducible first | exact HB.out | apply bA_ | apply pN_ | apply bD_) | exact HB.out)) hb); clear HB; have HO199 := n0_; have HB := n1_; clear n0_ n1_; (try clear hb); (try clear hb2); (try clear hk); (try clear hi); (try clear ho0); obtain ⟨Ao9, co9, eo9⟩ := Kd.R_slice HO199.out; subst eo9) | ((with_reducible refine gate_callee (f := 4) rfl ?_); refine goesL_ (some 19) rfl rfl Try.func4 (by kernel_rfl) rfl #[.slice Ao9 t197.length co9] rfl (by (try simp only [List.map_toArray, List.map_cons, List.map_nil]); first | done | rfl | (simp only [List.length_drop, List.length_take]; rfl)) ?_; (with_reducible refine (spec_RegionOfPoint.calls k _ _ t197 t200 t203 t206 _ ?side1 ?side2 A4.out).mono ?_); (case side1 => repeat (first | exact (Kd.R_reads' HO199.out).2.2 | (with_reducible refine Kd.C_alloc ?_ _) | (with_reducible refine Kd.C_drewN ?_ _) | (with_reducible refine Kd.C_drew ?_))); (case side2 => exact (Kd.R_reads' HO199.out).2.1); rintro e w10 ⟨v201, v204, rfl, ho0, ho1, hb⟩; refine ⟨_, rfl, ?_⟩; have n0_ := aS_ (Kd.R_mono (Kd.R_told (Kd.R_told (Kd.R_old (by (with_reducible repeat (first | apply rA_ | apply rN_ | apply rD_)); exact HO199.out) hb) (Kd.R_base ho0)) (Kd.R_base ho1)) (fun _ h_ => h_.1)); have n1_ := aS_ (Kd.R_lower (Kd.R_new' ho0 (Kd.R_lt (by (with_reducible repeat (first | apply rA_ | apply rN_ | apply rD_)); exact HO199.out))) (below_size (by repeat (first | (with_reducible first | exact HB.out | apply bA_ | apply pN_ | apply bD_) | exact HB.out)))); have n2_ := aS_ (Kd.R_lower (Kd.R_new' ho1 (Kd.R_lt (by (with_reducible repeat (first | apply rA_ | apply rN_ | apply rD_)); exact HO199.out))) (below_size (by repeat (first | (with_reducible first | exact HB.out | apply bA_ | apply pN_ | apply bD_) | exact HB.out)))); have n3_ := aS_ (below_step (by repeat (first | (with_reducible first | exact HB.out | apply bA_ | apply pN_ | apply bD_) | exact HB.out)) hb); clear HO199; clear HB; have HO199 := n0_; have HO202 := n1_; have HO205 := n2_; have HB := n3_; clear n0_ n1_ n2_ n3_; (try clear hb); (try clear hb2); (try clear hk); (try clear hi); (try clear ho0); (try clear ho1)) | ((with_reducible refine gate_dst (N := 3) rfl ?_); refine box_event ?hg (N := 3) ?hd (cs := #[.slice none 0 0, .slice none 0 0]) (t := 24) ?hr ?_; (case hd => rfl); (case hg => rfl); (case hr => first | (go_simp; done) | (go_simp; rfl)); intro gb207 hg w11 hbox hb; have n0_ := aS_ (Kd.R_below (by (with_reducible repeat (first | apply rA_ | apply rN_ | apply rD_)); exact HO199.out) hb); have n1_ := aS_ (Kd.R_below (by (with_reducible repeat (first | apply rA_ | apply rN_ | apply rD_)); exact HO202.out) hb); have n2_ := aS_ (Kd.R_below (by (with_reducible repeat (first | apply rA_ | apply rN_ | apply rD_)); exact HO205.out) hb); have n3_ := aS_ (below_step (by repeat (first | (with_reducible first | exact HB.out | apply bA_ | apply pN_ | apply bD_) | exact HB.out)) hb); have n4_ := aS_ (hbox); have n5_ := aS_ ((by rw [hg]; exact (below_size (by repeat (first | (with_reducible first | exact HB.out | apply bA_ | apply pN_ | apply bD_) | exact HB.out))) : w.heap.size ≤ gb207)); have n6_ := aS_ ((by rw [hg]; exact (below_size (by repeat (first | (with_reducible first | exact HB.out | apply bA_ | apply pN_ | apply bD_) | exact HB.out))) : w.heap.size ≤ gb207)); clear HO199; clear HO202; clear HO205; clear HB; have HO199 := n0_; have HO202 := n1_; have HO205 := n2_; have HB := n3_; have BK207 := n4_; have GW207 := n5_; have GE207 := n6_; clear n0_ n1_ n2_ n3_ n4_ n5_ n6_; clear hb hbox hg; obtain ⟨Ao12, co12, eo12⟩ := Kd.R_slice HO202.out; subst eo12; have hcz13_0 : w11.cell? ⟨gb207, 0, none⟩ = some (.slice none 0 0) := (blk_cell BK207.out 0).trans rfl; have hcz13_1 : w11.cell? ⟨gb207, 1, none⟩ = some (.slice none 0 0) := (blk_cell BK207.out 1).trans rfl; have hfz13_0 := blk_frozen BK207.out 0; have hfz13_1 := blk_frozen BK207.out 1; obtain ⟨Ao14, co14, eo14⟩ := Kd.R_slice HO205.out; subst eo14) | ((with_reducible refine gate_callee (f := 5) rfl ?_); refine goesL_ (some 23) rfl rfl Try.func5 (by kernel_rfl) rfl #[.slice A0 l0.length c0] rfl (by (try simp only [List.map_toArray, List.map_cons, List.map_nil]); first | done | rfl | (simp only [List.length_drop, List.length_take]; rfl)) ?_; (with_reducible refine (laws_toIntS.calls k _ _ l0 t208 _ ?side1 ?side2 A5.out).mono ?_); (case side1 => exact Kd.C_below HR0.out (by repeat (first | (with_reducible first | exact HB.out | apply bA_ | apply pN_ | apply bD_ | refine bS_ ?_ GE207.out) | exact HB.out))); (case side2 => exact HC0.out); rintro e w15 ⟨v209, rfl, ho0, hb⟩; refine ⟨_, rfl, ?_⟩; have n0_ := aS_ (Kd.R_elder' (by (with_reducible repeat (first | apply rA_ | apply rN_ | apply rD_)); exact (Kd.R_mono (Kd.R_far (p := ⟨gb207, 1, none⟩) (Kd.R_far (p := ⟨gb207, 0, none⟩) (Kd.R_types HO199.out BK207.out (by decide)) (fun _ hk => hk.2) (.slice Ao12 t200.length co12)) (fun _ hk => hk.2) (.slice Ao14 t203.length co14)) (fun _ h_ => h_.1))) (Kd.R_base ho0) hb); have n1_ := aS_ (Kd.R_elder' (by (with_reducible repeat (first | apply rA_ | apply rN_ | apply rD_)); exact (Kd.R_mono (Kd.R_far (p := ⟨gb207, 1, none⟩) (Kd.R_far (p := ⟨gb207, 0, none⟩) (Kd.R_types HO202.out BK207.out (by decide)) (fun _ hk => hk.2) (.slice Ao12 t200.length co12)) (fun _ hk => hk.2) (.slice Ao14 t203.length co14)) (fun _ h_ => h_.1))) (Kd.R_base ho0) hb); have n2_ := aS_ (Kd.R_elder' (by (with_reducible repeat (first | apply rA_ | apply rN_ | apply rD_)); exact (Kd.R_mono (Kd.R_far (p := ⟨gb207, 1, none⟩) (Kd.R_far (p := ⟨gb207, 0, none⟩) (Kd.R_types HO205.out BK207.out (by decide)) (fun _ hk => hk.2) (.slice Ao12 t200.length co12)) (fun _ hk => hk.2) (.slice Ao14 t203.length co14)) (fun _ h_ => h_.1))) (Kd.R_base ho0) hb); have n3_ := aS_ (Kd.R_lower (Kd.R_new' (Kd.R_new' (Kd.R_new' ho0 (Kd.R_lt (by (with_reducible repeat (first | apply rA_ | apply rN_ | apply rD_)); exact (Kd.R_mono (Kd.R_far (p := ⟨gb207, 1, none⟩) (Kd.R_far (p := ⟨gb207, 0, none⟩) (Kd.R_types HO199.out BK207.out (by decide)) (fun _ hk => hk.2) (.slice Ao12 t200.length co12)) (fun _ hk => hk.2) (.slice Ao14 t203.length co14)) (fun _ h_ => h_.1))))) (Kd.R_lt (by (with_reducible repeat (first | apply rA_ | apply rN_ | apply rD_)); exact (Kd.R_mono (Kd.R_far (p := ⟨gb207, 1, none⟩) (Kd.R_far (p := ⟨gb207, 0, none⟩) (Kd.R_types HO202.out BK207.out (by decide)) (fun _ hk => hk.2) (.slice Ao12 t200.length co12)) (fun _ hk => hk.2) (.slice Ao14 t203.length co14)) (fun _ h_ => h_.1))))) (Kd.R_lt (by (with_reducible repeat (first | apply rA_ | apply rN_ | apply rD_)); exact (Kd.R_mono (Kd.R_far (p := ⟨gb207, 1, none⟩) (Kd.R_far (p := ⟨gb207, 0, none⟩) (Kd.R_types HO205.out BK207.out (by decide)) (fun _ hk => hk.2) (.slice Ao12 t200.length co12)) (fun _ hk => hk.2) (.slice Ao14 t203.length co14)) (fun _ h_ => h_.1))))) (below_size (by repeat (first | (with_reducible first | exact HB.out | apply bA_ | apply pN_ | apply bD_ | refine bS_ ?_ GE207.out) | exact HB.out)))); have n4_ := aS_ (blk_below (g := gb207) (o := .cells #[.slice Ao12 t200.length co12, .slice Ao14 t203.length co14] 24 (0, 0)) (by (with_reducible repeat (first | refine kN_ ?_ _ | refine kD_ ?_ | refine kA_ ?_ _)); refine blk_put (cs := #[.slice Ao12 t200.length co12, .slice none 0 0]) ?_ 1 _ rfl; (with_reducible repeat (first | refine kN_ ?_ _ | refine kD_ ?_ | refine kA_ ?_ _)); refine blk_put (cs := #[.slice none 0 0, .slice none 0 0]) ?_ 0 _ rfl; (with_reducible repeat (first | refine kN_ ?_ _ | refine kD_ ?_ | refine kA_ ?_ _)); exact BK207.out) hb); have n5_ := aS_ (below_step (by repeat (first | (with_reducible first | exact HB.out | apply bA_ | apply pN_ | apply bD_ | refine bS_ ?_ GE207.out) | exact HB.out)) hb); clear HO199; clear HO202; clear HO205; clear BK207; clear HB; have HO199 := n0_; have HO202 := n1_; have HO205 := n2_; have HO210 := n3_; have BK207 := n4_; have HB := n5_; clear n0_ n1_ n2_ n3_ n4_ n5_; (try clear hb); (try clear hb2); (try clear hk); (try clear hi); (try clear ho0); obtain ⟨Ao16, co16, eo16⟩ := Kd.R_slice HO210.out; subst eo16) | ((with_reducible refine gate_callee (f := 6) rfl ?_); refine goesL_ (some 26) rfl rfl Try.func6 (by kernel_rfl) rfl #[.slice Ao16 t208.length co16] rfl (by (try simp only [List.map_toArray, List.map_cons, List.map_nil]); first | done | rfl | (simp only [List.length_drop, List.length_take]; rfl)) ?_; (with_reducible refine (impl_RegionOfPoint.calls _ _ t208 t211 t214 t217 _ ?side1 ?side2 A6.out).mono ?_); (case side1 => repeat (first | exact (Kd.R_reads' HO210.out).2.2 | (with_reducible refine Kd.C_alloc ?_ _) | (with_reducible refine Kd.C_drewN ?_ _) | (with_reducible refine Kd.C_drew ?_))); (case side2 => exact (Kd.R_reads' HO210.out).2.1); rintro e w17 ⟨v212, v215, rfl, ho0, ho1, hb⟩; refine ⟨_, rfl, ?_⟩; have n0_ := aS_ (Kd.R_mono (Kd.R_told (Kd.R_told (Kd.R_old (by (with_reducible repeat (first | apply rA_ | apply rN_ | apply rD_)); exact HO199.out) hb) (Kd.R_base ho0)) (Kd.R_base ho1)) (fun _ h_ => h_.1)); have n1_ := aS_ (Kd.R_mono (Kd.R_told (Kd.R_told (Kd.R_old (by (with_reducible repeat (first | apply rA_ | apply rN_ | apply rD_)); exact HO202.out) hb) (Kd.R_base ho0)) (Kd.R_base ho1)) (fun _ h_ => h_.1)); have n2_ := aS_ (Kd.R_mono (Kd.R_told (Kd.R_told (Kd.R_old (by (with_reducible repeat (first | apply rA_ | apply rN_ | apply rD_)); exact HO205.out) hb) (Kd.R_base ho0)) (Kd.R_base ho1)) (fun _ h_ => h_.1)); have n3_ := aS_ (Kd.R_mono (Kd.R_told (Kd.R_told (Kd.R_old (by (with_reducible repeat (first | apply rA_ | apply rN_ | apply rD_)); exact HO210.out) hb) (Kd.R_base ho0)) (Kd.R_base ho1)) (fun _ h_ => h_.1)); have n4_ := aS_ (Kd.R_lower (Kd.R_new' (Kd.R_new' (Kd.R_new' (Kd.R_new' ho0 (Kd.R_lt (by (with_reducible repeat (first | apply rA_ | apply rN_ | apply rD_)); exact HO199.out))) (Kd.R_lt (by (with_reducible repeat (first | apply rA_ | apply rN_ | apply rD_)); exact HO202.out))) (Kd.R_lt (by (with_reducible repeat (first | apply rA_ | apply rN_ | apply rD_)); exact HO205.out))) (Kd.R_lt (by (with_reducible repeat (first | apply rA_ | apply rN_ | apply rD_)); exact HO210.out))) (below_size (by repeat (first | (with_reducible first | exact HB.out | apply bA_ | apply pN_ | apply bD_ | refine bS_ ?_ GE207.out) | exact HB.out)))); have n5_ := aS_ (Kd.R_lower (Kd.R_new' (Kd.R_new' (Kd.R_new' (Kd.R_new' ho1 (Kd.R_lt (by (with_reducible repeat (first | apply rA_ | apply rN_ | apply rD_)); exact HO199.out))) (Kd.R_lt (by (with_reducible repeat (first | apply rA_ | apply rN_ | apply rD_)); exact HO202.out))) (Kd.R_lt (by (with_reducible repeat (first | apply rA_ | apply rN_ | apply rD_)); exact HO205.out))) (Kd.R_lt (by (with_reducible repeat (first | apply rA_ | apply rN_ | apply rD_)); exact HO210.out))) (below_size (by repeat (first | (with_reducible first | exact HB.out | apply bA_ | apply pN_ | apply bD_ | refine bS_ ?_ GE207.out) | exact HB.out)))); have n6_ := aS_ (blk_below (g := gb207) (o := .cells #[.slice Ao12 t200.length co12, .slice Ao14 t203.length co14] 24 (0, 0)) (by (with_reducible repeat (first | refine kN_ ?_ _ | refine kD_ ?_ | refine kA_ ?_ _)); exact BK207.out) hb); have n7_ := aS_ (below_step (by repeat (first | (with_reducible first | exact HB.out | apply bA_ | apply pN_ | apply bD_ | refine bS_ ?_ GE207.out) | exact HB.out)) hb); clear HO199; clear HO202; clear HO205; clear HO210; clear BK207; clear HB; have HO199 := n0_; have HO202 := n1_; have HO205 := n2_; have HO210 := n3_; have HO213 := n4_; have HO216 := n5_; have BK207 := n6_; have HB := n7_; clear n0_ n1_ n2_ n3_ n4_ n5_ n6_ n7_; (try clear hb); (try clear hb2); (try clear hk); (try clear hi); (try clear ho0); (try clear ho1)) | ((with_reducible refine gate_dst (N := 6) rfl ?_); refine box_event ?hg (N := 6) ?hd (cs := #[.slice none 0 0, .slice none 0 0]) (t := 24) ?hr ?_; (case hd => rfl); (case hg => rfl); (case hr => first | (go_simp; done) | (go_simp; rfl)); intro gb218 hg w18 hbox hb; have n0_ := aS_ (Kd.R_below (by (with_reducible repeat (first | apply rA_ | apply rN_ | apply rD_)); exact HO199.out) hb); have n1_ := aS_ (Kd.R_below (by (with_reducible repeat (first | apply rA_ | apply rN_ | apply rD_)); exact HO202.out) hb); have n2_ := aS_ (Kd.R_below (by (with_reducible repeat (first | apply rA_ | apply rN_ | apply rD_)); exact HO205.out) hb); have n3_ := aS_ (Kd.R_below (by (with_reducible repeat (first | apply rA_ | apply rN_ | apply rD_)); exact HO210.out) hb); have n4_ := aS_ (Kd.R_below (by (with_reducible repeat (first | apply rA_ | apply rN_ | apply rD_)); exact HO213.out) hb); have n5_ := aS_ (Kd.R_below (by (with_reducible repeat (first | apply rA_ | apply rN_ | apply rD_)); exact HO216.out) hb); have n6_ := aS_ (blk_below (g := gb207) (o := .cells #[.slice Ao12 t200.length co12, .slice Ao14 t203.length co14] 24 (0, 0)) (by (with_reducible repeat (first | refine kN_ ?_ _ | refine kD_ ?_ | refine kA_ ?_ _)); exact BK207.out) hb); have n7_ := aS_ (below_step (by repeat (first | (with_reducible first | exact HB.out | apply bA_ | apply pN_ | apply bD_ | refine bS_ ?_ GE207.out) | exact HB.out)) hb); have n8_ := aS_ (hbox); have n9_ := aS_ ((by rw [hg]; exact (below_size (by repeat (first | (with_reducible first | exact HB.out | apply bA_ | apply pN_ | apply bD_ | refine bS_ ?_ GE207.out) | exact HB.out))) : w.heap.size ≤ gb218)); have n10_ := aS_ ((by rw [hg]; exact (below_size (by repeat (first | (with_reducible first | exact HB.out | apply bA_ | apply pN_ | apply bD_ | refine bS_ ?_ GE207.out) | exact HB.out))) : w.heap.size ≤ gb218)); have n11_ := aS_ ((by rw [hg]; exact Nat.ne_of_lt (blk_lt (g := gb207) (o := .cells #[.slice Ao12 t200.length co12, .slice Ao14 t203.length co14] 24 (0, 0)) (by (with_reducible repeat (first | refine kN_ ?_ _ | refine kD_ ?_ | refine kA_ ?_ _)); exact BK207.out)) : gb207 ≠ gb218)); have n12_ := aS_ ((by rw [hg]; exact Nat.ne_of_gt (blk_lt (g := gb207) (o := .cells #[.slice Ao12 t200.length co12, .slice Ao14 t203.length co14] 24 (0, 0)) (by (with_reducible repeat (first | refine kN_ ?_ _ | refine kD_ ?_ | refine kA_ ?_ _)); exact BK207.out)) : gb218 ≠ gb207)); clear HO199; clear HO202; clear HO205; clear HO210; clear HO213; clear HO216; clear BK207; clear HB; have HO199 := n0_; have HO202 := n1_; have HO205 := n2_; have HO210 := n3_; have HO213 := n4_; have HO216 := n5_; have BK207 := n6_; have HB := n7_; have BK218 := n8_; have GW218 := n9_; have GE218 := n10_; have NB207_218 := n11_; have NB218_207 := n12_; clear n0_ n1_ n2_ n3_ n4_ n5_ n6_ n7_ n8_ n9_ n10_ n11_ n12_; clear hb hbox hg; obtain ⟨Ao19, co19, eo19⟩ := Kd.R_slice HO213.out; subst eo19; have hnb20 := NB218_207.out; have hnc20 := NB207_218.out; have hcz21_0 : w18.cell? ⟨gb218, 0, none⟩ = some (.slice none 0 0) := (blk_cell BK218.out 0).trans rfl; have hcz21_1 : w18.cell? ⟨gb218, 1, none⟩ = some (.slice none 0 0) := (blk_cell BK218.out 1).trans rfl; have hfz21_0 := blk_frozen BK218.out 0; have hfz21_1 := blk_frozen BK218.out 1; obtain ⟨Ao22, co22, eo22⟩ := Kd.R_slice HO216.out; subst eo22))
  (try simp only [Act.put, List.setIfInBounds_toArray, List.set_cons_zero, List.set_cons_succ])
  go_cut [37] (fun v37 wc => ∃ (kq : Nat) (x37_6 : Bool), v37 = .bool x37_6 ∧ Aside0 (laws_FnExactRegionOfPoint.j0 kq l0 t206 t208 t217 x37_6 t200 t203 t211 t214 = some r) ∧ Aside0 (kq ≤ k) ∧ Aside0 (Kd.R (Kd.int .i64) 3 wc w.heap.size (fun k_ => some k_ ≠ ((.slice Ao12 t200.length co12) : Value).ownBlock ∧ some k_ ≠ ((.slice Ao14 t203.length co14) : Value).ownBlock ∧ some k_ ≠ ((.slice Ao19 t211.length co19) : Value).ownBlock ∧ some k_ ≠ ((.slice Ao22 t214.length co22) : Value).ownBlock) (.slice Ao16 t208.length co16) t208) ∧ Aside0 (Kd.R (Kd.int .i64) 3 wc w.heap.size (fun k_ => some k_ ≠ ((.slice Ao16 t208.length co16) : Value).ownBlock ∧ some k_ ≠ ((.slice Ao14 t203.length co14) : Value).ownBlock ∧ some k_ ≠ ((.slice Ao19 t211.length co19) : Value).ownBlock ∧ some k_ ≠ ((.slice Ao22 t214.length co22) : Value).ownBlock) (.slice Ao12 t200.length co12) t200) ∧ Aside0 (Kd.R (Kd.int .i64) 3 wc w.heap.size (fun k_ => some k_ ≠ ((.slice Ao16 t208.length co16) : Value).ownBlock ∧ some k_ ≠ ((.slice Ao12 t200.length co12) : Value).ownBlock ∧ some k_ ≠ ((.slice Ao19 t211.length co19) : Value).ownBlock ∧ some k_ ≠ ((.slice Ao22 t214.length co22) : Value).ownBlock) (.slice Ao14 t203.length co14) t203) ∧ Aside0 (Kd.R (Kd.int .i64) 3 wc w.heap.size (fun k_ => some k_ ≠ ((.slice Ao16 t208.length co16) : Value).ownBlock ∧ some k_ ≠ ((.slice Ao12 t200.length co12) : Value).ownBlock ∧ some k_ ≠ ((.slice Ao14 t203.length co14) : Value).ownBlock ∧ some k_ ≠ ((.slice Ao22 t214.length co22) : Value).ownBlock) (.slice Ao19 t211.length co19) t211) ∧ Aside0 (Kd.R (Kd.int .i64) 3 wc w.heap.size (fun k_ => some k_ ≠ ((.slice Ao16 t208.length co16) : Value).ownBlock ∧ some k_ ≠ ((.slice Ao12 t200.length co12) : Value).ownBlock ∧ some k_ ≠ ((.slice Ao14 t203.length co14) : Value).ownBlock ∧ some k_ ≠ ((.slice Ao19 t211.length co19) : Value).ownBlock) (.slice Ao22 t214.length co22) t214) ∧ Aside0 (wc.heap[gb207]? = some (.cells #[(.slice Ao12 t200.length co12), (.slice Ao14 t203.length co14)] 24 (0, 0))) ∧ Aside0 (wc.heap[gb218]? = some (.cells #[(.slice Ao19 t211.length co19), (.slice Ao22 t214.length co22)] 24 (0, 0))) ∧ Aside0 (Below w.heap.size w wc))
  case first =>
   have H := HC7.out
   clear HC7
   replace H := Option.bind_eq_some_iff.mp H
   obtain ⟨t219, A230, H⟩ := H
   have A23 := aS_ A230
   clear A230
   by_cases c24 : t219 = true
   ·subst c24
    rw [if_pos rfl] at H
    have H' := aS_ H
    clear H
    have hnb25 := NB218_207.out
    have hnc25 := NB207_218.out
    have hcz26_0 : w18.cell? ⟨gb218, 0, none⟩ = some (.slice none 0 0) := (blk_cell BK218.out 0).trans rfl
    have hcz26_1 : w18.cell? ⟨gb218, 1, none⟩ = some (.slice none 0 0) := (blk_cell BK218.out 1).trans rfl
    have hfz26_0 := blk_frozen BK218.out 0
    have hfz26_1 := blk_frozen BK218.out 1
    have hcz27_0 : w18.cell? ⟨gb207, 0, none⟩ = some (.slice Ao12 t200.length co12) := (blk_cell BK207.out 0).trans rfl
    have hcz27_1 : w18.cell? ⟨gb207, 1, none⟩ = some (.slice Ao14 t203.length co14) := (blk_cell BK207.out 1).trans rfl
    have hfz27_0 := blk_frozen BK207.out 0
    have hfz27_1 := blk_frozen BK207.out 1
    go_wp2_with (first | ((with_reducible refine gate_callee (f := 7) rfl ?_); refine goesL_ (some 31) rfl rfl Try.func7 (by kernel_rfl) rfl #[.agg #[.slice Ao19 t211.length co19, .slice Ao22 t214.length co22], .agg #[.slice Ao12 t200.length co12, .slice Ao14 t203.length co14]] rfl (by (try simp only [List.map_toArray, List.map_cons, List.map_nil]); first | done | rfl | (simp only [List.length_drop, List.length_take]; rfl)) ?_; (with_reducible refine (laws_eqRegion.calls k _ _ t211 _ _ t214 _ _ t200 _ _ t203 true _ ?side1 ?side2 ?side3 ?side4 ?side5 ?side6 ?side7 ?side8 A23.out).mono ?_); (case side1 => refine (Kd.R_reads' (e := 3) (base := w.heap.size) (ok := fun k_ => ((((some k_ ≠ (.slice Ao22 t214.length co22 : Value).ownBlock ∧ some k_ ≠ (.slice Ao9 t197.length co9 : Value).ownBlock) ∧ some k_ ≠ (.slice Ao12 t200.length co12 : Value).ownBlock) ∧ some k_ ≠ (.slice Ao14 t203.length co14 : Value).ownBlock) ∧ some k_ ≠ (.slice Ao16 t208.length co16 : Value).ownBlock)) (n := t211.length) (c := co19) ?_).2.2; exact (by (with_reducible repeat (first | apply rA_ | apply rN_ | apply rD_)); exact (Kd.R_mono (Kd.R_far (p := ⟨gb218, 1, none⟩) (Kd.R_far (p := ⟨gb218, 0, none⟩) (Kd.R_types HO213.out BK218.out (by decide)) (fun _ hk => hk.2) (.slice Ao19 t211.length co19)) (fun _ hk => hk.2) (.slice Ao22 t214.length co22)) (fun _ h_ => h_.1)))); (case side2 => exact (Kd.R_reads' HO213.out).2.1); (case side3 => refine (Kd.R_reads' (e := 3) (base := w.heap.size) (ok := fun k_ => ((((some k_ ≠ (.slice Ao19 t211.length co19 : Value).ownBlock ∧ some k_ ≠ (.slice Ao9 t197.length co9 : Value).ownBlock) ∧ some k_ ≠ (.slice Ao12 t200.length co12 : Value).ownBlock) ∧ some k_ ≠ (.slice Ao14 t203.length co14 : Value).ownBlock) ∧ some k_ ≠ (.slice Ao16 t208.length co16 : Value).ownBlock)) (n := t214.length) (c := co22) ?_).2.2; exact (by (with_reducible repeat (first | apply rA_ | apply rN_ | apply rD_)); exact (Kd.R_mono (Kd.R_far (p := ⟨gb218, 1, none⟩) (Kd.R_far (p := ⟨gb218, 0, none⟩) (Kd.R_types HO216.out BK218.out (by decide)) (fun _ hk => hk.2) (.slice Ao19 t211.length co19)) (fun _ hk => hk.2) (.slice Ao22 t214.length co22)) (fun _ h_ => h_.1)))); (case side4 => exact (Kd.R_reads' HO216.out).2.1); (case side5 => refine (Kd.R_reads' (e := 3) (base := w.heap.size) (ok := fun k_ => ((((some k_ ≠ (.slice Ao14 t203.length co14 : Value).ownBlock ∧ some k_ ≠ (.slice Ao9 t197.length co9 : Value).ownBlock) ∧ some k_ ≠ (.slice Ao16 t208.length co16 : Value).ownBlock) ∧ some k_ ≠ (.slice Ao19 t211.length co19 : Value).ownBlock) ∧ some k_ ≠ (.slice Ao22 t214.length co22 : Value).ownBlock)) (n := t200.length) (c := co12) ?_).2.2; exact (by (with_reducible repeat (first | apply rA_ | apply rN_ | apply rD_)); exact (Kd.R_mono (Kd.R_far (p := ⟨gb218, 1, none⟩) (Kd.R_far (p := ⟨gb218, 0, none⟩) (Kd.R_types HO202.out BK218.out (by decide)) (fun _ hk => hk.2) (.slice Ao19 t211.length co19)) (fun _ hk => hk.2) (.slice Ao22 t214.length co22)) (fun _ h_ => h_.1)))); (case side6 => exact (Kd.R_reads' HO202.out).2.1); (case side7 => refine (Kd.R_reads' (e := 3) (base := w.heap.size) (ok := fun k_ => ((((some k_ ≠ (.slice Ao12 t200.length co12 : Value).ownBlock ∧ some k_ ≠ (.slice Ao9 t197.length co9 : Value).ownBlock) ∧ some k_ ≠ (.slice Ao16 t208.length co16 : Value).ownBlock) ∧ some k_ ≠ (.slice Ao19 t211.length co19 : Value).ownBlock) ∧ some k_ ≠ (.slice Ao22 t214.length co22 : Value).ownBlock)) (n := t203.length) (c := co14) ?_).2.2; exact (by (with_reducible repeat (first | apply rA_ | apply rN_ | apply rD_)); exact (Kd.R_mono (Kd.R_far (p := ⟨gb218, 1, none⟩) (Kd.R_far (p := ⟨gb218, 0, none⟩) (Kd.R_types HO205.out BK218.out (by decide)) (fun _ hk => hk.2) (.slice Ao19 t211.length co19)) (fun _ hk => hk.2) (.slice Ao22 t214.length co22)) (fun _ h_ => h_.1)))); (case side8 => exact (Kd.R_reads' HO205.out).2.1); rintro e w28 ⟨rfl, hb⟩; refine ⟨_, rfl, ?_⟩; have n0_ := aS_ (Kd.R_below (by (with_reducible repeat (first | apply rA_ | apply rN_ | apply rD_)); exact (Kd.R_mono (Kd.R_far (p := ⟨gb218, 1, none⟩) (Kd.R_far (p := ⟨gb218, 0, none⟩) (Kd.R_types HO199.out BK218.out (by decide)) (fun _ hk => hk.2) (.slice Ao19 t211.length co19)) (fun _ hk => hk.2) (.slice Ao22 t214.length co22)) (fun _ h_ => h_.1))) hb); have n1_ := aS_ (Kd.R_below (by (with_reducible repeat (first | apply rA_ | apply rN_ | apply rD_)); exact (Kd.R_mono (Kd.R_far (p := ⟨gb218, 1, none⟩) (Kd.R_far (p := ⟨gb218, 0, none⟩) (Kd.R_types HO202.out BK218.out (by decide)) (fun _ hk => hk.2) (.slice Ao19 t211.length co19)) (fun _ hk => hk.2) (.slice Ao22 t214.length co22)) (fun _ h_ => h_.1))) hb); have n2_ := aS_ (Kd.R_below (by (with_reducible repeat (first | apply rA_ | apply rN_ | apply rD_)); exact (Kd.R_mono (Kd.R_far (p := ⟨gb218, 1, none⟩) (Kd.R_far (p := ⟨gb218, 0, none⟩) (Kd.R_types HO205.out BK218.out (by decide)) (fun _ hk => hk.2) (.slice Ao19 t211.length co19)) (fun _ hk => hk.2) (.slice Ao22 t214.length co22)) (fun _ h_ => h_.1))) hb); have n3_ := aS_ (Kd.R_below (by (with_reducible repeat (first | apply rA_ | apply rN_ | apply rD_)); exact (Kd.R_mono (Kd.R_far (p := ⟨gb218, 1, none⟩) (Kd.R_far (p := ⟨gb218, 0, none⟩) (Kd.R_types HO210.out BK218.out (by decide)) (fun _ hk => hk.2) (.slice Ao19 t211.length co19)) (fun _ hk => hk.2) (.slice Ao22 t214.length co22)) (fun _ h_ => h_.1))) hb); have n4_ := aS_ (Kd.R_below (by (with_reducible repeat (first | apply rA_ | apply rN_ | apply rD_)); exact (Kd.R_mono (Kd.R_far (p := ⟨gb218, 1, none⟩) (Kd.R_far (p := ⟨gb218, 0, none⟩) (Kd.R_types HO213.out BK218.out (by decide)) (fun _ hk => hk.2) (.slice Ao19 t211.length co19)) (fun _ hk => hk.2) (.slice Ao22 t214.length co22)) (fun _ h_ => h_.1))) hb); have n5_ := aS_ (Kd.R_below (by (with_reducible repeat (first | apply rA_ | apply rN_ | apply rD_)); exact (Kd.R_mono (Kd.R_far (p := ⟨gb218, 1, none⟩) (Kd.R_far (p := ⟨gb218, 0, none⟩) (Kd.R_types HO216.out BK218.out (by decide)) (fun _ hk => hk.2) (.slice Ao19 t211.length co19)) (fun _ hk => hk.2) (.slice Ao22 t214.length co22)) (fun _ h_ => h_.1))) hb); have n6_ := aS_ (blk_below (g := gb207) (o := .cells #[.slice Ao12 t200.length co12, .slice Ao14 t203.length co14] 24 (0, 0)) (by (with_reducible repeat (first | refine kN_ ?_ _ | refine kD_ ?_ | refine kA_ ?_ _)); refine blk_far ?_ NB207_218.out _; (with_reducible repeat (first | refine kN_ ?_ _ | refine kD_ ?_ | refine kA_ ?_ _)); refine blk_far ?_ NB207_218.out _; (with_reducible repeat (first | refine kN_ ?_ _ | refine kD_ ?_ | refine kA_ ?_ _)); exact BK207.out) hb); have n7_ := aS_ (blk_below (g := gb218) (o := .cells #[.slice Ao19 t211.length co19, .slice Ao22 t214.length co22] 24 (0, 0)) (by (with_reducible repeat (first | refine kN_ ?_ _ | refine kD_ ?_ | refine kA_ ?_ _)); refine blk_put (cs := #[.slice Ao19 t211.length co19, .slice none 0 0]) ?_ 1 _ rfl; (with_reducible repeat (first | refine kN_ ?_ _ | refine kD_ ?_ | refine kA_ ?_ _)); refine blk_put (cs := #[.slice none 0 0, .slice none 0 0]) ?_ 0 _ rfl; (with_reducible repeat (first | refine kN_ ?_ _ | refine kD_ ?_ | refine kA_ ?_ _)); exact BK218.out) hb); have n8_ := aS_ (below_step (by repeat (first | (with_reducible first | exact HB.out | apply bA_ | apply pN_ | apply bD_ | refine bS_ ?_ GE207.out | refine bS_ ?_ GE218.out) | exact HB.out)) hb); clear HO199; clear HO202; clear HO205; clear HO210; clear HO213; clear HO216; clear BK207; clear BK218; clear HB; have HO199 := n0_; have HO202 := n1_; have HO205 := n2_; have HO210 := n3_; have HO213 := n4_; have HO216 := n5_; have BK207 := n6_; have BK218 := n7_; have HB := n8_; clear n0_ n1_ n2_ n3_ n4_ n5_ n6_ n7_ n8_; (try clear hb); (try clear hb2); (try clear hk); (try clear hi)))
    go_meet
    case rel => exact ⟨_, ((t217 != t206)), (by first | rfl | (simp; done) | (simp [*]; done)), H', ⟨by first | omega | exact Nat.le_refl _⟩, ⟨by (with_reducible repeat (first | apply rA_ | apply rN_ | apply rD_)); exact Kd.R_mono HO210.out (fun _ hk => ⟨hk.1.1.1.2, ⟨hk.1.1.2, ⟨hk.1.2, hk.2⟩⟩⟩)⟩, ⟨by (with_reducible repeat (first | apply rA_ | apply rN_ | apply rD_)); exact Kd.R_mono HO202.out (fun _ hk => ⟨hk.1.1.2, ⟨hk.1.1.1.1, ⟨hk.1.2, hk.2⟩⟩⟩)⟩, ⟨by (with_reducible repeat (first | apply rA_ | apply rN_ | apply rD_)); exact Kd.R_mono HO205.out (fun _ hk => ⟨hk.1.1.2, ⟨hk.1.1.1.1, ⟨hk.1.2, hk.2⟩⟩⟩)⟩, ⟨by (with_reducible repeat (first | apply rA_ | apply rN_ | apply rD_)); exact Kd.R_mono HO213.out (fun _ hk => ⟨hk.2, ⟨hk.1.1.2, ⟨hk.1.2, hk.1.1.1.1⟩⟩⟩)⟩, ⟨by (with_reducible repeat (first | apply rA_ | apply rN_ | apply rD_)); exact Kd.R_mono HO216.out (fun _ hk => ⟨hk.2, ⟨hk.1.1.2, ⟨hk.1.2, hk.1.1.1.1⟩⟩⟩)⟩, ⟨by (with_reducible repeat (first | refine kN_ ?_ _ | refine kD_ ?_ | refine kA_ ?_ _)); exact BK207.out⟩, ⟨by (with_reducible repeat (first | refine kN_ ?_ _ | refine kD_ ?_ | refine kA_ ?_ _)); exact BK218.out⟩, ⟨by repeat (first | (with_reducible first | exact HB.out | apply bA_ | apply pN_ | apply bD_ | refine bS_ ?_ GE207.out | refine bS_ ?_ GE218.out) | exact HB.out)⟩⟩
   ·replace c24 := Bool.eq_false_iff.mpr c24
    subst c24
    rw [if_neg (show ¬ (false = true) by decide)] at H
    have H' := aS_ H
    clear H
    have hnb29 := NB218_207.out
    have hnc29 := NB207_218.out
    have hcz30_0 : w18.cell? ⟨gb218, 0, none⟩ = some (.slice none 0 0) := (blk_cell BK218.out 0).trans rfl
    have hcz30_1 : w18.cell? ⟨gb218, 1, none⟩ = some (.slice none 0 0) := (blk_cell BK218.out 1).trans rfl
    have hfz30_0 := blk_frozen BK218.out 0
    have hfz30_1 := blk_frozen BK218.out 1
    have hcz31_0 : w18.cell? ⟨gb207, 0, none⟩ = some (.slice Ao12 t200.length co12) := (blk_cell BK207.out 0).trans rfl
    have hcz31_1 : w18.cell? ⟨gb207, 1, none⟩ = some (.slice Ao14 t203.length co14) := (blk_cell BK207.out 1).trans rfl
    have hfz31_0 := blk_frozen BK207.out 0
    have hfz31_1 := blk_frozen BK207.out 1
    go_wp2_with (first | ((with_reducible refine gate_callee (f := 7) rfl ?_); refine goesL_ (some 31) rfl rfl Try.func7 (by kernel_rfl) rfl #[.agg #[.slice Ao19 t211.length co19, .slice Ao22 t214.length co22], .agg #[.slice Ao12 t200.length co12, .slice Ao14 t203.length co14]] rfl (by (try simp only [List.map_toArray, List.map_cons, List.map_nil]); first | done | rfl | (simp only [List.length_drop, List.length_take]; rfl)) ?_; (with_reducible refine (laws_eqRegion.calls k _ _ t211 _ _ t214 _ _ t200 _ _ t203 false _ ?side1 ?side2 ?side3 ?side4 ?side5 ?side6 ?side7 ?side8 A23.out).mono ?_); (case side1 => refine (Kd.R_reads' (e := 3) (base := w.heap.size) (ok := fun k_ => ((((some k_ ≠ (.slice Ao22 t214.length co22 : Value).ownBlock ∧ some k_ ≠ (.slice Ao9 t197.length co9 : Value).ownBlock) ∧ some k_ ≠ (.slice Ao12 t200.length co12 : Value).ownBlock) ∧ some k_ ≠ (.slice Ao14 t203.length co14 : Value).ownBlock) ∧ some k_ ≠ (.slice Ao16 t208.length co16 : Value).ownBlock)) (n := t211.length) (c := co19) ?_).2.2; exact (by (with_reducible repeat (first | apply rA_ | apply rN_ | apply rD_)); exact (Kd.R_mono (Kd.R_far (p := ⟨gb218, 1, none⟩) (Kd.R_far (p := ⟨gb218, 0, none⟩) (Kd.R_types HO213.out BK218.out (by decide)) (fun _ hk => hk.2) (.slice Ao19 t211.length co19)) (fun _ hk => hk.2) (.slice Ao22 t214.length co22)) (fun _ h_ => h_.1)))); (case side2 => exact (Kd.R_reads' HO213.out).2.1); (case side3 => refine (Kd.R_reads' (e := 3) (base := w.heap.size) (ok := fun k_ => ((((some k_ ≠ (.slice Ao19 t211.length co19 : Value).ownBlock ∧ some k_ ≠ (.slice Ao9 t197.length co9 : Value).ownBlock) ∧ some k_ ≠ (.slice Ao12 t200.length co12 : Value).ownBlock) ∧ some k_ ≠ (.slice Ao14 t203.length co14 : Value).ownBlock) ∧ some k_ ≠ (.slice Ao16 t208.length co16 : Value).ownBlock)) (n := t214.length) (c := co22) ?_).2.2; exact (by (with_reducible repeat (first | apply rA_ | apply rN_ | apply rD_)); exact (Kd.R_mono (Kd.R_far (p := ⟨gb218, 1, none⟩) (Kd.R_far (p := ⟨gb218, 0, none⟩) (Kd.R_types HO216.out BK218.out (by decide)) (fun _ hk => hk.2) (.slice Ao19 t211.length co19)) (fun _ hk => hk.2) (.slice Ao22 t214.length co22)) (fun _ h_ => h_.1)))); (case side4 => exact (Kd.R_reads' HO216.out).2.1); (case side5 => refine (Kd.R_reads' (e := 3) (base := w.heap.size) (ok := fun k_ => ((((some k_ ≠ (.slice Ao14 t203.length co14 : Value).ownBlock ∧ some k_ ≠ (.slice Ao9 t197.length co9 : Value).ownBlock) ∧ some k_ ≠ (.slice Ao16 t208.length co16 : Value).ownBlock) ∧ some k_ ≠ (.slice Ao19 t211.length co19 : Value).ownBlock) ∧ some k_ ≠ (.slice Ao22 t214.length co22 : Value).ownBlock)) (n := t200.length) (c := co12) ?_).2.2; exact (by (with_reducible repeat (first | apply rA_ | apply rN_ | apply rD_)); exact (Kd.R_mono (Kd.R_far (p := ⟨gb218, 1, none⟩) (Kd.R_far (p := ⟨gb218, 0, none⟩) (Kd.R_types HO202.out BK218.out (by decide)) (fun _ hk => hk.2) (.slice Ao19 t211.length co19)) (fun _ hk => hk.2) (.slice Ao22 t214.length co22)) (fun _ h_ => h_.1)))); (case side6 => exact (Kd.R_reads' HO202.out).2.1); (case side7 => refine (Kd.R_reads' (e := 3) (base := w.heap.size) (ok := fun k_ => ((((some k_ ≠ (.slice Ao12 t200.length co12 : Value).ownBlock ∧ some k_ ≠ (.slice Ao9 t197.length co9 : Value).ownBlock) ∧ some k_ ≠ (.slice Ao16 t208.length co16 : Value).ownBlock) ∧ some k_ ≠ (.slice Ao19 t211.length co19 : Value).ownBlock) ∧ some k_ ≠ (.slice Ao22 t214.length co22 : Value).ownBlock)) (n := t203.length) (c := co14) ?_).2.2; exact (by (with_reducible repeat (first | apply rA_ | apply rN_ | apply rD_)); exact (Kd.R_mono (Kd.R_far (p := ⟨gb218, 1, none⟩) (Kd.R_far (p := ⟨gb218, 0, none⟩) (Kd.R_types HO205.out BK218.out (by decide)) (fun _ hk => hk.2) (.slice Ao19 t211.length co19)) (fun _ hk => hk.2) (.slice Ao22 t214.length co22)) (fun _ h_ => h_.1)))); (case side8 => exact (Kd.R_reads' HO205.out).2.1); rintro e w32 ⟨rfl, hb⟩; refine ⟨_, rfl, ?_⟩; have n0_ := aS_ (Kd.R_below (by (with_reducible repeat (first | apply rA_ | apply rN_ | apply rD_)); exact (Kd.R_mono (Kd.R_far (p := ⟨gb218, 1, none⟩) (Kd.R_far (p := ⟨gb218, 0, none⟩) (Kd.R_types HO199.out BK218.out (by decide)) (fun _ hk => hk.2) (.slice Ao19 t211.length co19)) (fun _ hk => hk.2) (.slice Ao22 t214.length co22)) (fun _ h_ => h_.1))) hb); have n1_ := aS_ (Kd.R_below (by (with_reducible repeat (first | apply rA_ | apply rN_ | apply rD_)); exact (Kd.R_mono (Kd.R_far (p := ⟨gb218, 1, none⟩) (Kd.R_far (p := ⟨gb218, 0, none⟩) (Kd.R_types HO202.out BK218.out (by decide)) (fun _ hk => hk.2) (.slice Ao19 t211.length co19)) (fun _ hk => hk.2) (.slice Ao22 t214.length co22)) (fun _ h_ => h_.1))) hb); have n2_ := aS_ (Kd.R_below (by (with_reducible repeat (first | apply rA_ | apply rN_ | apply rD_)); exact (Kd.R_mono (Kd.R_far (p := ⟨gb218, 1, none⟩) (Kd.R_far (p := ⟨gb218, 0, none⟩) (Kd.R_types HO205.out BK218.out (by decide)) (fun _ hk => hk.2) (.slice Ao19 t211.length co19)) (fun _ hk => hk.2) (.slice Ao22 t214.length co22)) (fun _ h_ => h_.1))) hb); have n3_ := aS_ (Kd.R_below (by (with_reducible repeat (first | apply rA_ | apply rN_ | apply rD_)); exact (Kd.R_mono (Kd.R_far (p := ⟨gb218, 1, none⟩) (Kd.R_far (p := ⟨gb218, 0, none⟩) (Kd.R_types HO210.out BK218.out (by decide)) (fun _ hk => hk.2) (.slice Ao19 t211.length co19)) (fun _ hk => hk.2) (.slice Ao22 t214.length co22)) (fun _ h_ => h_.1))) hb); have n4_ := aS_ (Kd.R_below (by (with_reducible repeat (first | apply rA_ | apply rN_ | apply rD_)); exact (Kd.R_mono (Kd.R_far (p := ⟨gb218, 1, none⟩) (Kd.R_far (p := ⟨gb218, 0, none⟩) (Kd.R_types HO213.out BK218.out (by decide)) (fun _ hk => hk.2) (.slice Ao19 t211.length co19)) (fun _ hk => hk.2) (.slice Ao22 t214.length co22)) (fun _ h_ => h_.1))) hb); have n5_ := aS_ (Kd.R_below (by (with_reducible repeat (first | apply rA_ | apply rN_ | apply rD_)); exact (Kd.R_mono (Kd.R_far (p := ⟨gb218, 1, none⟩) (Kd.R_far (p := ⟨gb218, 0, none⟩) (Kd.R_types HO216.out BK218.out (by decide)) (fun _ hk => hk.2) (.slice Ao19 t211.length co19)) (fun _ hk => hk.2) (.slice Ao22 t214.length co22)) (fun _ h_ => h_.1))) hb); have n6_ := aS_ (blk_below (g := gb207) (o := .cells #[.slice Ao12 t200.length co12, .slice Ao14 t203.length co14] 24 (0, 0)) (by (with_reducible repeat (first | refine kN_ ?_ _ | refine kD_ ?_ | refine kA_ ?_ _)); refine blk_far ?_ NB207_218.out _; (with_reducible repeat (first | refine kN_ ?_ _ | refine kD_ ?_ | refine kA_ ?_ _)); refine blk_far ?_ NB207_218.out _; (with_reducible repeat (first | refine kN_ ?_ _ | refine kD_ ?_ | refine kA_ ?_ _)); exact BK207.out) hb); have n7_ := aS_ (blk_below (g := gb218) (o := .cells #[.slice Ao19 t211.length co19, .slice Ao22 t214.length co22] 24 (0, 0)) (by (with_reducible repeat (first | refine kN_ ?_ _ | refine kD_ ?_ | refine kA_ ?_ _)); refine blk_put (cs := #[.slice Ao19 t211.length co19, .slice none 0 0]) ?_ 1 _ rfl; (with_reducible repeat (first | refine kN_ ?_ _ | refine kD_ ?_ | refine kA_ ?_ _)); refine blk_put (cs := #[.slice none 0 0, .slice none 0 0]) ?_ 0 _ rfl; (with_reducible repeat (first | refine kN_ ?_ _ | refine kD_ ?_ | refine kA_ ?_ _)); exact BK218.out) hb); have n8_ := aS_ (below_step (by repeat (first | (with_reducible first | exact HB.out | apply bA_ | apply pN_ | apply bD_ | refine bS_ ?_ GE207.out | refine bS_ ?_ GE218.out) | exact HB.out)) hb); clear HO199; clear HO202; clear HO205; clear HO210; clear HO213; clear HO216; clear BK207; clear BK218; clear HB; have HO199 := n0_; have HO202 := n1_; have HO205 := n2_; have HO210 := n3_; have HO213 := n4_; have HO216 := n5_; have BK207 := n6_; have BK218 := n7_; have HB := n8_; clear n0_ n1_ n2_ n3_ n4_ n5_ n6_ n7_ n8_; (try clear hb); (try clear hb2); (try clear hk); (try clear hi)))
    go_meet
    case rel => exact ⟨_, (true), (by first | rfl | (simp; done) | (simp [*]; done)), H', ⟨by first | omega | exact Nat.le_refl _⟩, ⟨by (with_reducible repeat (first | apply rA_ | apply rN_ | apply rD_)); exact Kd.R_mono HO210.out (fun _ hk => ⟨hk.1.1.1.2, ⟨hk.1.1.2, ⟨hk.1.2, hk.2⟩⟩⟩)⟩, ⟨by (with_reducible repeat (first | apply rA_ | apply rN_ | apply rD_)); exact Kd.R_mono HO202.out (fun _ hk => ⟨hk.1.1.2, ⟨hk.1.1.1.1, ⟨hk.1.2, hk.2⟩⟩⟩)⟩, ⟨by (with_reducible repeat (first | apply rA_ | apply rN_ | apply rD_)); exact Kd.R_mono HO205.out (fun _ hk => ⟨hk.1.1.2, ⟨hk.1.1.1.1, ⟨hk.1.2, hk.2⟩⟩⟩)⟩, ⟨by (with_reducible repeat (first | apply rA_ | apply rN_ | apply rD_)); exact Kd.R_mono HO213.out (fun _ hk => ⟨hk.2, ⟨hk.1.1.2, ⟨hk.1.2, hk.1.1.1.1⟩⟩⟩)⟩, ⟨by (with_reducible repeat (first | apply rA_ | apply rN_ | apply rD_)); exact Kd.R_mono HO216.out (fun _ hk => ⟨hk.2, ⟨hk.1.1.2, ⟨hk.1.2, hk.1.1.1.1⟩⟩⟩)⟩, ⟨by (with_reducible repeat (first | refine kN_ ?_ _ | refine kD_ ?_ | refine kA_ ?_ _)); exact BK207.out⟩, ⟨by (with_reducible repeat (first | refine kN_ ?_ _ | refine kD_ ?_ | refine kA_ ?_ _)); exact BK218.out⟩, ⟨by repeat (first | (with_reducible first | exact HB.out | apply bA_ | apply pN_ | apply bD_ | refine bS_ ?_ GE207.out | refine bS_ ?_ GE218.out) | exact HB.out)⟩⟩
  case rest =>
   clear HC7
   try clear c2
   try clear c2b0
   try clear c2b1
   try clear p2
   try clear c3
   try clear c4
   try clear c5
   try clear c6
   try clear c7
   try clear c20
   try clear c24
   try clear c25
   try clear c29
   try clear hcz13_0
   try clear hcz13_1
   try clear hcz21_0
   try clear hcz21_1
   try clear hcz26_0
   try clear hcz26_1
   try clear hcz27_0
   try clear hcz27_1
   try clear hcz30_0
   try clear hcz30_1
   try clear hcz31_0
   try clear hcz31_1
   try clear hfz13_0
   try clear hfz13_1
   try clear hfz21_0
   try clear hfz21_1
   try clear hfz26_0
   try clear hfz26_1
   try clear hfz27_0
   try clear hfz27_1
   try clear hfz30_0
   try clear hfz30_1
   try clear hfz31_0
   try clear hfz31_1
   obtain ⟨kq, x37_6, rfl, HA, HJ6, HO_5, HO_208000, HO_208001, HO_219000, HO_219001, BK207, BK218, HB⟩ := hcut
   cases kq with
   | zero => exact absurd HA.out (by simp [laws_FnExactRegionOfPoint.j0])
   | succ kj6 =>
    have H := HA.out
    clear HA
    simp only [laws_FnExactRegionOfPoint.j0] at H
    by_cases c33 : x37_6 = true
    ·subst c33
     rw [if_pos rfl] at H
     obtain rfl := Option.some.inj H
     go_wp2
     go_ret
     exact ⟨by first | rfl | (simp [errW_none, errW_some] <;> rfl) | (simp [*, errW_none, errW_some] <;> rfl), by repeat (first | (with_reducible first | exact HB.out | apply bA_ | apply pN_ | apply bD_ | refine bS_ ?_ GE207.out | refine bS_ ?_ GE218.out) | exact HB.out)⟩
    ·replace c33 := Bool.eq_false_iff.mpr c33
     subst c33
     rw [if_neg (show ¬ (false = true) by decide)] at H
     replace H := Option.bind_eq_some_iff.mp H
     obtain ⟨t220, A340, H⟩ := H
     have A34 := aS_ A340
     clear A340
     replace H := Option.bind_eq_some_iff.mp H
     obtain ⟨t223, A350, H⟩ := H
     have A35 := aS_ A350
     clear A350
     by_cases c36 : t223 = true
     ·subst c36
      rw [if_pos rfl] at H
      replace H := Option.bind_eq_some_iff.mp H
      obtain ⟨⟨t224, t225⟩, A370, H⟩ := H
      have A37 := aS_ A370
      clear A370
      have HC38 := aS_ H
      clear H
      go_upto_region 12 with (first | ((with_reducible refine gate_callee (f := 5) rfl ?_); refine goesL_ (some 40) rfl rfl Try.func5 (by kernel_rfl) rfl #[.slice A0 l0.length c0] rfl (by (try simp only [List.map_toArray, List.map_cons, List.map_nil]); first | done | rfl | (simp only [List.length_drop, List.length_take]; rfl)) ?_; (with_reducible refine (laws_toIntS.calls kj6 _ _ l0 t220 _ ?side1 ?side2 A34.out).mono ?_); (case side1 => repeat (first | exact (Kd.C_below HR0.out HB.out) | (with_reducible refine Kd.C_alloc ?_ _) | (with_reducible refine Kd.C_drewN ?_ _) | (with_reducible refine Kd.C_drew ?_))); (case side2 => exact HC0.out); rintro e w39 ⟨v221, rfl, ho0, hb⟩; refine ⟨_, rfl, ?_⟩; have n0_ := aS_ (Kd.R_elder' (by (with_reducible repeat (first | apply rA_ | apply rN_ | apply rD_)); exact HO_5.out) (Kd.R_base ho0) hb); have n1_ := aS_ (Kd.R_elder' (by (with_reducible repeat (first | apply rA_ | apply rN_ | apply rD_)); exact HO_208000.out) (Kd.R_base ho0) hb); have n2_ := aS_ (Kd.R_elder' (by (with_reducible repeat (first | apply rA_ | apply rN_ | apply rD_)); exact HO_208001.out) (Kd.R_base ho0) hb); have n3_ := aS_ (Kd.R_elder' (by (with_reducible repeat (first | apply rA_ | apply rN_ | apply rD_)); exact HO_219000.out) (Kd.R_base ho0) hb); have n4_ := aS_ (Kd.R_elder' (by (with_reducible repeat (first | apply rA_ | apply rN_ | apply rD_)); exact HO_219001.out) (Kd.R_base ho0) hb); have n5_ := aS_ (Kd.R_lower (Kd.R_new' (Kd.R_new' (Kd.R_new' (Kd.R_new' (Kd.R_new' ho0 (Kd.R_lt (by (with_reducible repeat (first | apply rA_ | apply rN_ | apply rD_)); exact HO_5.out))) (Kd.R_lt (by (with_reducible repeat (first | apply rA_ | apply rN_ | apply rD_)); exact HO_208000.out))) (Kd.R_lt (by (with_reducible repeat (first | apply rA_ | apply rN_ | apply rD_)); exact HO_208001.out))) (Kd.R_lt (by (with_reducible repeat (first | apply rA_ | apply rN_ | apply rD_)); exact HO_219000.out))) (Kd.R_lt (by (with_reducible repeat (first | apply rA_ | apply rN_ | apply rD_)); exact HO_219001.out))) (below_size (by repeat (first | (with_reducible first | exact HB.out | apply bA_ | apply pN_ | apply bD_ | refine bS_ ?_ GE207.out | refine bS_ ?_ GE218.out) | exact HB.out)))); have n6_ := aS_ (blk_below (g := gb207) (o := .cells #[.slice Ao12 t200.length co12, .slice Ao14 t203.length co14] 24 (0, 0)) (by (with_reducible repeat (first | refine kN_ ?_ _ | refine kD_ ?_ | refine kA_ ?_ _)); exact BK207.out) hb); have n7_ := aS_ (blk_below (g := gb218) (o := .cells #[.slice Ao19 t211.length co19, .slice Ao22 t214.length co22] 24 (0, 0)) (by (with_reducible repeat (first | refine kN_ ?_ _ | refine kD_ ?_ | refine kA_ ?_ _)); exact BK218.out) hb); have n8_ := aS_ (below_step (by repeat (first | (with_reducible first | exact HB.out | apply bA_ | apply pN_ | apply bD_ | refine bS_ ?_ GE207.out | refine bS_ ?_ GE218.out) | exact HB.out)) hb); clear HO_5; clear HO_208000; clear HO_208001; clear HO_219000; clear HO_219001; clear BK207; clear BK218; clear HB; have HO_5 := n0_; have HO_208000 := n1_; have HO_208001 := n2_; have HO_219000 := n3_; have HO_219001 := n4_; have HO222 := n5_; have BK207 := n6_; have BK218 := n7_; have HB := n8_; clear n0_ n1_ n2_ n3_ n4_ n5_ n6_ n7_ n8_; (try clear hb); (try clear hb2); (try clear hk); (try clear hi); (try clear ho0); obtain ⟨Ao40, co40, eo40⟩ := Kd.R_slice HO222.out; subst eo40) | ((with_reducible refine gate_callee (f := 8) rfl ?_); refine goesL_ (some 41) rfl rfl Try.func8 (by kernel_rfl) rfl #[.slice Ao16 t208.length co16, .slice Ao40 t220.length co40] rfl (by (try simp only [List.map_toArray, List.map_cons, List.map_nil]); first | done | rfl | (simp only [List.length_drop, List.length_take]; rfl)) ?_; (with_reducible refine (laws_eqIntS.calls kj6 _ _ t208 _ _ t220 true _ ?side1 ?side2 ?side3 ?side4 A35.out).mono ?_); (case side1 => repeat (first | exact (Kd.R_reads' HO_5.out).2.2 | (with_reducible refine Kd.C_alloc ?_ _) | (with_reducible refine Kd.C_drewN ?_ _) | (with_reducible refine Kd.C_drew ?_))); (case side2 => exact (Kd.R_reads' HO_5.out).2.1); (case side3 => repeat (first | exact (Kd.R_reads' HO222.out).2.2 | (with_reducible refine Kd.C_alloc ?_ _) | (with_reducible refine Kd.C_drewN ?_ _) | (with_reducible refine Kd.C_drew ?_))); (case side4 => exact (Kd.R_reads' HO222.out).2.1); rintro e w' ⟨rfl, ⟨nd, rfl⟩⟩; refine ⟨_, rfl, ?_⟩) | ((with_reducible refine gate_callee (f := 9) rfl ?_); refine goesL_ (some 45) rfl rfl Try.func9 (by kernel_rfl) rfl #[.slice Ao16 t208.length co16, .int .i64 1] rfl (by (try simp only [List.map_toArray, List.map_cons, List.map_nil]); first | done | rfl | (simp only [List.length_drop, List.length_take]; rfl)) ?_; (with_reducible refine (laws_markIntS.calls kj6 (fun k_ => some k_ = (.slice Ao16 t208.length co16 : Value).ownBlock) (.slice Ao16 t208.length co16) t208 1 t224 t225 w _ ?side1 ?side2 A37.out).mono ?_); (case side1 => repeat (first | (with_reducible first | exact HB.out | apply bA_ | apply pN_ | apply bD_ | refine bS_ ?_ GE207.out | refine bS_ ?_ GE218.out) | exact HB.out)); (case side2 => exact Kd.R_tight rfl HO_5.out); rintro e w41 ⟨rfl, hy0, hb, hkp⟩; refine ⟨_, rfl, ?_⟩; have n0_ := aS_ (Kd.R_reok rfl hy0 (fun k_ e_ => HO_5.out.1 k_ e_)); have n1_ := aS_ (Kd.R_mono (ok' := fun k_ => some k_ ≠ (.slice Ao16 t208.length co16 : Value).ownBlock ∧ some k_ ≠ (.slice Ao14 t203.length co14 : Value).ownBlock ∧ some k_ ≠ (.slice Ao19 t211.length co19 : Value).ownBlock ∧ some k_ ≠ (.slice Ao22 t214.length co22 : Value).ownBlock ∧ some k_ ≠ (.slice Ao40 t220.length co40 : Value).ownBlock) (Kd.R_keptB (HO_208000.out) hkp (fun k_ hk_ hs_ => (hk_.1.1) hs_)) (fun k_ hk_ => ⟨hk_.1.1.1, hk_.1.1.2.1, hk_.1.1.2.2.1, hk_.1.1.2.2.2, hk_.1.2⟩)); have n2_ := aS_ (Kd.R_mono (ok' := fun k_ => some k_ ≠ (.slice Ao16 t208.length co16 : Value).ownBlock ∧ some k_ ≠ (.slice Ao12 t200.length co12 : Value).ownBlock ∧ some k_ ≠ (.slice Ao19 t211.length co19 : Value).ownBlock ∧ some k_ ≠ (.slice Ao22 t214.length co22 : Value).ownBlock ∧ some k_ ≠ (.slice Ao40 t220.length co40 : Value).ownBlock) (Kd.R_keptB (HO_208001.out) hkp (fun k_ hk_ hs_ => (hk_.1.1) hs_)) (fun k_ hk_ => ⟨hk_.1.1.1, hk_.1.1.2.1, hk_.1.1.2.2.1, hk_.1.1.2.2.2, hk_.1.2⟩)); have n3_ := aS_ (Kd.R_mono (ok' := fun k_ => some k_ ≠ (.slice Ao16 t208.length co16 : Value).ownBlock ∧ some k_ ≠ (.slice Ao12 t200.length co12 : Value).ownBlock ∧ some k_ ≠ (.slice Ao14 t203.length co14 : Value).ownBlock ∧ some k_ ≠ (.slice Ao22 t214.length co22 : Value).ownBlock ∧ some k_ ≠ (.slice Ao40 t220.length co40 : Value).ownBlock) (Kd.R_keptB (HO_219000.out) hkp (fun k_ hk_ hs_ => (hk_.1.1) hs_)) (fun k_ hk_ => ⟨hk_.1.1.1, hk_.1.1.2.1, hk_.1.1.2.2.1, hk_.1.1.2.2.2, hk_.1.2⟩)); have n4_ := aS_ (Kd.R_mono (ok' := fun k_ => some k_ ≠ (.slice Ao16 t208.length co16 : Value).ownBlock ∧ some k_ ≠ (.slice Ao12 t200.length co12 : Value).ownBlock ∧ some k_ ≠ (.slice Ao14 t203.length co14 : Value).ownBlock ∧ some k_ ≠ (.slice Ao19 t211.length co19 : Value).ownBlock ∧ some k_ ≠ (.slice Ao40 t220.length co40 : Value).ownBlock) (Kd.R_keptB (HO_219001.out) hkp (fun k_ hk_ hs_ => (hk_.1.1) hs_)) (fun k_ hk_ => ⟨hk_.1.1.1, hk_.1.1.2.1, hk_.1.1.2.2.1, hk_.1.1.2.2.2, hk_.1.2⟩)); have n5_ := aS_ (blk_kept (by (with_reducible repeat (first | refine kN_ ?_ _ | refine kD_ ?_ | refine kA_ ?_ _)); exact BK207.out) hkp (fun hs_ => (fun e_ => (Kd.R_ne HO_5.out BK207.out (by decide)) e_) hs_)); have n6_ := aS_ (blk_kept (by (with_reducible repeat (first | refine kN_ ?_ _ | refine kD_ ?_ | refine kA_ ?_ _)); exact BK218.out) hkp (fun hs_ => (fun e_ => (Kd.R_ne HO_5.out BK218.out (by decide)) e_) hs_)); have n7_ := aS_ (Kd.R_mono (ok' := fun k_ => some k_ ≠ (.slice Ao16 t208.length co16 : Value).ownBlock ∧ some k_ ≠ (.slice Ao12 t200.length co12 : Value).ownBlock ∧ some k_ ≠ (.slice Ao14 t203.length co14 : Value).ownBlock ∧ some k_ ≠ (.slice Ao19 t211.length co19 : Value).ownBlock ∧ some k_ ≠ (.slice Ao22 t214.length co22 : Value).ownBlock) (Kd.R_keptB (HO222.out) hkp (fun k_ hk_ hs_ => (hk_.1.1.1.1.2) hs_)) (fun k_ hk_ => ⟨hk_.1.1.1.1.1.2, hk_.1.1.1.1.2, hk_.1.1.1.2, hk_.1.1.2, hk_.1.2⟩)); have n8_ := aS_ (hb); clear HO_5; clear HO_208000; clear HO_208001; clear HO_219000; clear HO_219001; clear BK207; clear BK218; clear HO222; clear HB; have HO_5 := n0_; have HO_208000 := n1_; have HO_208001 := n2_; have HO_219000 := n3_; have HO_219001 := n4_; have BK207 := n5_; have BK218 := n6_; have HO222 := n7_; have HB := n8_; clear n0_ n1_ n2_ n3_ n4_ n5_ n6_ n7_ n8_; (try clear hb); (try clear hkp); (try clear hy0)))
      (try simp only [Act.put, List.setIfInBounds_toArray, List.set_cons_zero, List.set_cons_succ])
      go_cut [58] (fun v58 wc => ∃ (kq : Nat) (x58_37 : Bool), v58 = .bool x58_37 ∧ Aside0 (laws_FnExactRegionOfPoint.j1 kq l0 t206 x58_37 t200 t203 t211 t214 = some r) ∧ Aside0 (kq ≤ kj6) ∧ Aside0 (Kd.R (Kd.int .i64) 3 wc w.heap.size (fun k_ => some k_ ≠ ((.slice Ao14 t203.length co14) : Value).ownBlock ∧ some k_ ≠ ((.slice Ao19 t211.length co19) : Value).ownBlock ∧ some k_ ≠ ((.slice Ao22 t214.length co22) : Value).ownBlock) (.slice Ao12 t200.length co12) t200) ∧ Aside0 (Kd.R (Kd.int .i64) 3 wc w.heap.size (fun k_ => some k_ ≠ ((.slice Ao12 t200.length co12) : Value).ownBlock ∧ some k_ ≠ ((.slice Ao19 t211.length co19) : Value).ownBlock ∧ some k_ ≠ ((.slice Ao22 t214.length co22) : Value).ownBlock) (.slice Ao14 t203.length co14) t203) ∧ Aside0 (Kd.R (Kd.int .i64) 3 wc w.heap.size (fun k_ => some k_ ≠ ((.slice Ao12 t200.length co12) : Value).ownBlock ∧ some k_ ≠ ((.slice Ao14 t203.length co14) : Value).ownBlock ∧ some k_ ≠ ((.slice Ao22 t214.length co22) : Value).ownBlock) (.slice Ao19 t211.length co19) t211) ∧ Aside0 (Kd.R (Kd.int .i64) 3 wc w.heap.size (fun k_ => some k_ ≠ ((.slice Ao12 t200.length co12) : Value).ownBlock ∧ some k_ ≠ ((.slice Ao14 t203.length co14) : Value).ownBlock ∧ some k_ ≠ ((.slice Ao19 t211.length co19) : Value).ownBlock) (.slice Ao22 t214.length co22) t214) ∧ Aside0 (wc.heap[gb207]? = some (.cells #[(.slice Ao12 t200.length co12), (.slice Ao14 t203.length co14)] 24 (0, 0))) ∧ Aside0 (wc.heap[gb218]? = some (.cells #[(.slice Ao19 t211.length co19), (.slice Ao22 t214.length co22)] 24 (0, 0))) ∧ Aside0 (Below w.heap.size w wc))
      case first =>
       have H := HC38.out
       clear HC38
       by_cases c42 : t224 < 0
       ·rw [if_pos c42] at H
        have c42b0 : decide (t224 < 0) = true := decide_eq_true c42
        clear c42
        (first | rw [c42b0] | (simp only [i64_w, i32_w]; rw [c42b0]) | skip)
        have H' := aS_ H
        clear H
        go_wp2
        go_meet
        case rel => exact ⟨_, (true), (by first | rfl | (simp; done) | (simp [*]; done)), H', ⟨by have := HJ6.out; first | omega | exact Nat.le_refl _⟩, ⟨by (with_reducible repeat (first | apply rA_ | apply rN_ | apply rD_)); exact Kd.R_mono HO_208000.out (fun _ hk => ⟨hk.2.1, ⟨hk.2.2.1, hk.2.2.2.1⟩⟩)⟩, ⟨by (with_reducible repeat (first | apply rA_ | apply rN_ | apply rD_)); exact Kd.R_mono HO_208001.out (fun _ hk => ⟨hk.2.1, ⟨hk.2.2.1, hk.2.2.2.1⟩⟩)⟩, ⟨by (with_reducible repeat (first | apply rA_ | apply rN_ | apply rD_)); exact Kd.R_mono HO_219000.out (fun _ hk => ⟨hk.2.1, ⟨hk.2.2.1, hk.2.2.2.1⟩⟩)⟩, ⟨by (with_reducible repeat (first | apply rA_ | apply rN_ | apply rD_)); exact Kd.R_mono HO_219001.out (fun _ hk => ⟨hk.2.1, ⟨hk.2.2.1, hk.2.2.2.1⟩⟩)⟩, ⟨by (with_reducible repeat (first | refine kN_ ?_ _ | refine kD_ ?_ | refine kA_ ?_ _)); exact BK207.out⟩, ⟨by (with_reducible repeat (first | refine kN_ ?_ _ | refine kD_ ?_ | refine kA_ ?_ _)); exact BK218.out⟩, ⟨by repeat (first | (with_reducible first | exact HB.out | apply bA_ | apply pN_ | apply bD_ | refine bS_ ?_ GE207.out | refine bS_ ?_ GE218.out) | exact HB.out)⟩⟩
       ·rw [if_neg c42] at H
        have c42b0 : decide (t224 < 0) = false := decide_eq_false c42
        clear c42
        (first | rw [c42b0] | (simp only [i64_w, i32_w]; rw [c42b0]) | skip)
        replace H := Option.bind_eq_some_iff.mp H
        obtain ⟨t226, A430, H⟩ := H
        have A43 := aS_ A430
        clear A430
        by_cases c44 : t226 = true
        ·subst c44
         rw [if_pos rfl] at H
         have H' := aS_ H
         clear H
         have hnb45 := NB218_207.out
         have hnc45 := NB207_218.out
         have hcz46_0 : w41.cell? ⟨gb218, 0, none⟩ = some (.slice Ao19 t211.length co19) := (blk_cell BK218.out 0).trans rfl
         have hcz46_1 : w41.cell? ⟨gb218, 1, none⟩ = some (.slice Ao22 t214.length co22) := (blk_cell BK218.out 1).trans rfl
         have hfz46_0 := blk_frozen BK218.out 0
         have hfz46_1 := blk_frozen BK218.out 1
         have hcz47_0 : w41.cell? ⟨gb207, 0, none⟩ = some (.slice Ao12 t200.length co12) := (blk_cell BK207.out 0).trans rfl
         have hcz47_1 : w41.cell? ⟨gb207, 1, none⟩ = some (.slice Ao14 t203.length co14) := (blk_cell BK207.out 1).trans rfl
         have hfz47_0 := blk_frozen BK207.out 0
         have hfz47_1 := blk_frozen BK207.out 1
         go_wp2_with (first | (go_at_call 7; (with_reducible refine (laws_eqRegion.calls kj6 _ _ t211 _ _ t214 _ _ t200 _ _ t203 true _ ?side1 ?side2 ?side3 ?side4 ?side5 ?side6 ?side7 ?side8 A43.out).mono ?_); (case side1 => repeat (first | exact (Kd.R_reads' HO_219000.out).2.2 | (with_reducible refine Kd.C_alloc ?_ _) | (with_reducible refine Kd.C_drewN ?_ _) | (with_reducible refine Kd.C_drew ?_))); (case side2 => exact (Kd.R_reads' HO_219000.out).2.1); (case side3 => repeat (first | exact (Kd.R_reads' HO_219001.out).2.2 | (with_reducible refine Kd.C_alloc ?_ _) | (with_reducible refine Kd.C_drewN ?_ _) | (with_reducible refine Kd.C_drew ?_))); (case side4 => exact (Kd.R_reads' HO_219001.out).2.1); (case side5 => repeat (first | exact (Kd.R_reads' HO_208000.out).2.2 | (with_reducible refine Kd.C_alloc ?_ _) | (with_reducible refine Kd.C_drewN ?_ _) | (with_reducible refine Kd.C_drew ?_))); (case side6 => exact (Kd.R_reads' HO_208000.out).2.1); (case side7 => repeat (first | exact (Kd.R_reads' HO_208001.out).2.2 | (with_reducible refine Kd.C_alloc ?_ _) | (with_reducible refine Kd.C_drewN ?_ _) | (with_reducible refine Kd.C_drew ?_))); (case side8 => exact (Kd.R_reads' HO_208001.out).2.1); rintro e w48 ⟨rfl, hb⟩; have n0_ := aS_ (Kd.R_below (by (with_reducible repeat (first | apply rA_ | apply rN_ | apply rD_)); exact HO_5.out) hb); have n1_ := aS_ (Kd.R_below (by (with_reducible repeat (first | apply rA_ | apply rN_ | apply rD_)); exact HO_208000.out) hb); have n2_ := aS_ (Kd.R_below (by (with_reducible repeat (first | apply rA_ | apply rN_ | apply rD_)); exact HO_208001.out) hb); have n3_ := aS_ (Kd.R_below (by (with_reducible repeat (first | apply rA_ | apply rN_ | apply rD_)); exact HO_219000.out) hb); have n4_ := aS_ (Kd.R_below (by (with_reducible repeat (first | apply rA_ | apply rN_ | apply rD_)); exact HO_219001.out) hb); have n5_ := aS_ (Kd.R_below (by (with_reducible repeat (first | apply rA_ | apply rN_ | apply rD_)); exact HO222.out) hb); have n6_ := aS_ (blk_below (g := gb207) (o := .cells #[.slice Ao12 t200.length co12, .slice Ao14 t203.length co14] 24 (0, 0)) (by (with_reducible repeat (first | refine kN_ ?_ _ | refine kD_ ?_ | refine kA_ ?_ _)); exact BK207.out) hb); have n7_ := aS_ (blk_below (g := gb218) (o := .cells #[.slice Ao19 t211.length co19, .slice Ao22 t214.length co22] 24 (0, 0)) (by (with_reducible repeat (first | refine kN_ ?_ _ | refine kD_ ?_ | refine kA_ ?_ _)); exact BK218.out) hb); have n8_ := aS_ (below_step (by repeat (first | (with_reducible first | exact HB.out | apply bA_ | apply pN_ | apply bD_ | refine bS_ ?_ GE207.out | refine bS_ ?_ GE218.out) | exact HB.out)) hb); clear HO_5; clear HO_208000; clear HO_208001; clear HO_219000; clear HO_219001; clear HO222; clear BK207; clear BK218; clear HB; have HO_5 := n0_; have HO_208000 := n1_; have HO_208001 := n2_; have HO_219000 := n3_; have HO_219001 := n4_; have HO222 := n5_; have BK207 := n6_; have BK218 := n7_; have HB := n8_; clear n0_ n1_ n2_ n3_ n4_ n5_ n6_ n7_ n8_; (try clear hb); (try clear hb2); (try clear hk); (try clear hi)))
         go_meet
         case rel => exact ⟨_, ((t217 != t206)), (by first | rfl | (simp; done) | (simp [*]; done)), H', ⟨by have := HJ6.out; first | omega | exact Nat.le_refl _⟩, ⟨by (with_reducible repeat (first | apply rA_ | apply rN_ | apply rD_)); exact Kd.R_mono HO_208000.out (fun _ hk => ⟨hk.2.1, ⟨hk.2.2.1, hk.2.2.2.1⟩⟩)⟩, ⟨by (with_reducible repeat (first | apply rA_ | apply rN_ | apply rD_)); exact Kd.R_mono HO_208001.out (fun _ hk => ⟨hk.2.1, ⟨hk.2.2.1, hk.2.2.2.1⟩⟩)⟩, ⟨by (with_reducible repeat (first | apply rA_ | apply rN_ | apply rD_)); exact Kd.R_mono HO_219000.out (fun _ hk => ⟨hk.2.1, ⟨hk.2.2.1, hk.2.2.2.1⟩⟩)⟩, ⟨by (with_reducible repeat (first | apply rA_ | apply rN_ | apply rD_)); exact Kd.R_mono HO_219001.out (fun _ hk => ⟨hk.2.1, ⟨hk.2.2.1, hk.2.2.2.1⟩⟩)⟩, ⟨by (with_reducible repeat (first | refine kN_ ?_ _ | refine kD_ ?_ | refine kA_ ?_ _)); exact BK207.out⟩, ⟨by (with_reducible repeat (first | refine kN_ ?_ _ | refine kD_ ?_ | refine kA_ ?_ _)); exact BK218.out⟩, ⟨by repeat (first | (with_reducible first | exact HB.out | apply bA_ | apply pN_ | apply bD_ | refine bS_ ?_ GE207.out | refine bS_ ?_ GE218.out) | exact HB.out)⟩⟩
        ·replace c44 := Bool.eq_false_iff.mpr c44
         subst c44
         rw [if_neg (show ¬ (false = true) by decide)] at H
         have H' := aS_ H
         clear H
         have hnb49 := NB218_207.out
         have hnc49 := NB207_218.out
         have hcz50_0 : w41.cell? ⟨gb218, 0, none⟩ = some (.slice Ao19 t211.length co19) := (blk_cell BK218.out 0).trans rfl
         have hcz50_1 : w41.cell? ⟨gb218, 1, none⟩ = some (.slice Ao22 t214.length co22) := (blk_cell BK218.out 1).trans rfl
         have hfz50_0 := blk_frozen BK218.out 0
         have hfz50_1 := blk_frozen BK218.out 1
         have hcz51_0 : w41.cell? ⟨gb207, 0, none⟩ = some (.slice Ao12 t200.length co12) := (blk_cell BK207.out 0).trans rfl
         have hcz51_1 : w41.cell? ⟨gb207, 1, none⟩ = some (.slice Ao14 t203.length co14) := (blk_cell BK207.out 1).trans rfl
         have hfz51_0 := blk_frozen BK207.out 0
         have hfz51_1 := blk_frozen BK207.out 1
         go_wp2_with (first | (go_at_call 7; (with_reducible refine (laws_eqRegion.calls kj6 _ _ t211 _ _ t214 _ _ t200 _ _ t203 false _ ?side1 ?side2 ?side3 ?side4 ?side5 ?side6 ?side7 ?side8 A43.out).mono ?_); (case side1 => repeat (first | exact (Kd.R_reads' HO_219000.out).2.2 | (with_reducible refine Kd.C_alloc ?_ _) | (with_reducible refine Kd.C_drewN ?_ _) | (with_reducible refine Kd.C_drew ?_))); (case side2 => exact (Kd.R_reads' HO_219000.out).2.1); (case side3 => repeat (first | exact (Kd.R_reads' HO_219001.out).2.2 | (with_reducible refine Kd.C_alloc ?_ _) | (with_reducible refine Kd.C_drewN ?_ _) | (with_reducible refine Kd.C_drew ?_))); (case side4 => exact (Kd.R_reads' HO_219001.out).2.1); (case side5 => repeat (first | exact (Kd.R_reads' HO_208000.out).2.2 | (with_reducible refine Kd.C_alloc ?_ _) | (with_reducible refine Kd.C_drewN ?_ _) | (with_reducible refine Kd.C_drew ?_))); (case side6 => exact (Kd.R_reads' HO_208000.out).2.1); (case side7 => repeat (first | exact (Kd.R_reads' HO_208001.out).2.2 | (with_reducible refine Kd.C_alloc ?_ _) | (with_reducible refine Kd.C_drewN ?_ _) | (with_reducible refine Kd.C_drew ?_))); (case side8 => exact (Kd.R_reads' HO_208001.out).2.1); rintro e w52 ⟨rfl, hb⟩; have n0_ := aS_ (Kd.R_below (by (with_reducible repeat (first | apply rA_ | apply rN_ | apply rD_)); exact HO_5.out) hb); have n1_ := aS_ (Kd.R_below (by (with_reducible repeat (first | apply rA_ | apply rN_ | apply rD_)); exact HO_208000.out) hb); have n2_ := aS_ (Kd.R_below (by (with_reducible repeat (first | apply rA_ | apply rN_ | apply rD_)); exact HO_208001.out) hb); have n3_ := aS_ (Kd.R_below (by (with_reducible repeat (first | apply rA_ | apply rN_ | apply rD_)); exact HO_219000.out) hb); have n4_ := aS_ (Kd.R_below (by (with_reducible repeat (first | apply rA_ | apply rN_ | apply rD_)); exact HO_219001.out) hb); have n5_ := aS_ (Kd.R_below (by (with_reducible repeat (first | apply rA_ | apply rN_ | apply rD_)); exact HO222.out) hb); have n6_ := aS_ (blk_below (g := gb207) (o := .cells #[.slice Ao12 t200.length co12, .slice Ao14 t203.length co14] 24 (0, 0)) (by (with_reducible repeat (first | refine kN_ ?_ _ | refine kD_ ?_ | refine kA_ ?_ _)); exact BK207.out) hb); have n7_ := aS_ (blk_below (g := gb218) (o := .cells #[.slice Ao19 t211.length co19, .slice Ao22 t214.length co22] 24 (0, 0)) (by (with_reducible repeat (first | refine kN_ ?_ _ | refine kD_ ?_ | refine kA_ ?_ _)); exact BK218.out) hb); have n8_ := aS_ (below_step (by repeat (first | (with_reducible first | exact HB.out | apply bA_ | apply pN_ | apply bD_ | refine bS_ ?_ GE207.out | refine bS_ ?_ GE218.out) | exact HB.out)) hb); clear HO_5; clear HO_208000; clear HO_208001; clear HO_219000; clear HO_219001; clear HO222; clear BK207; clear BK218; clear HB; have HO_5 := n0_; have HO_208000 := n1_; have HO_208001 := n2_; have HO_219000 := n3_; have HO_219001 := n4_; have HO222 := n5_; have BK207 := n6_; have BK218 := n7_; have HB := n8_; clear n0_ n1_ n2_ n3_ n4_ n5_ n6_ n7_ n8_; (try clear hb); (try clear hb2); (try clear hk); (try clear hi)))
         go_meet
         case rel => exact ⟨_, (true), (by first | rfl | (simp; done) | (simp [*]; done)), H', ⟨by have := HJ6.out; first | omega | exact Nat.le_refl _⟩, ⟨by (with_reducible repeat (first | apply rA_ | apply rN_ | apply rD_)); exact Kd.R_mono HO_208000.out (fun _ hk => ⟨hk.2.1, ⟨hk.2.2.1, hk.2.2.2.1⟩⟩)⟩, ⟨by (with_reducible repeat (first | apply rA_ | apply rN_ | apply rD_)); exact Kd.R_mono HO_208001.out (fun _ hk => ⟨hk.2.1, ⟨hk.2.2.1, hk.2.2.2.1⟩⟩)⟩, ⟨by (with_reducible repeat (first | apply rA_ | apply rN_ | apply rD_)); exact Kd.R_mono HO_219000.out (fun _ hk => ⟨hk.2.1, ⟨hk.2.2.1, hk.2.2.2.1⟩⟩)⟩, ⟨by (with_reducible repeat (first | apply rA_ | apply rN_ | apply rD_)); exact Kd.R_mono HO_219001.out (fun _ hk => ⟨hk.2.1, ⟨hk.2.2.1, hk.2.2.2.1⟩⟩)⟩, ⟨by (with_reducible repeat (first | refine kN_ ?_ _ | refine kD_ ?_ | refine kA_ ?_ _)); exact BK207.out⟩, ⟨by (with_reducible repeat (first | refine kN_ ?_ _ | refine kD_ ?_ | refine kA_ ?_ _)); exact BK218.out⟩, ⟨by repeat (first | (with_reducible first | exact HB.out | apply bA_ | apply pN_ | apply bD_ | refine bS_ ?_ GE207.out | refine bS_ ?_ GE218.out) | exact HB.out)⟩⟩
      case rest =>
       clear HC38
       try clear c2
       try clear c2b0
       try clear c2b1
       try clear p2
       try clear c3
       try clear c4
       try clear c5
       try clear c6
       try clear c7
       try clear c8
       try clear c9
       try clear c20
       try clear c24
       try clear c25
       try clear c29
       try clear c33
       try clear c36
       try clear c42
       try clear c42b0
       try clear c44
       try clear c45
       try clear c49
       try clear hcz13_0
       try clear hcz13_1
       try clear hcz21_0
       try clear hcz21_1
       try clear hcz26_0
       try clear hcz26_1
       try clear hcz27_0
       try clear hcz27_1
       try clear hcz30_0
       try clear hcz30_1
       try clear hcz31_0
       try clear hcz31_1
       try clear hcz46_0
       try clear hcz46_1
       try clear hcz47_0
       try clear hcz47_1
       try clear hcz50_0
       try clear hcz50_1
       try clear hcz51_0
       try clear hcz51_1
       try clear hfz13_0
       try clear hfz13_1
       try clear hfz21_0
       try clear hfz21_1
       try clear hfz26_0
       try clear hfz26_1
       try clear hfz27_0
       try clear hfz27_1
       try clear hfz30_0
       try clear hfz30_1
       try clear hfz31_0
       try clear hfz31_1
       try clear hfz46_0
       try clear hfz46_1
       try clear hfz47_0
       try clear hfz47_1
       try clear hfz50_0
       try clear hfz50_1
       try clear hfz51_0
       try clear hfz51_1
       try clear p2
       obtain ⟨kq, x58_37, rfl, HA, HJ37, HO_208000, HO_208001, HO_219000, HO_219001, BK207, BK218, HB⟩ := hcut
       cases kq with
       | zero => exact absurd HA.out (by simp [laws_FnExactRegionOfPoint.j1])
       | succ kj37 =>
        have H := HA.out
        clear HA
        simp only [laws_FnExactRegionOfPoint.j1] at H
        by_cases c53 : x58_37 = true
        ·subst c53
         rw [if_pos rfl] at H
         obtain rfl := Option.some.inj H
         go_wp2
         go_ret
         exact ⟨by first | rfl | (simp [errW_none, errW_some] <;> rfl) | (simp [*, errW_none, errW_some] <;> rfl), by repeat (first | (with_reducible first | exact HB.out | apply bA_ | apply pN_ | apply bD_ | refine bS_ ?_ GE207.out | refine bS_ ?_ GE218.out) | exact HB.out)⟩
        ·replace c53 := Bool.eq_false_iff.mpr c53
         subst c53
         rw [if_neg (show ¬ (false = true) by decide)] at H
         replace H := Option.bind_eq_some_iff.mp H
         obtain ⟨⟨t227, t228, t229⟩, A540, H⟩ := H
         have A54 := aS_ A540
         clear A540
         replace H := Option.bind_eq_some_iff.mp H
         obtain ⟨t230, A550, H⟩ := H
         have A55 := aS_ A550
         clear A550
         by_cases c56 : t230 < 0
         ·rw [if_pos c56] at H
          have c56b0 : decide (t230 < 0) = true := decide_eq_true c56
          clear c56
          obtain rfl := Option.some.inj H
          have hnb57 := NB218_207.out
          have hnc57 := NB207_218.out
          have hcz58_0 : wc.cell? ⟨gb218, 0, none⟩ = some (.slice Ao19 t211.length co19) := (blk_cell BK218.out 0).trans rfl
          have hcz58_1 : wc.cell? ⟨gb218, 1, none⟩ = some (.slice Ao22 t214.length co22) := (blk_cell BK218.out 1).trans rfl
          have hfz58_0 := blk_frozen BK218.out 0
          have hfz58_1 := blk_frozen BK218.out 1
          go_wp2_with (first | ((with_reducible refine gate_callee (f := 10) rfl ?_); refine goesL_ (some 61) rfl rfl Try.func10 (by kernel_rfl) rfl #[.agg #[.slice Ao19 t211.length co19, .slice Ao22 t214.length co22], .int .i64 1] rfl (by (try simp only [List.map_toArray, List.map_cons, List.map_nil]); first | done | rfl | (simp only [List.length_drop, List.length_take]; rfl)) ?_; (with_reducible refine (laws_markRegion.calls kj37 (fun k_ => some k_ = (.slice Ao19 t211.length co19 : Value).ownBlock) (.slice Ao19 t211.length co19) t211 (fun k_ => some k_ = (.slice Ao22 t214.length co22 : Value).ownBlock) (.slice Ao22 t214.length co22) t214 1 t227 t228 t229 w _ ?side1 ?side2 ?side3 ?side4 ?side5 A54.out).mono ?_); (case side1 => repeat (first | (with_reducible first | exact HB.out | apply bA_ | apply pN_ | apply bD_ | refine bS_ ?_ GE207.out | refine bS_ ?_ GE218.out) | exact HB.out)); (case side2 => exact Kd.R_tight rfl HO_219000.out); (case side3 => exact fun k_ e_ => (HO_219000.out.1 k_ e_.symm).2.2); (case side4 => exact Kd.R_tight rfl HO_219001.out); (case side5 => exact fun k_ e_ => (HO_219001.out.1 k_ e_.symm).2.2); rintro e w59 ⟨rfl, hy0, hy1, hb, hkp⟩; refine ⟨_, rfl, ?_⟩; have n0_ := aS_ (Kd.R_mono (ok' := fun k_ => some k_ ≠ (.slice Ao14 t203.length co14 : Value).ownBlock ∧ some k_ ≠ (.slice Ao19 t211.length co19 : Value).ownBlock ∧ some k_ ≠ (.slice Ao22 t214.length co22 : Value).ownBlock) (Kd.R_keptB (HO_208000.out) hkp (fun k_ hk_ hs_ => Or.elim hs_ (fun e_ => (hk_.2.1) e_) (fun e_ => (hk_.2.2) e_))) (fun k_ hk_ => ⟨hk_.1.1, hk_.1.2.1, hk_.1.2.2⟩)); have n1_ := aS_ (Kd.R_mono (ok' := fun k_ => some k_ ≠ (.slice Ao12 t200.length co12 : Value).ownBlock ∧ some k_ ≠ (.slice Ao19 t211.length co19 : Value).ownBlock ∧ some k_ ≠ (.slice Ao22 t214.length co22 : Value).ownBlock) (Kd.R_keptB (HO_208001.out) hkp (fun k_ hk_ hs_ => Or.elim hs_ (fun e_ => (hk_.2.1) e_) (fun e_ => (hk_.2.2) e_))) (fun k_ hk_ => ⟨hk_.1.1, hk_.1.2.1, hk_.1.2.2⟩)); have n2_ := aS_ (Kd.R_reok rfl hy0 (fun k_ e_ => HO_219000.out.1 k_ e_)); have n3_ := aS_ (Kd.R_reok rfl hy1 (fun k_ e_ => HO_219001.out.1 k_ e_)); have n4_ := aS_ (blk_kept (by (with_reducible repeat (first | refine kN_ ?_ _ | refine kD_ ?_ | refine kA_ ?_ _)); exact BK207.out) hkp (fun hs_ => Or.elim hs_ (fun e_ => (fun e_ => (Kd.R_ne HO_219000.out BK207.out (by decide)) e_) e_) (fun e_ => (fun e_ => (Kd.R_ne HO_219001.out BK207.out (by decide)) e_) e_))); have n5_ := aS_ (blk_kept (by (with_reducible repeat (first | refine kN_ ?_ _ | refine kD_ ?_ | refine kA_ ?_ _)); exact BK218.out) hkp (fun hs_ => Or.elim hs_ (fun e_ => (fun e_ => (Kd.R_ne HO_219000.out BK218.out (by decide)) e_) e_) (fun e_ => (fun e_ => (Kd.R_ne HO_219001.out BK218.out (by decide)) e_) e_))); have n6_ := aS_ (hb); clear HO_208000; clear HO_208001; clear HO_219000; clear HO_219001; clear BK207; clear BK218; clear HB; have HO_208000 := n0_; have HO_208001 := n1_; have HO_219000 := n2_; have HO_219001 := n3_; have BK207 := n4_; have BK218 := n5_; have HB := n6_; clear n0_ n1_ n2_ n3_ n4_ n5_ n6_; (try clear hb); (try clear hkp); (try clear hy0); (try clear hy1); have hcz60_0 : w59.cell? ⟨gb218, 0, none⟩ = some (.slice Ao19 t211.length co19) := (blk_cell BK218.out 0).trans rfl; have hcz60_1 : w59.cell? ⟨gb218, 1, none⟩ = some (.slice Ao22 t214.length co22) := (blk_cell BK218.out 1).trans rfl; have hfz60_0 := blk_frozen BK218.out 0; have hfz60_1 := blk_frozen BK218.out 1) | ((with_reducible refine gate_callee (f := 11) rfl ?_); refine goesL_ (some 64) rfl rfl Try.func11 (by kernel_rfl) rfl #[.agg #[.slice Ao19 t228.length co19, .slice Ao22 t229.length co22], .int .i64 1] rfl (by (try simp only [List.map_toArray, List.map_cons, List.map_nil]); first | done | (rw [show t228.length = t211.length from (Kd.R_reads' HO_219000.out).1.symm, show t229.length = t214.length from (Kd.R_reads' HO_219001.out).1.symm] <;> rfl) | rfl | (simp only [List.length_drop, List.length_take]; rfl)) ?_; (with_reducible refine (laws_heldRegion.calls kj37 _ _ t228 _ _ t229 1 t230 _ ?side1 ?side2 ?side3 ?side4 A55.out).mono ?_); (case side1 => repeat (first | exact (Kd.R_reads' HO_219000.out).2.2 | (with_reducible refine Kd.C_alloc ?_ _) | (with_reducible refine Kd.C_drewN ?_ _) | (with_reducible refine Kd.C_drew ?_))); (case side2 => rw [show t228.length = t211.length from (Kd.R_reads' HO_219000.out).1.symm]; exact (Kd.R_reads' HO_219000.out).2.1); (case side3 => repeat (first | exact (Kd.R_reads' HO_219001.out).2.2 | (with_reducible refine Kd.C_alloc ?_ _) | (with_reducible refine Kd.C_drewN ?_ _) | (with_reducible refine Kd.C_drew ?_))); (case side4 => rw [show t229.length = t214.length from (Kd.R_reads' HO_219001.out).1.symm]; exact (Kd.R_reads' HO_219001.out).2.1); rintro e w61 ⟨rfl, hb⟩; refine ⟨_, rfl, ?_⟩; have n0_ := aS_ (Kd.R_below (by (with_reducible repeat (first | apply rA_ | apply rN_ | apply rD_)); exact HO_208000.out) hb); have n1_ := aS_ (Kd.R_below (by (with_reducible repeat (first | apply rA_ | apply rN_ | apply rD_)); exact HO_208001.out) hb); have n2_ := aS_ (Kd.R_below (by (with_reducible repeat (first | apply rA_ | apply rN_ | apply rD_)); exact HO_219000.out) hb); have n3_ := aS_ (Kd.R_below (by (with_reducible repeat (first | apply rA_ | apply rN_ | apply rD_)); exact HO_219001.out) hb); have n4_ := aS_ (blk_below (g := gb207) (o := .cells #[.slice Ao12 t200.length co12, .slice Ao14 t203.length co14] 24 (0, 0)) (by (with_reducible repeat (first | refine kN_ ?_ _ | refine kD_ ?_ | refine kA_ ?_ _)); exact BK207.out) hb); have n5_ := aS_ (blk_below (g := gb218) (o := .cells #[.slice Ao19 t211.length co19, .slice Ao22 t214.length co22] 24 (0, 0)) (by (with_reducible repeat (first | refine kN_ ?_ _ | refine kD_ ?_ | refine kA_ ?_ _)); exact BK218.out) hb); have n6_ := aS_ (below_step (by repeat (first | (with_reducible first | exact HB.out | apply bA_ | apply pN_ | apply bD_ | refine bS_ ?_ GE207.out | refine bS_ ?_ GE218.out) | exact HB.out)) hb); clear HO_208000; clear HO_208001; clear HO_219000; clear HO_219001; clear BK207; clear BK218; clear HB; have HO_208000 := n0_; have HO_208001 := n1_; have HO_219000 := n2_; have HO_219001 := n3_; have BK207 := n4_; have BK218 := n5_; have HB := n6_; clear n0_ n1_ n2_ n3_ n4_ n5_ n6_; (try clear hb); (try clear hb2); (try clear hk); (try clear hi)))
          go_ret
          exact ⟨by first | rfl | (simp [errW_none, errW_some] <;> rfl) | (simp [*, errW_none, errW_some] <;> rfl), by repeat (first | (with_reducible first | exact HB.out | apply bA_ | apply pN_ | apply bD_ | refine bS_ ?_ GE207.out | refine bS_ ?_ GE218.out) | exact HB.out)⟩
         ·rw [if_neg c56] at H
          have c56b0 : decide (t230 < 0) = false := decide_eq_false c56
          clear c56
          by_cases c62 : t230 = t227
          ·rw [if_pos c62] at H
           have c62b0 : (t230 == t227) = true := beq_iff_eq.mpr c62
           have c62b1 : (t230 != t227) = false := bne_eq_false_iff_eq.mpr c62
           clear c62
           replace H := Option.bind_eq_some_iff.mp H
           obtain ⟨t231, A630, H⟩ := H
           have A63 := aS_ A630
           clear A630
           replace H := Option.bind_eq_some_iff.mp H
           obtain ⟨⟨t234, t237, t240⟩, A640, H⟩ := H
           have A64 := aS_ A640
           clear A640
           have HC65 := aS_ H
           clear H
           have hnb66 := NB218_207.out
           have hnc66 := NB207_218.out
           have hcz67_0 : wc.cell? ⟨gb218, 0, none⟩ = some (.slice Ao19 t211.length co19) := (blk_cell BK218.out 0).trans rfl
           have hcz67_1 : wc.cell? ⟨gb218, 1, none⟩ = some (.slice Ao22 t214.length co22) := (blk_cell BK218.out 1).trans rfl
           have hfz67_0 := blk_frozen BK218.out 0
           have hfz67_1 := blk_frozen BK218.out 1
           go_upto_region 23 with (first | ((with_reducible refine gate_callee (f := 10) rfl ?_); refine goesL_ (some 61) rfl rfl Try.func10 (by kernel_rfl) rfl #[.agg #[.slice Ao19 t211.length co19, .slice Ao22 t214.length co22], .int .i64 1] rfl (by (try simp only [List.map_toArray, List.map_cons, List.map_nil]); first | done | rfl | (simp only [List.length_drop, List.length_take]; rfl)) ?_; (with_reducible refine (laws_markRegion.calls kj37 (fun k_ => some k_ = (.slice Ao19 t211.length co19 : Value).ownBlock) (.slice Ao19 t211.length co19) t211 (fun k_ => some k_ = (.slice Ao22 t214.length co22 : Value).ownBlock) (.slice Ao22 t214.length co22) t214 1 t227 t228 t229 w _ ?side1 ?side2 ?side3 ?side4 ?side5 A54.out).mono ?_); (case side1 => repeat (first | (with_reducible first | exact HB.out | apply bA_ | apply pN_ | apply bD_ | refine bS_ ?_ GE207.out | refine bS_ ?_ GE218.out) | exact HB.out)); (case side2 => exact Kd.R_tight rfl HO_219000.out); (case side3 => exact fun k_ e_ => (HO_219000.out.1 k_ e_.symm).2.2); (case side4 => exact Kd.R_tight rfl HO_219001.out); (case side5 => exact fun k_ e_ => (HO_219001.out.1 k_ e_.symm).2.2); rintro e w68 ⟨rfl, hy0, hy1, hb, hkp⟩; refine ⟨_, rfl, ?_⟩; have n0_ := aS_ (Kd.R_mono (ok' := fun k_ => some k_ ≠ (.slice Ao14 t203.length co14 : Value).ownBlock ∧ some k_ ≠ (.slice Ao19 t211.length co19 : Value).ownBlock ∧ some k_ ≠ (.slice Ao22 t214.length co22 : Value).ownBlock) (Kd.R_keptB (HO_208000.out) hkp (fun k_ hk_ hs_ => Or.elim hs_ (fun e_ => (hk_.2.1) e_) (fun e_ => (hk_.2.2) e_))) (fun k_ hk_ => ⟨hk_.1.1, hk_.1.2.1, hk_.1.2.2⟩)); have n1_ := aS_ (Kd.R_mono (ok' := fun k_ => some k_ ≠ (.slice Ao12 t200.length co12 : Value).ownBlock ∧ some k_ ≠ (.slice Ao19 t211.length co19 : Value).ownBlock ∧ some k_ ≠ (.slice Ao22 t214.length co22 : Value).ownBlock) (Kd.R_keptB (HO_208001.out) hkp (fun k_ hk_ hs_ => Or.elim hs_ (fun e_ => (hk_.2.1) e_) (fun e_ => (hk_.2.2) e_))) (fun k_ hk_ => ⟨hk_.1.1, hk_.1.2.1, hk_.1.2.2⟩)); have n2_ := aS_ (Kd.R_reok rfl hy0 (fun k_ e_ => HO_219000.out.1 k_ e_)); have n3_ := aS_ (Kd.R_reok rfl hy1 (fun k_ e_ => HO_219001.out.1 k_ e_)); have n4_ := aS_ (blk_kept (by (with_reducible repeat (first | refine kN_ ?_ _ | refine kD_ ?_ | refine kA_ ?_ _)); exact BK207.out) hkp (fun hs_ => Or.elim hs_ (fun e_ => (fun e_ => (Kd.R_ne HO_219000.out BK207.out (by decide)) e_) e_) (fun e_ => (fun e_ => (Kd.R_ne HO_219001.out BK207.out (by decide)) e_) e_))); have n5_ := aS_ (blk_kept (by (with_reducible repeat (first | refine kN_ ?_ _ | refine kD_ ?_ | refine kA_ ?_ _)); exact BK218.out) hkp (fun hs_ => Or.elim hs_ (fun e_ => (fun e_ => (Kd.R_ne HO_219000.out BK218.out (by decide)) e_) e_) (fun e_ => (fun e_ => (Kd.R_ne HO_219001.out BK218.out (by decide)) e_) e_))); have n6_ := aS_ (hb); clear HO_208000; clear HO_208001; clear HO_219000; clear HO_219001; clear BK207; clear BK218; clear HB; have HO_208000 := n0_; have HO_208001 := n1_; have HO_219000 := n2_; have HO_219001 := n3_; have BK207 := n4_; have BK218 := n5_; have HB := n6_; clear n0_ n1_ n2_ n3_ n4_ n5_ n6_; (try clear hb); (try clear hkp); (try clear hy0); (try clear hy1); have hcz69_0 : w68.cell? ⟨gb218, 0, none⟩ = some (.slice Ao19 t211.length co19) := (blk_cell BK218.out 0).trans rfl; have hcz69_1 : w68.cell? ⟨gb218, 1, none⟩ = some (.slice Ao22 t214.length co22) := (blk_cell BK218.out 1).trans rfl; have hfz69_0 := blk_frozen BK218.out 0; have hfz69_1 := blk_frozen BK218.out 1) | ((with_reducible refine gate_callee (f := 11) rfl ?_); refine goesL_ (some 64) rfl rfl Try.func11 (by kernel_rfl) rfl #[.agg #[.slice Ao19 t228.length co19, .slice Ao22 t229.length co22], .int .i64 1] rfl (by (try simp only [List.map_toArray, List.map_cons, List.map_nil]); first | done | (rw [show t228.length = t211.length from (Kd.R_reads' HO_219000.out).1.symm, show t229.length = t214.length from (Kd.R_reads' HO_219001.out).1.symm] <;> rfl) | rfl | (simp only [List.length_drop, List.length_take]; rfl)) ?_; (with_reducible refine (laws_heldRegion.calls kj37 _ _ t228 _ _ t229 1 t230 _ ?side1 ?side2 ?side3 ?side4 A55.out).mono ?_); (case side1 => repeat (first | exact (Kd.R_reads' HO_219000.out).2.2 | (with_reducible refine Kd.C_alloc ?_ _) | (with_reducible refine Kd.C_drewN ?_ _) | (with_reducible refine Kd.C_drew ?_))); (case side2 => rw [show t228.length = t211.length from (Kd.R_reads' HO_219000.out).1.symm]; exact (Kd.R_reads' HO_219000.out).2.1); (case side3 => repeat (first | exact (Kd.R_reads' HO_219001.out).2.2 | (with_reducible refine Kd.C_alloc ?_ _) | (with_reducible refine Kd.C_drewN ?_ _) | (with_reducible refine Kd.C_drew ?_))); (case side4 => rw [show t229.length = t214.length from (Kd.R_reads' HO_219001.out).1.symm]; exact (Kd.R_reads' HO_219001.out).2.1); rintro e w70 ⟨rfl, hb⟩; refine ⟨_, rfl, ?_⟩; have n0_ := aS_ (Kd.R_below (by (with_reducible repeat (first | apply rA_ | apply rN_ | apply rD_)); exact HO_208000.out) hb); have n1_ := aS_ (Kd.R_below (by (with_reducible repeat (first | apply rA_ | apply rN_ | apply rD_)); exact HO_208001.out) hb); have n2_ := aS_ (Kd.R_below (by (with_reducible repeat (first | apply rA_ | apply rN_ | apply rD_)); exact HO_219000.out) hb); have n3_ := aS_ (Kd.R_below (by (with_reducible repeat (first | apply rA_ | apply rN_ | apply rD_)); exact HO_219001.out) hb); have n4_ := aS_ (blk_below (g := gb207) (o := .cells #[.slice Ao12 t200.length co12, .slice Ao14 t203.length co14] 24 (0, 0)) (by (with_reducible repeat (first | refine kN_ ?_ _ | refine kD_ ?_ | refine kA_ ?_ _)); exact BK207.out) hb); have n5_ := aS_ (blk_below (g := gb218) (o := .cells #[.slice Ao19 t211.length co19, .slice Ao22 t214.length co22] 24 (0, 0)) (by (with_reducible repeat (first | refine kN_ ?_ _ | refine kD_ ?_ | refine kA_ ?_ _)); exact BK218.out) hb); have n6_ := aS_ (below_step (by repeat (first | (with_reducible first | exact HB.out | apply bA_ | apply pN_ | apply bD_ | refine bS_ ?_ GE207.out | refine bS_ ?_ GE218.out) | exact HB.out)) hb); clear HO_208000; clear HO_208001; clear HO_219000; clear HO_219001; clear BK207; clear BK218; clear HB; have HO_208000 := n0_; have HO_208001 := n1_; have HO_219000 := n2_; have HO_219001 := n3_; have BK207 := n4_; have BK218 := n5_; have HB := n6_; clear n0_ n1_ n2_ n3_ n4_ n5_ n6_; (try clear hb); (try clear hb2); (try clear hk); (try clear hi)) | ((with_reducible refine gate_callee (f := 5) rfl ?_); refine goesL_ (some 72) rfl rfl Try.func5 (by kernel_rfl) rfl #[.slice A0 l0.length c0] rfl (by (try simp only [List.map_toArray, List.map_cons, List.map_nil]); first | done | rfl | (simp only [List.length_drop, List.length_take]; rfl)) ?_; (with_reducible refine (laws_toIntS.calls kj37 _ _ l0 t231 _ ?side1 ?side2 A63.out).mono ?_); (case side1 => repeat (first | exact (Kd.C_below HR0.out HB.out) | (with_reducible refine Kd.C_alloc ?_ _) | (with_reducible refine Kd.C_drewN ?_ _) | (with_reducible refine Kd.C_drew ?_))); (case side2 => exact HC0.out); rintro e w71 ⟨v232, rfl, ho0, hb⟩; refine ⟨_, rfl, ?_⟩; have n0_ := aS_ (Kd.R_elder' (by (with_reducible repeat (first | apply rA_ | apply rN_ | apply rD_)); exact HO_208000.out) (Kd.R_base ho0) hb); have n1_ := aS_ (Kd.R_elder' (by (with_reducible repeat (first | apply rA_ | apply rN_ | apply rD_)); exact HO_208001.out) (Kd.R_base ho0) hb); have n2_ := aS_ (Kd.R_elder' (by (with_reducible repeat (first | apply rA_ | apply rN_ | apply rD_)); exact HO_219000.out) (Kd.R_base ho0) hb); have n3_ := aS_ (Kd.R_elder' (by (with_reducible repeat (first | apply rA_ | apply rN_ | apply rD_)); exact HO_219001.out) (Kd.R_base ho0) hb); have n4_ := aS_ (Kd.R_lower (Kd.R_new' (Kd.R_new' (Kd.R_new' (Kd.R_new' ho0 (Kd.R_lt (by (with_reducible repeat (first | apply rA_ | apply rN_ | apply rD_)); exact HO_208000.out))) (Kd.R_lt (by (with_reducible repeat (first | apply rA_ | apply rN_ | apply rD_)); exact HO_208001.out))) (Kd.R_lt (by (with_reducible repeat (first | apply rA_ | apply rN_ | apply rD_)); exact HO_219000.out))) (Kd.R_lt (by (with_reducible repeat (first | apply rA_ | apply rN_ | apply rD_)); exact HO_219001.out))) (below_size (by repeat (first | (with_reducible first | exact HB.out | apply bA_ | apply pN_ | apply bD_ | refine bS_ ?_ GE207.out | refine bS_ ?_ GE218.out) | exact HB.out)))); have n5_ := aS_ (blk_below (g := gb207) (o := .cells #[.slice Ao12 t200.length co12, .slice Ao14 t203.length co14] 24 (0, 0)) (by (with_reducible repeat (first | refine kN_ ?_ _ | refine kD_ ?_ | refine kA_ ?_ _)); exact BK207.out) hb); have n6_ := aS_ (blk_below (g := gb218) (o := .cells #[.slice Ao19 t211.length co19, .slice Ao22 t214.length co22] 24 (0, 0)) (by (with_reducible repeat (first | refine kN_ ?_ _ | refine kD_ ?_ | refine kA_ ?_ _)); exact BK218.out) hb); have n7_ := aS_ (below_step (by repeat (first | (with_reducible first | exact HB.out | apply bA_ | apply pN_ | apply bD_ | refine bS_ ?_ GE207.out | refine bS_ ?_ GE218.out) | exact HB.out)) hb); clear HO_208000; clear HO_208001; clear HO_219000; clear HO_219001; clear BK207; clear BK218; clear HB; have HO_208000 := n0_; have HO_208001 := n1_; have HO_219000 := n2_; have HO_219001 := n3_; have HO233 := n4_; have BK207 := n5_; have BK218 := n6_; have HB := n7_; clear n0_ n1_ n2_ n3_ n4_ n5_ n6_ n7_; (try clear hb); (try clear hb2); (try clear hk); (try clear hi); (try clear ho0); obtain ⟨Ao72, co72, eo72⟩ := Kd.R_slice HO233.out; subst eo72) | ((with_reducible refine gate_callee (f := 6) rfl ?_); refine goesL_ (some 73) rfl rfl Try.func6 (by kernel_rfl) rfl #[.slice Ao72 t231.length co72] rfl (by (try simp only [List.map_toArray, List.map_cons, List.map_nil]); first | done | rfl | (simp only [List.length_drop, List.length_take]; rfl)) ?_; (with_reducible refine (impl_RegionOfPoint.calls _ _ t231 t234 t237 t240 _ ?side1 ?side2 A64.out).mono ?_); (case side1 => repeat (first | exact (Kd.R_reads' HO233.out).2.2 | (with_reducible refine Kd.C_alloc ?_ _) | (with_reducible refine Kd.C_drewN ?_ _) | (with_reducible refine Kd.C_drew ?_))); (case side2 => exact (Kd.R_reads' HO233.out).2.1); rintro e w73 ⟨v235, v238, rfl, ho0, ho1, hb⟩; refine ⟨_, rfl, ?_⟩; have n0_ := aS_ (Kd.R_mono (Kd.R_told (Kd.R_told (Kd.R_old (by (with_reducible repeat (first | apply rA_ | apply rN_ | apply rD_)); exact HO_208000.out) hb) (Kd.R_base ho0)) (Kd.R_base ho1)) (fun _ h_ => h_.1)); have n1_ := aS_ (Kd.R_mono (Kd.R_told (Kd.R_told (Kd.R_old (by (with_reducible repeat (first | apply rA_ | apply rN_ | apply rD_)); exact HO_208001.out) hb) (Kd.R_base ho0)) (Kd.R_base ho1)) (fun _ h_ => h_.1)); have n2_ := aS_ (Kd.R_mono (Kd.R_told (Kd.R_told (Kd.R_old (by (with_reducible repeat (first | apply rA_ | apply rN_ | apply rD_)); exact HO_219000.out) hb) (Kd.R_base ho0)) (Kd.R_base ho1)) (fun _ h_ => h_.1)); have n3_ := aS_ (Kd.R_mono (Kd.R_told (Kd.R_told (Kd.R_old (by (with_reducible repeat (first | apply rA_ | apply rN_ | apply rD_)); exact HO_219001.out) hb) (Kd.R_base ho0)) (Kd.R_base ho1)) (fun _ h_ => h_.1)); have n4_ := aS_ (Kd.R_mono (Kd.R_told (Kd.R_told (Kd.R_old (by (with_reducible repeat (first | apply rA_ | apply rN_ | apply rD_)); exact HO233.out) hb) (Kd.R_base ho0)) (Kd.R_base ho1)) (fun _ h_ => h_.1)); have n5_ := aS_ (Kd.R_lower (Kd.R_new' (Kd.R_new' (Kd.R_new' (Kd.R_new' (Kd.R_new' ho0 (Kd.R_lt (by (with_reducible repeat (first | apply rA_ | apply rN_ | apply rD_)); exact HO_208000.out))) (Kd.R_lt (by (with_reducible repeat (first | apply rA_ | apply rN_ | apply rD_)); exact HO_208001.out))) (Kd.R_lt (by (with_reducible repeat (first | apply rA_ | apply rN_ | apply rD_)); exact HO_219000.out))) (Kd.R_lt (by (with_reducible repeat (first | apply rA_ | apply rN_ | apply rD_)); exact HO_219001.out))) (Kd.R_lt (by (with_reducible repeat (first | apply rA_ | apply rN_ | apply rD_)); exact HO233.out))) (below_size (by repeat (first | (with_reducible first | exact HB.out | apply bA_ | apply pN_ | apply bD_ | refine bS_ ?_ GE207.out | refine bS_ ?_ GE218.out) | exact HB.out)))); have n6_ := aS_ (Kd.R_lower (Kd.R_new' (Kd.R_new' (Kd.R_new' (Kd.R_new' (Kd.R_new' ho1 (Kd.R_lt (by (with_reducible repeat (first | apply rA_ | apply rN_ | apply rD_)); exact HO_208000.out))) (Kd.R_lt (by (with_reducible repeat (first | apply rA_ | apply rN_ | apply rD_)); exact HO_208001.out))) (Kd.R_lt (by (with_reducible repeat (first | apply rA_ | apply rN_ | apply rD_)); exact HO_219000.out))) (Kd.R_lt (by (with_reducible repeat (first | apply rA_ | apply rN_ | apply rD_)); exact HO_219001.out))) (Kd.R_lt (by (with_reducible repeat (first | apply rA_ | apply rN_ | apply rD_)); exact HO233.out))) (below_size (by repeat (first | (with_reducible first | exact HB.out | apply bA_ | apply pN_ | apply bD_ | refine bS_ ?_ GE207.out | refine bS_ ?_ GE218.out) | exact HB.out)))); have n7_ := aS_ (blk_below (g := gb207) (o := .cells #[.slice Ao12 t200.length co12, .slice Ao14 t203.length co14] 24 (0, 0)) (by (with_reducible repeat (first | refine kN_ ?_ _ | refine kD_ ?_ | refine kA_ ?_ _)); exact BK207.out) hb); have n8_ := aS_ (blk_below (g := gb218) (o := .cells #[.slice Ao19 t211.length co19, .slice Ao22 t214.length co22] 24 (0, 0)) (by (with_reducible repeat (first | refine kN_ ?_ _ | refine kD_ ?_ | refine kA_ ?_ _)); exact BK218.out) hb); have n9_ := aS_ (below_step (by repeat (first | (with_reducible first | exact HB.out | apply bA_ | apply pN_ | apply bD_ | refine bS_ ?_ GE207.out | refine bS_ ?_ GE218.out) | exact HB.out)) hb); clear HO_208000; clear HO_208001; clear HO_219000; clear HO_219001; clear HO233; clear BK207; clear BK218; clear HB; have HO_208000 := n0_; have HO_208001 := n1_; have HO_219000 := n2_; have HO_219001 := n3_; have HO233 := n4_; have HO236 := n5_; have HO239 := n6_; have BK207 := n7_; have BK218 := n8_; have HB := n9_; clear n0_ n1_ n2_ n3_ n4_ n5_ n6_ n7_ n8_ n9_; (try clear hb); (try clear hb2); (try clear hk); (try clear hi); (try clear ho0); (try clear ho1)) | ((with_reducible refine gate_dst (N := 11) rfl ?_); refine box_event ?hg (N := 11) ?hd (cs := #[.slice none 0 0, .slice none 0 0]) (t := 24) ?hr ?_; (case hd => rfl); (case hg => rfl); (case hr => first | (go_simp; done) | (go_simp; rfl)); intro gb241 hg w74 hbox hb; have n0_ := aS_ (Kd.R_below (by (with_reducible repeat (first | apply rA_ | apply rN_ | apply rD_)); exact HO_208000.out) hb); have n1_ := aS_ (Kd.R_below (by (with_reducible repeat (first | apply rA_ | apply rN_ | apply rD_)); exact HO_208001.out) hb); have n2_ := aS_ (Kd.R_below (by (with_reducible repeat (first | apply rA_ | apply rN_ | apply rD_)); exact HO_219000.out) hb); have n3_ := aS_ (Kd.R_below (by (with_reducible repeat (first | apply rA_ | apply rN_ | apply rD_)); exact HO_219001.out) hb); have n4_ := aS_ (Kd.R_below (by (with_reducible repeat (first | apply rA_ | apply rN_ | apply rD_)); exact HO233.out) hb); have n5_ := aS_ (Kd.R_below (by (with_reducible repeat (first | apply rA_ | apply rN_ | apply rD_)); exact HO236.out) hb); have n6_ := aS_ (Kd.R_below (by (with_reducible repeat (first | apply rA_ | apply rN_ | apply rD_)); exact HO239.out) hb); have n7_ := aS_ (blk_below (g := gb207) (o := .cells #[.slice Ao12 t200.length co12, .slice Ao14 t203.length co14] 24 (0, 0)) (by (with_reducible repeat (first | refine kN_ ?_ _ | refine kD_ ?_ | refine kA_ ?_ _)); exact BK207.out) hb); have n8_ := aS_ (blk_below (g := gb218) (o := .cells #[.slice Ao19 t211.length co19, .slice Ao22 t214.length co22] 24 (0, 0)) (by (with_reducible repeat (first | refine kN_ ?_ _ | refine kD_ ?_ | refine kA_ ?_ _)); exact BK218.out) hb); have n9_ := aS_ (below_step (by repeat (first | (with_reducible first | exact HB.out | apply bA_ | apply pN_ | apply bD_ | refine bS_ ?_ GE207.out | refine bS_ ?_ GE218.out) | exact HB.out)) hb); have n10_ := aS_ (hbox); have n11_ := aS_ ((by rw [hg]; exact (below_size (by repeat (first | (with_reducible first | exact HB.out | apply bA_ | apply pN_ | apply bD_ | refine bS_ ?_ GE207.out | refine bS_ ?_ GE218.out) | exact HB.out))) : w.heap.size ≤ gb241)); have n12_ := aS_ ((by rw [hg]; exact (below_size (by repeat (first | (with_reducible first | exact HB.out | apply bA_ | apply pN_ | apply bD_ | refine bS_ ?_ GE207.out | refine bS_ ?_ GE218.out) | exact HB.out))) : w.heap.size ≤ gb241)); have n13_ := aS_ ((by rw [hg]; exact Nat.ne_of_lt (blk_lt (g := gb207) (o := .cells #[.slice Ao12 t200.length co12, .slice Ao14 t203.length co14] 24 (0, 0)) (by (with_reducible repeat (first | refine kN_ ?_ _ | refine kD_ ?_ | refine kA_ ?_ _)); exact BK207.out)) : gb207 ≠ gb241)); have n14_ := aS_ ((by rw [hg]; exact Nat.ne_of_gt (blk_lt (g := gb207) (o := .cells #[.slice Ao12 t200.length co12, .slice Ao14 t203.length co14] 24 (0, 0)) (by (with_reducible repeat (first | refine kN_ ?_ _ | refine kD_ ?_ | refine kA_ ?_ _)); exact BK207.out)) : gb241 ≠ gb207)); have n15_ := aS_ ((by rw [hg]; exact Nat.ne_of_lt (blk_lt (g := gb218) (o := .cells #[.slice Ao19 t211.length co19, .slice Ao22 t214.length co22] 24 (0, 0)) (by (with_reducible repeat (first | refine kN_ ?_ _ | refine kD_ ?_ | refine kA_ ?_ _)); exact BK218.out)) : gb218 ≠ gb241)); have n16_ := aS_ ((by rw [hg]; exact Nat.ne_of_gt (blk_lt (g := gb218) (o := .cells #[.slice Ao19 t211.length co19, .slice Ao22 t214.length co22] 24 (0, 0)) (by (with_reducible repeat (first | refine kN_ ?_ _ | refine kD_ ?_ | refine kA_ ?_ _)); exact BK218.out)) : gb241 ≠ gb218)); clear HO_208000; clear HO_208001; clear HO_219000; clear HO_219001; clear HO233; clear HO236; clear HO239; clear BK207; clear BK218; clear HB; have HO_208000 := n0_; have HO_208001 := n1_; have HO_219000 := n2_; have HO_219001 := n3_; have HO233 := n4_; have HO236 := n5_; have HO239 := n6_; have BK207 := n7_; have BK218 := n8_; have HB := n9_; have BK241 := n10_; have GW241 := n11_; have GE241 := n12_; have NB207_241 := n13_; have NB241_207 := n14_; have NB218_241 := n15_; have NB241_218 := n16_; clear n0_ n1_ n2_ n3_ n4_ n5_ n6_ n7_ n8_ n9_ n10_ n11_ n12_ n13_ n14_ n15_ n16_; clear hb hbox hg; obtain ⟨Ao75, co75, eo75⟩ := Kd.R_slice HO236.out; subst eo75; have hnb76 := NB241_207.out; have hnc76 := NB207_241.out; have hnb77 := NB241_218.out; have hnc77 := NB218_241.out; have hcz78_0 : w74.cell? ⟨gb241, 0, none⟩ = some (.slice none 0 0) := (blk_cell BK241.out 0).trans rfl; have hcz78_1 : w74.cell? ⟨gb241, 1, none⟩ = some (.slice none 0 0) := (blk_cell BK241.out 1).trans rfl; have hfz78_0 := blk_frozen BK241.out 0; have hfz78_1 := blk_frozen BK241.out 1; obtain ⟨Ao79, co79, eo79⟩ := Kd.R_slice HO239.out; subst eo79))
           (try simp only [Act.put, List.setIfInBounds_toArray, List.set_cons_zero, List.set_cons_succ])
           go_cut [84] (fun v84 wc => ∃ (kq : Nat) (x84_64 : Bool), v84 = .bool x84_64 ∧ Aside0 (laws_FnExactRegionOfPoint.j2 kq t227 x84_64 t228 t229 = some r) ∧ Aside0 (kq ≤ kj37) ∧ Aside0 (Kd.R (Kd.int .i64) 3 wc w.heap.size (fun k_ => some k_ ≠ ((.slice Ao14 t203.length co14) : Value).ownBlock ∧ some k_ ≠ ((.slice Ao19 t211.length co19) : Value).ownBlock ∧ some k_ ≠ ((.slice Ao22 t214.length co22) : Value).ownBlock ∧ some k_ ≠ ((.slice Ao75 t234.length co75) : Value).ownBlock ∧ some k_ ≠ ((.slice Ao79 t237.length co79) : Value).ownBlock) (.slice Ao12 t200.length co12) t200) ∧ Aside0 (Kd.R (Kd.int .i64) 3 wc w.heap.size (fun k_ => some k_ ≠ ((.slice Ao12 t200.length co12) : Value).ownBlock ∧ some k_ ≠ ((.slice Ao19 t211.length co19) : Value).ownBlock ∧ some k_ ≠ ((.slice Ao22 t214.length co22) : Value).ownBlock ∧ some k_ ≠ ((.slice Ao75 t234.length co75) : Value).ownBlock ∧ some k_ ≠ ((.slice Ao79 t237.length co79) : Value).ownBlock) (.slice Ao14 t203.length co14) t203) ∧ Aside0 (Kd.R (Kd.int .i64) 3 wc w.heap.size (fun k_ => some k_ ≠ ((.slice Ao12 t200.length co12) : Value).ownBlock ∧ some k_ ≠ ((.slice Ao14 t203.length co14) : Value).ownBlock ∧ some k_ ≠ ((.slice Ao22 t214.length co22) : Value).ownBlock ∧ some k_ ≠ ((.slice Ao75 t234.length co75) : Value).ownBlock ∧ some k_ ≠ ((.slice Ao79 t237.length co79) : Value).ownBlock) (.slice Ao19 t211.length co19) t228) ∧ Aside0 (Kd.R (Kd.int .i64) 3 wc w.heap.size (fun k_ => some k_ ≠ ((.slice Ao12 t200.length co12) : Value).ownBlock ∧ some k_ ≠ ((.slice Ao14 t203.length co14) : Value).ownBlock ∧ some k_ ≠ ((.slice Ao19 t211.length co19) : Value).ownBlock ∧ some k_ ≠ ((.slice Ao75 t234.length co75) : Value).ownBlock ∧ some k_ ≠ ((.slice Ao79 t237.length co79) : Value).ownBlock) (.slice Ao22 t214.length co22) t229) ∧ Aside0 (Kd.R (Kd.int .i64) 3 wc w.heap.size (fun k_ => some k_ ≠ ((.slice Ao12 t200.length co12) : Value).ownBlock ∧ some k_ ≠ ((.slice Ao14 t203.length co14) : Value).ownBlock ∧ some k_ ≠ ((.slice Ao19 t211.length co19) : Value).ownBlock ∧ some k_ ≠ ((.slice Ao22 t214.length co22) : Value).ownBlock ∧ some k_ ≠ ((.slice Ao79 t237.length co79) : Value).ownBlock) (.slice Ao75 t234.length co75) t234) ∧ Aside0 (Kd.R (Kd.int .i64) 3 wc w.heap.size (fun k_ => some k_ ≠ ((.slice Ao12 t200.length co12) : Value).ownBlock ∧ some k_ ≠ ((.slice Ao14 t203.length co14) : Value).ownBlock ∧ some k_ ≠ ((.slice Ao19 t211.length co19) : Value).ownBlock ∧ some k_ ≠ ((.slice Ao22 t214.length co22) : Value).ownBlock ∧ some k_ ≠ ((.slice Ao75 t234.length co75) : Value).ownBlock) (.slice Ao79 t237.length co79) t237) ∧ Aside0 (wc.heap[gb207]? = some (.cells #[(.slice Ao12 t200.length co12), (.slice Ao14 t203.length co14)] 24 (0, 0))) ∧ Aside0 (wc.heap[gb218]? = some (.cells #[(.slice Ao19 t211.length co19), (.slice Ao22 t214.length co22)] 24 (0, 0))) ∧ Aside0 (wc.heap[gb241]? = some (.cells #[(.slice Ao75 t234.length co75), (.slice Ao79 t237.length co79)] 24 (0, 0))) ∧ Aside0 (Below w.heap.size w wc))
           case first =>
            have H := HC65.out
            clear HC65
            replace H := Option.bind_eq_some_iff.mp H
            obtain ⟨t242, A800, H⟩ := H
            have A80 := aS_ A800
            clear A800
            by_cases c81 : t242 = true
            ·subst c81
             rw [if_pos rfl] at H
             have H' := aS_ H
             clear H
             have hnb82 := NB241_207.out
             have hnc82 := NB207_241.out
             have hnb83 := NB241_218.out
             have hnc83 := NB218_241.out
             have hcz84_0 : w74.cell? ⟨gb241, 0, none⟩ = some (.slice none 0 0) := (blk_cell BK241.out 0).trans rfl
             have hcz84_1 : w74.cell? ⟨gb241, 1, none⟩ = some (.slice none 0 0) := (blk_cell BK241.out 1).trans rfl
             have hfz84_0 := blk_frozen BK241.out 0
             have hfz84_1 := blk_frozen BK241.out 1
             have hnb85 := NB207_218.out
             have hnc85 := NB218_207.out
             have hcz86_0 : w74.cell? ⟨gb207, 0, none⟩ = some (.slice Ao12 t200.length co12) := (blk_cell BK207.out 0).trans rfl
             have hcz86_1 : w74.cell? ⟨gb207, 1, none⟩ = some (.slice Ao14 t203.length co14) := (blk_cell BK207.out 1).trans rfl
             have hfz86_0 := blk_frozen BK207.out 0
             have hfz86_1 := blk_frozen BK207.out 1
             go_wp2_with (first | ((with_reducible refine gate_callee (f := 7) rfl ?_); refine goesL_ (some 78) rfl rfl Try.func7 (by kernel_rfl) rfl #[.agg #[.slice Ao75 t234.length co75, .slice Ao79 t237.length co79], .agg #[.slice Ao12 t200.length co12, .slice Ao14 t203.length co14]] rfl (by (try simp only [List.map_toArray, List.map_cons, List.map_nil]); first | done | rfl | (simp only [List.length_drop, List.length_take]; rfl)) ?_; (with_reducible refine (laws_eqRegion.calls kj37 _ _ t234 _ _ t237 _ _ t200 _ _ t203 true _ ?side1 ?side2 ?side3 ?side4 ?side5 ?side6 ?side7 ?side8 A80.out).mono ?_); (case side1 => refine (Kd.R_reads' (e := 3) (base := w.heap.size) (ok := fun k_ => (((((some k_ ≠ (.slice Ao79 t237.length co79 : Value).ownBlock ∧ some k_ ≠ (.slice Ao12 t200.length co12 : Value).ownBlock) ∧ some k_ ≠ (.slice Ao14 t203.length co14 : Value).ownBlock) ∧ some k_ ≠ (.slice Ao19 t211.length co19 : Value).ownBlock) ∧ some k_ ≠ (.slice Ao22 t214.length co22 : Value).ownBlock) ∧ some k_ ≠ (.slice Ao72 t231.length co72 : Value).ownBlock)) (n := t234.length) (c := co75) ?_).2.2; exact (by (with_reducible repeat (first | apply rA_ | apply rN_ | apply rD_)); exact (Kd.R_mono (Kd.R_far (p := ⟨gb241, 1, none⟩) (Kd.R_far (p := ⟨gb241, 0, none⟩) (Kd.R_types HO236.out BK241.out (by decide)) (fun _ hk => hk.2) (.slice Ao75 t234.length co75)) (fun _ hk => hk.2) (.slice Ao79 t237.length co79)) (fun _ h_ => h_.1)))); (case side2 => exact (Kd.R_reads' HO236.out).2.1); (case side3 => refine (Kd.R_reads' (e := 3) (base := w.heap.size) (ok := fun k_ => (((((some k_ ≠ (.slice Ao75 t234.length co75 : Value).ownBlock ∧ some k_ ≠ (.slice Ao12 t200.length co12 : Value).ownBlock) ∧ some k_ ≠ (.slice Ao14 t203.length co14 : Value).ownBlock) ∧ some k_ ≠ (.slice Ao19 t211.length co19 : Value).ownBlock) ∧ some k_ ≠ (.slice Ao22 t214.length co22 : Value).ownBlock) ∧ some k_ ≠ (.slice Ao72 t231.length co72 : Value).ownBlock)) (n := t237.length) (c := co79) ?_).2.2; exact (by (with_reducible repeat (first | apply rA_ | apply rN_ | apply rD_)); exact (Kd.R_mono (Kd.R_far (p := ⟨gb241, 1, none⟩) (Kd.R_far (p := ⟨gb241, 0, none⟩) (Kd.R_types HO239.out BK241.out (by decide)) (fun _ hk => hk.2) (.slice Ao75 t234.length co75)) (fun _ hk => hk.2) (.slice Ao79 t237.length co79)) (fun _ h_ => h_.1)))); (case side4 => exact (Kd.R_reads' HO239.out).2.1); (case side5 => refine (Kd.R_reads' (e := 3) (base := w.heap.size) (ok := fun k_ => ((((some k_ ≠ (.slice Ao14 t203.length co14 : Value).ownBlock ∧ (some k_ ≠ (.slice Ao19 t211.length co19 : Value).ownBlock ∧ some k_ ≠ (.slice Ao22 t214.length co22 : Value).ownBlock)) ∧ some k_ ≠ (.slice Ao72 t231.length co72 : Value).ownBlock) ∧ some k_ ≠ (.slice Ao75 t234.length co75 : Value).ownBlock) ∧ some k_ ≠ (.slice Ao79 t237.length co79 : Value).ownBlock)) (n := t200.length) (c := co12) ?_).2.2; exact (by (with_reducible repeat (first | apply rA_ | apply rN_ | apply rD_)); exact (Kd.R_mono (Kd.R_far (p := ⟨gb241, 1, none⟩) (Kd.R_far (p := ⟨gb241, 0, none⟩) (Kd.R_types HO_208000.out BK241.out (by decide)) (fun _ hk => hk.2) (.slice Ao75 t234.length co75)) (fun _ hk => hk.2) (.slice Ao79 t237.length co79)) (fun _ h_ => h_.1)))); (case side6 => exact (Kd.R_reads' HO_208000.out).2.1); (case side7 => refine (Kd.R_reads' (e := 3) (base := w.heap.size) (ok := fun k_ => ((((some k_ ≠ (.slice Ao12 t200.length co12 : Value).ownBlock ∧ (some k_ ≠ (.slice Ao19 t211.length co19 : Value).ownBlock ∧ some k_ ≠ (.slice Ao22 t214.length co22 : Value).ownBlock)) ∧ some k_ ≠ (.slice Ao72 t231.length co72 : Value).ownBlock) ∧ some k_ ≠ (.slice Ao75 t234.length co75 : Value).ownBlock) ∧ some k_ ≠ (.slice Ao79 t237.length co79 : Value).ownBlock)) (n := t203.length) (c := co14) ?_).2.2; exact (by (with_reducible repeat (first | apply rA_ | apply rN_ | apply rD_)); exact (Kd.R_mono (Kd.R_far (p := ⟨gb241, 1, none⟩) (Kd.R_far (p := ⟨gb241, 0, none⟩) (Kd.R_types HO_208001.out BK241.out (by decide)) (fun _ hk => hk.2) (.slice Ao75 t234.length co75)) (fun _ hk => hk.2) (.slice Ao79 t237.length co79)) (fun _ h_ => h_.1)))); (case side8 => exact (Kd.R_reads' HO_208001.out).2.1); rintro e w87 ⟨rfl, hb⟩; refine ⟨_, rfl, ?_⟩; have n0_ := aS_ (Kd.R_below (by (with_reducible repeat (first | apply rA_ | apply rN_ | apply rD_)); exact (Kd.R_mono (Kd.R_far (p := ⟨gb241, 1, none⟩) (Kd.R_far (p := ⟨gb241, 0, none⟩) (Kd.R_types HO_208000.out BK241.out (by decide)) (fun _ hk => hk.2) (.slice Ao75 t234.length co75)) (fun _ hk => hk.2) (.slice Ao79 t237.length co79)) (fun _ h_ => h_.1))) hb); have n1_ := aS_ (Kd.R_below (by (with_reducible repeat (first | apply rA_ | apply rN_ | apply rD_)); exact (Kd.R_mono (Kd.R_far (p := ⟨gb241, 1, none⟩) (Kd.R_far (p := ⟨gb241, 0, none⟩) (Kd.R_types HO_208001.out BK241.out (by decide)) (fun _ hk => hk.2) (.slice Ao75 t234.length co75)) (fun _ hk => hk.2) (.slice Ao79 t237.length co79)) (fun _ h_ => h_.1))) hb); have n2_ := aS_ (Kd.R_below (by (with_reducible repeat (first | apply rA_ | apply rN_ | apply rD_)); exact (Kd.R_mono (Kd.R_far (p := ⟨gb241, 1, none⟩) (Kd.R_far (p := ⟨gb241, 0, none⟩) (Kd.R_types HO_219000.out BK241.out (by decide)) (fun _ hk => hk.2) (.slice Ao75 t234.length co75)) (fun _ hk => hk.2) (.slice Ao79 t237.length co79)) (fun _ h_ => h_.1))) hb); have n3_ := aS_ (Kd.R_below (by (with_reducible repeat (first | apply rA_ | apply rN_ | apply rD_)); exact (Kd.R_mono (Kd.R_far (p := ⟨gb241, 1, none⟩) (Kd.R_far (p := ⟨gb241, 0, none⟩) (Kd.R_types HO_219001.out BK241.out (by decide)) (fun _ hk => hk.2) (.slice Ao75 t234.length co75)) (fun _ hk => hk.2) (.slice Ao79 t237.length co79)) (fun _ h_ => h_.1))) hb); have n4_ := aS_ (Kd.R_below (by (with_reducible repeat (first | apply rA_ | apply rN_ | apply rD_)); exact (Kd.R_mono (Kd.R_far (p := ⟨gb241, 1, none⟩) (Kd.R_far (p := ⟨gb241, 0, none⟩) (Kd.R_types HO233.out BK241.out (by decide)) (fun _ hk => hk.2) (.slice Ao75 t234.length co75)) (fun _ hk => hk.2) (.slice Ao79 t237.length co79)) (fun _ h_ => h_.1))) hb); have n5_ := aS_ (Kd.R_below (by (with_reducible repeat (first | apply rA_ | apply rN_ | apply rD_)); exact (Kd.R_mono (Kd.R_far (p := ⟨gb241, 1, none⟩) (Kd.R_far (p := ⟨gb241, 0, none⟩) (Kd.R_types HO236.out BK241.out (by decide)) (fun _ hk => hk.2) (.slice Ao75 t234.length co75)) (fun _ hk => hk.2) (.slice Ao79 t237.length co79)) (fun _ h_ => h_.1))) hb); have n6_ := aS_ (Kd.R_below (by (with_reducible repeat (first | apply rA_ | apply rN_ | apply rD_)); exact (Kd.R_mono (Kd.R_far (p := ⟨gb241, 1, none⟩) (Kd.R_far (p := ⟨gb241, 0, none⟩) (Kd.R_types HO239.out BK241.out (by decide)) (fun _ hk => hk.2) (.slice Ao75 t234.length co75)) (fun _ hk => hk.2) (.slice Ao79 t237.length co79)) (fun _ h_ => h_.1))) hb); have n7_ := aS_ (blk_below (g := gb207) (o := .cells #[.slice Ao12 t200.length co12, .slice Ao14 t203.length co14] 24 (0, 0)) (by (with_reducible repeat (first | refine kN_ ?_ _ | refine kD_ ?_ | refine kA_ ?_ _)); refine blk_far ?_ NB207_241.out _; (with_reducible repeat (first | refine kN_ ?_ _ | refine kD_ ?_ | refine kA_ ?_ _)); refine blk_far ?_ NB207_241.out _; (with_reducible repeat (first | refine kN_ ?_ _ | refine kD_ ?_ | refine kA_ ?_ _)); exact BK207.out) hb); have n8_ := aS_ (blk_below (g := gb218) (o := .cells #[.slice Ao19 t211.length co19, .slice Ao22 t214.length co22] 24 (0, 0)) (by (with_reducible repeat (first | refine kN_ ?_ _ | refine kD_ ?_ | refine kA_ ?_ _)); refine blk_far ?_ NB218_241.out _; (with_reducible repeat (first | refine kN_ ?_ _ | refine kD_ ?_ | refine kA_ ?_ _)); refine blk_far ?_ NB218_241.out _; (with_reducible repeat (first | refine kN_ ?_ _ | refine kD_ ?_ | refine kA_ ?_ _)); exact BK218.out) hb); have n9_ := aS_ (blk_below (g := gb241) (o := .cells #[.slice Ao75 t234.length co75, .slice Ao79 t237.length co79] 24 (0, 0)) (by (with_reducible repeat (first | refine kN_ ?_ _ | refine kD_ ?_ | refine kA_ ?_ _)); refine blk_put (cs := #[.slice Ao75 t234.length co75, .slice none 0 0]) ?_ 1 _ rfl; (with_reducible repeat (first | refine kN_ ?_ _ | refine kD_ ?_ | refine kA_ ?_ _)); refine blk_put (cs := #[.slice none 0 0, .slice none 0 0]) ?_ 0 _ rfl; (with_reducible repeat (first | refine kN_ ?_ _ | refine kD_ ?_ | refine kA_ ?_ _)); exact BK241.out) hb); have n10_ := aS_ (below_step (by repeat (first | (with_reducible first | exact HB.out | apply bA_ | apply pN_ | apply bD_ | refine bS_ ?_ GE207.out | refine bS_ ?_ GE218.out | refine bS_ ?_ GE241.out) | exact HB.out)) hb); clear HO_208000; clear HO_208001; clear HO_219000; clear HO_219001; clear HO233; clear HO236; clear HO239; clear BK207; clear BK218; clear BK241; clear HB; have HO_208000 := n0_; have HO_208001 := n1_; have HO_219000 := n2_; have HO_219001 := n3_; have HO233 := n4_; have HO236 := n5_; have HO239 := n6_; have BK207 := n7_; have BK218 := n8_; have BK241 := n9_; have HB := n10_; clear n0_ n1_ n2_ n3_ n4_ n5_ n6_ n7_ n8_ n9_ n10_; (try clear hb); (try clear hb2); (try clear hk); (try clear hi)))
             go_meet
             case rel => exact ⟨_, ((t240 != t206)), (by first | rfl | (simp; done) | (simp [*]; done)), H', ⟨by have := HJ6.out; have := HJ37.out; first | omega | exact Nat.le_refl _⟩, ⟨by (with_reducible repeat (first | apply rA_ | apply rN_ | apply rD_)); exact Kd.R_mono HO_208000.out (fun _ hk => ⟨hk.1.1.1.1, ⟨hk.1.1.1.2.1, ⟨hk.1.1.1.2.2, ⟨hk.1.2, hk.2⟩⟩⟩⟩)⟩, ⟨by (with_reducible repeat (first | apply rA_ | apply rN_ | apply rD_)); exact Kd.R_mono HO_208001.out (fun _ hk => ⟨hk.1.1.1.1, ⟨hk.1.1.1.2.1, ⟨hk.1.1.1.2.2, ⟨hk.1.2, hk.2⟩⟩⟩⟩)⟩, ⟨by (with_reducible repeat (first | apply rA_ | apply rN_ | apply rD_)); exact Kd.R_mono HO_219000.out (fun _ hk => ⟨hk.1.1.1.1, ⟨hk.1.1.1.2.1, ⟨hk.1.1.1.2.2, ⟨hk.1.2, hk.2⟩⟩⟩⟩)⟩, ⟨by (with_reducible repeat (first | apply rA_ | apply rN_ | apply rD_)); exact Kd.R_mono HO_219001.out (fun _ hk => ⟨hk.1.1.1.1, ⟨hk.1.1.1.2.1, ⟨hk.1.1.1.2.2, ⟨hk.1.2, hk.2⟩⟩⟩⟩)⟩, ⟨by (with_reducible repeat (first | apply rA_ | apply rN_ | apply rD_)); exact Kd.R_mono HO236.out (fun _ hk => ⟨hk.1.1.1.1.2, ⟨hk.1.1.1.2, ⟨hk.1.1.2, ⟨hk.1.2, hk.1.1.1.1.1⟩⟩⟩⟩)⟩, ⟨by (with_reducible repeat (first | apply rA_ | apply rN_ | apply rD_)); exact Kd.R_mono HO239.out (fun _ hk => ⟨hk.1.1.1.1.2, ⟨hk.1.1.1.2, ⟨hk.1.1.2, ⟨hk.1.2, hk.1.1.1.1.1⟩⟩⟩⟩)⟩, ⟨by (with_reducible repeat (first | refine kN_ ?_ _ | refine kD_ ?_ | refine kA_ ?_ _)); exact BK207.out⟩, ⟨by (with_reducible repeat (first | refine kN_ ?_ _ | refine kD_ ?_ | refine kA_ ?_ _)); exact BK218.out⟩, ⟨by (with_reducible repeat (first | refine kN_ ?_ _ | refine kD_ ?_ | refine kA_ ?_ _)); exact BK241.out⟩, ⟨by repeat (first | (with_reducible first | exact HB.out | apply bA_ | apply pN_ | apply bD_ | refine bS_ ?_ GE207.out | refine bS_ ?_ GE218.out | refine bS_ ?_ GE241.out) | exact HB.out)⟩⟩
            ·replace c81 := Bool.eq_false_iff.mpr c81
             subst c81
             rw [if_neg (show ¬ (false = true) by decide)] at H
             have H' := aS_ H
             clear H
             have hnb88 := NB241_207.out
             have hnc88 := NB207_241.out
             have hnb89 := NB241_218.out
             have hnc89 := NB218_241.out
             have hcz90_0 : w74.cell? ⟨gb241, 0, none⟩ = some (.slice none 0 0) := (blk_cell BK241.out 0).trans rfl
             have hcz90_1 : w74.cell? ⟨gb241, 1, none⟩ = some (.slice none 0 0) := (blk_cell BK241.out 1).trans rfl
             have hfz90_0 := blk_frozen BK241.out 0
             have hfz90_1 := blk_frozen BK241.out 1
             have hnb91 := NB207_218.out
             have hnc91 := NB218_207.out
             have hcz92_0 : w74.cell? ⟨gb207, 0, none⟩ = some (.slice Ao12 t200.length co12) := (blk_cell BK207.out 0).trans rfl
             have hcz92_1 : w74.cell? ⟨gb207, 1, none⟩ = some (.slice Ao14 t203.length co14) := (blk_cell BK207.out 1).trans rfl
             have hfz92_0 := blk_frozen BK207.out 0
             have hfz92_1 := blk_frozen BK207.out 1
             go_wp2_with (first | ((with_reducible refine gate_callee (f := 7) rfl ?_); refine goesL_ (some 78) rfl rfl Try.func7 (by kernel_rfl) rfl #[.agg #[.slice Ao75 t234.length co75, .slice Ao79 t237.length co79], .agg #[.slice Ao12 t200.length co12, .slice Ao14 t203.length co14]] rfl (by (try simp only [List.map_toArray, List.map_cons, List.map_nil]); first | done | rfl | (simp only [List.length_drop, List.length_take]; rfl)) ?_; (with_reducible refine (laws_eqRegion.calls kj37 _ _ t234 _ _ t237 _ _ t200 _ _ t203 false _ ?side1 ?side2 ?side3 ?side4 ?side5 ?side6 ?side7 ?side8 A80.out).mono ?_); (case side1 => refine (Kd.R_reads' (e := 3) (base := w.heap.size) (ok := fun k_ => (((((some k_ ≠ (.slice Ao79 t237.length co79 : Value).ownBlock ∧ some k_ ≠ (.slice Ao12 t200.length co12 : Value).ownBlock) ∧ some k_ ≠ (.slice Ao14 t203.length co14 : Value).ownBlock) ∧ some k_ ≠ (.slice Ao19 t211.length co19 : Value).ownBlock) ∧ some k_ ≠ (.slice Ao22 t214.length co22 : Value).ownBlock) ∧ some k_ ≠ (.slice Ao72 t231.length co72 : Value).ownBlock)) (n := t234.length) (c := co75) ?_).2.2; exact (by (with_reducible repeat (first | apply rA_ | apply rN_ | apply rD_)); exact (Kd.R_mono (Kd.R_far (p := ⟨gb241, 1, none⟩) (Kd.R_far (p := ⟨gb241, 0, none⟩) (Kd.R_types HO236.out BK241.out (by decide)) (fun _ hk => hk.2) (.slice Ao75 t234.length co75)) (fun _ hk => hk.2) (.slice Ao79 t237.length co79)) (fun _ h_ => h_.1)))); (case side2 => exact (Kd.R_reads' HO236.out).2.1); (case side3 => refine (Kd.R_reads' (e := 3) (base := w.heap.size) (ok := fun k_ => (((((some k_ ≠ (.slice Ao75 t234.length co75 : Value).ownBlock ∧ some k_ ≠ (.slice Ao12 t200.length co12 : Value).ownBlock) ∧ some k_ ≠ (.slice Ao14 t203.length co14 : Value).ownBlock) ∧ some k_ ≠ (.slice Ao19 t211.length co19 : Value).ownBlock) ∧ some k_ ≠ (.slice Ao22 t214.length co22 : Value).ownBlock) ∧ some k_ ≠ (.slice Ao72 t231.length co72 : Value).ownBlock)) (n := t237.length) (c := co79) ?_).2.2; exact (by (with_reducible repeat (first | apply rA_ | apply rN_ | apply rD_)); exact (Kd.R_mono (Kd.R_far (p := ⟨gb241, 1, none⟩) (Kd.R_far (p := ⟨gb241, 0, none⟩) (Kd.R_types HO239.out BK241.out (by decide)) (fun _ hk => hk.2) (.slice Ao75 t234.length co75)) (fun _ hk => hk.2) (.slice Ao79 t237.length co79)) (fun _ h_ => h_.1)))); (case side4 => exact (Kd.R_reads' HO239.out).2.1); (case side5 => refine (Kd.R_reads' (e := 3) (base := w.heap.size) (ok := fun k_ => ((((some k_ ≠ (.slice Ao14 t203.length co14 : Value).ownBlock ∧ (some k_ ≠ (.slice Ao19 t211.length co19 : Value).ownBlock ∧ some k_ ≠ (.slice Ao22 t214.length co22 : Value).ownBlock)) ∧ some k_ ≠ (.slice Ao72 t231.length co72 : Value).ownBlock) ∧ some k_ ≠ (.slice Ao75 t234.length co75 : Value).ownBlock) ∧ some k_ ≠ (.slice Ao79 t237.length co79 : Value).ownBlock)) (n := t200.length) (c := co12) ?_).2.2; exact (by (with_reducible repeat (first | apply rA_ | apply rN_ | apply rD_)); exact (Kd.R_mono (Kd.R_far (p := ⟨gb241, 1, none⟩) (Kd.R_far (p := ⟨gb241, 0, none⟩) (Kd.R_types HO_208000.out BK241.out (by decide)) (fun _ hk => hk.2) (.slice Ao75 t234.length co75)) (fun _ hk => hk.2) (.slice Ao79 t237.length co79)) (fun _ h_ => h_.1)))); (case side6 => exact (Kd.R_reads' HO_208000.out).2.1); (case side7 => refine (Kd.R_reads' (e := 3) (base := w.heap.size) (ok := fun k_ => ((((some k_ ≠ (.slice Ao12 t200.length co12 : Value).ownBlock ∧ (some k_ ≠ (.slice Ao19 t211.length co19 : Value).ownBlock ∧ some k_ ≠ (.slice Ao22 t214.length co22 : Value).ownBlock)) ∧ some k_ ≠ (.slice Ao72 t231.length co72 : Value).ownBlock) ∧ some k_ ≠ (.slice Ao75 t234.length co75 : Value).ownBlock) ∧ some k_ ≠ (.slice Ao79 t237.length co79 : Value).ownBlock)) (n := t203.length) (c := co14) ?_).2.2; exact (by (with_reducible repeat (first | apply rA_ | apply rN_ | apply rD_)); exact (Kd.R_mono (Kd.R_far (p := ⟨gb241, 1, none⟩) (Kd.R_far (p := ⟨gb241, 0, none⟩) (Kd.R_types HO_208001.out BK241.out (by decide)) (fun _ hk => hk.2) (.slice Ao75 t234.length co75)) (fun _ hk => hk.2) (.slice Ao79 t237.length co79)) (fun _ h_ => h_.1)))); (case side8 => exact (Kd.R_reads' HO_208001.out).2.1); rintro e w93 ⟨rfl, hb⟩; refine ⟨_, rfl, ?_⟩; have n0_ := aS_ (Kd.R_below (by (with_reducible repeat (first | apply rA_ | apply rN_ | apply rD_)); exact (Kd.R_mono (Kd.R_far (p := ⟨gb241, 1, none⟩) (Kd.R_far (p := ⟨gb241, 0, none⟩) (Kd.R_types HO_208000.out BK241.out (by decide)) (fun _ hk => hk.2) (.slice Ao75 t234.length co75)) (fun _ hk => hk.2) (.slice Ao79 t237.length co79)) (fun _ h_ => h_.1))) hb); have n1_ := aS_ (Kd.R_below (by (with_reducible repeat (first | apply rA_ | apply rN_ | apply rD_)); exact (Kd.R_mono (Kd.R_far (p := ⟨gb241, 1, none⟩) (Kd.R_far (p := ⟨gb241, 0, none⟩) (Kd.R_types HO_208001.out BK241.out (by decide)) (fun _ hk => hk.2) (.slice Ao75 t234.length co75)) (fun _ hk => hk.2) (.slice Ao79 t237.length co79)) (fun _ h_ => h_.1))) hb); have n2_ := aS_ (Kd.R_below (by (with_reducible repeat (first | apply rA_ | apply rN_ | apply rD_)); exact (Kd.R_mono (Kd.R_far (p := ⟨gb241, 1, none⟩) (Kd.R_far (p := ⟨gb241, 0, none⟩) (Kd.R_types HO_219000.out BK241.out (by decide)) (fun _ hk => hk.2) (.slice Ao75 t234.length co75)) (fun _ hk => hk.2) (.slice Ao79 t237.length co79)) (fun _ h_ => h_.1))) hb); have n3_ := aS_ (Kd.R_below (by (with_reducible repeat (first | apply rA_ | apply rN_ | apply rD_)); exact (Kd.R_mono (Kd.R_far (p := ⟨gb241, 1, none⟩) (Kd.R_far (p := ⟨gb241, 0, none⟩) (Kd.R_types HO_219001.out BK241.out (by decide)) (fun _ hk => hk.2) (.slice Ao75 t234.length co75)) (fun _ hk => hk.2) (.slice Ao79 t237.length co79)) (fun _ h_ => h_.1))) hb); have n4_ := aS_ (Kd.R_below (by (with_reducible repeat (first | apply rA_ | apply rN_ | apply rD_)); exact (Kd.R_mono (Kd.R_far (p := ⟨gb241, 1, none⟩) (Kd.R_far (p := ⟨gb241, 0, none⟩) (Kd.R_types HO233.out BK241.out (by decide)) (fun _ hk => hk.2) (.slice Ao75 t234.length co75)) (fun _ hk => hk.2) (.slice Ao79 t237.length co79)) (fun _ h_ => h_.1))) hb); have n5_ := aS_ (Kd.R_below (by (with_reducible repeat (first | apply rA_ | apply rN_ | apply rD_)); exact (Kd.R_mono (Kd.R_far (p := ⟨gb241, 1, none⟩) (Kd.R_far (p := ⟨gb241, 0, none⟩) (Kd.R_types HO236.out BK241.out (by decide)) (fun _ hk => hk.2) (.slice Ao75 t234.length co75)) (fun _ hk => hk.2) (.slice Ao79 t237.length co79)) (fun _ h_ => h_.1))) hb); have n6_ := aS_ (Kd.R_below (by (with_reducible repeat (first | apply rA_ | apply rN_ | apply rD_)); exact (Kd.R_mono (Kd.R_far (p := ⟨gb241, 1, none⟩) (Kd.R_far (p := ⟨gb241, 0, none⟩) (Kd.R_types HO239.out BK241.out (by decide)) (fun _ hk => hk.2) (.slice Ao75 t234.length co75)) (fun _ hk => hk.2) (.slice Ao79 t237.length co79)) (fun _ h_ => h_.1))) hb); have n7_ := aS_ (blk_below (g := gb207) (o := .cells #[.slice Ao12 t200.length co12, .slice Ao14 t203.length co14] 24 (0, 0)) (by (with_reducible repeat (first | refine kN_ ?_ _ | refine kD_ ?_ | refine kA_ ?_ _)); refine blk_far ?_ NB207_241.out _; (with_reducible repeat (first | refine kN_ ?_ _ | refine kD_ ?_ | refine kA_ ?_ _)); refine blk_far ?_ NB207_241.out _; (with_reducible repeat (first | refine kN_ ?_ _ | refine kD_ ?_ | refine kA_ ?_ _)); exact BK207.out) hb); have n8_ := aS_ (blk_below (g := gb218) (o := .cells #[.slice Ao19 t211.length co19, .slice Ao22 t214.length co22] 24 (0, 0)) (by (with_reducible repeat (first | refine kN_ ?_ _ | refine kD_ ?_ | refine kA_ ?_ _)); refine blk_far ?_ NB218_241.out _; (with_reducible repeat (first | refine kN_ ?_ _ | refine kD_ ?_ | refine kA_ ?_ _)); refine blk_far ?_ NB218_241.out _; (with_reducible repeat (first | refine kN_ ?_ _ | refine kD_ ?_ | refine kA_ ?_ _)); exact BK218.out) hb); have n9_ := aS_ (blk_below (g := gb241) (o := .cells #[.slice Ao75 t234.length co75, .slice Ao79 t237.length co79] 24 (0, 0)) (by (with_reducible repeat (first | refine kN_ ?_ _ | refine kD_ ?_ | refine kA_ ?_ _)); refine blk_put (cs := #[.slice Ao75 t234.length co75, .slice none 0 0]) ?_ 1 _ rfl; (with_reducible repeat (first | refine kN_ ?_ _ | refine kD_ ?_ | refine kA_ ?_ _)); refine blk_put (cs := #[.slice none 0 0, .slice none 0 0]) ?_ 0 _ rfl; (with_reducible repeat (first | refine kN_ ?_ _ | refine kD_ ?_ | refine kA_ ?_ _)); exact BK241.out) hb); have n10_ := aS_ (below_step (by repeat (first | (with_reducible first | exact HB.out | apply bA_ | apply pN_ | apply bD_ | refine bS_ ?_ GE207.out | refine bS_ ?_ GE218.out | refine bS_ ?_ GE241.out) | exact HB.out)) hb); clear HO_208000; clear HO_208001; clear HO_219000; clear HO_219001; clear HO233; clear HO236; clear HO239; clear BK207; clear BK218; clear BK241; clear HB; have HO_208000 := n0_; have HO_208001 := n1_; have HO_219000 := n2_; have HO_219001 := n3_; have HO233 := n4_; have HO236 := n5_; have HO239 := n6_; have BK207 := n7_; have BK218 := n8_; have BK241 := n9_; have HB := n10_; clear n0_ n1_ n2_ n3_ n4_ n5_ n6_ n7_ n8_ n9_ n10_; (try clear hb); (try clear hb2); (try clear hk); (try clear hi)))
             go_meet
             case rel => exact ⟨_, (true), (by first | rfl | (simp; done) | (simp [*]; done)), H', ⟨by have := HJ6.out; have := HJ37.out; first | omega | exact Nat.le_refl _⟩, ⟨by (with_reducible repeat (first | apply rA_ | apply rN_ | apply rD_)); exact Kd.R_mono HO_208000.out (fun _ hk => ⟨hk.1.1.1.1, ⟨hk.1.1.1.2.1, ⟨hk.1.1.1.2.2, ⟨hk.1.2, hk.2⟩⟩⟩⟩)⟩, ⟨by (with_reducible repeat (first | apply rA_ | apply rN_ | apply rD_)); exact Kd.R_mono HO_208001.out (fun _ hk => ⟨hk.1.1.1.1, ⟨hk.1.1.1.2.1, ⟨hk.1.1.1.2.2, ⟨hk.1.2, hk.2⟩⟩⟩⟩)⟩, ⟨by (with_reducible repeat (first | apply rA_ | apply rN_ | apply rD_)); exact Kd.R_mono HO_219000.out (fun _ hk => ⟨hk.1.1.1.1, ⟨hk.1.1.1.2.1, ⟨hk.1.1.1.2.2, ⟨hk.1.2, hk.2⟩⟩⟩⟩)⟩, ⟨by (with_reducible repeat (first | apply rA_ | apply rN_ | apply rD_)); exact Kd.R_mono HO_219001.out (fun _ hk => ⟨hk.1.1.1.1, ⟨hk.1.1.1.2.1, ⟨hk.1.1.1.2.2, ⟨hk.1.2, hk.2⟩⟩⟩⟩)⟩, ⟨by (with_reducible repeat (first | apply rA_ | apply rN_ | apply rD_)); exact Kd.R_mono HO236.out (fun _ hk => ⟨hk.1.1.1.1.2, ⟨hk.1.1.1.2, ⟨hk.1.1.2, ⟨hk.1.2, hk.1.1.1.1.1⟩⟩⟩⟩)⟩, ⟨by (with_reducible repeat (first | apply rA_ | apply rN_ | apply rD_)); exact Kd.R_mono HO239.out (fun _ hk => ⟨hk.1.1.1.1.2, ⟨hk.1.1.1.2, ⟨hk.1.1.2, ⟨hk.1.2, hk.1.1.1.1.1⟩⟩⟩⟩)⟩, ⟨by (with_reducible repeat (first | refine kN_ ?_ _ | refine kD_ ?_ | refine kA_ ?_ _)); exact BK207.out⟩, ⟨by (with_reducible repeat (first | refine kN_ ?_ _ | refine kD_ ?_ | refine kA_ ?_ _)); exact BK218.out⟩, ⟨by (with_reducible repeat (first | refine kN_ ?_ _ | refine kD_ ?_ | refine kA_ ?_ _)); exact BK241.out⟩, ⟨by repeat (first | (with_reducible first | exact HB.out | apply bA_ | apply pN_ | apply bD_ | refine bS_ ?_ GE207.out | refine bS_ ?_ GE218.out | refine bS_ ?_ GE241.out) | exact HB.out)⟩⟩
           case rest =>
            clear HC65
            try clear c1
            try clear c2
            try clear c2b0
            try clear c2b1
            try clear p2
            try clear c3
            try clear c4
            try clear c5
            try clear c6
            try clear c7
            try clear c8
            try clear c9
            try clear c10
            try clear c11
            try clear c20
            try clear c24
            try clear c25
            try clear c29
            try clear c33
            try clear c36
            try clear c42
            try clear c42b0
            try clear c44
            try clear c45
            try clear c49
            try clear c53
            try clear c56
            try clear c56b0
            try clear c57
            try clear c62
            try clear c62b0
            try clear c62b1
            try clear c66
            try clear c76
            try clear c77
            try clear c81
            try clear c82
            try clear c83
            try clear c85
            try clear c88
            try clear c89
            try clear c91
            try clear hcz13_0
            try clear hcz13_1
            try clear hcz21_0
            try clear hcz21_1
            try clear hcz26_0
            try clear hcz26_1
            try clear hcz27_0
            try clear hcz27_1
            try clear hcz30_0
            try clear hcz30_1
            try clear hcz31_0
            try clear hcz31_1
            try clear hcz46_0
            try clear hcz46_1
            try clear hcz47_0
            try clear hcz47_1
            try clear hcz50_0
            try clear hcz50_1
            try clear hcz51_0
            try clear hcz51_1
            try clear hcz58_0
            try clear hcz58_1
            try clear hcz60_0
            try clear hcz60_1
            try clear hcz67_0
            try clear hcz67_1
            try clear hcz69_0
            try clear hcz69_1
            try clear hcz78_0
            try clear hcz78_1
            try clear hcz84_0
            try clear hcz84_1
            try clear hcz86_0
            try clear hcz86_1
            try clear hcz90_0
            try clear hcz90_1
            try clear hcz92_0
            try clear hcz92_1
            try clear hfz13_0
            try clear hfz13_1
            try clear hfz21_0
            try clear hfz21_1
            try clear hfz26_0
            try clear hfz26_1
            try clear hfz27_0
            try clear hfz27_1
            try clear hfz30_0
            try clear hfz30_1
            try clear hfz31_0
            try clear hfz31_1
            try clear hfz46_0
            try clear hfz46_1
            try clear hfz47_0
            try clear hfz47_1
            try clear hfz50_0
            try clear hfz50_1
            try clear hfz51_0
            try clear hfz51_1
            try clear hfz58_0
            try clear hfz58_1
            try clear hfz60_0
            try clear hfz60_1
            try clear hfz67_0
            try clear hfz67_1
            try clear hfz69_0
            try clear hfz69_1
            try clear hfz78_0
            try clear hfz78_1
            try clear hfz84_0
            try clear hfz84_1
            try clear hfz86_0
            try clear hfz86_1
            try clear hfz90_0
            try clear hfz90_1
            try clear hfz92_0
            try clear hfz92_1
            try clear p2
            obtain ⟨kq, x84_64, rfl, HA, HJ64, HO_208000, HO_208001, HO_219000, HO_219001, HO_242000, HO_242001, BK207, BK218, BK241, HB⟩ := hcut
            have hl219000_64 := (Kd.R_reads' HO_219000.out).1
            rw [hl219000_64] at HO_219000
            (try simp only [hl219000_64])
            (try simp only [hl219000_64] at BK207)
            (try simp only [hl219000_64] at BK218)
            (try simp only [hl219000_64] at BK241)
            (try simp only [hl219000_64] at HO_208000)
            (try simp only [hl219000_64] at HO_208001)
            (try simp only [hl219000_64] at HO_219001)
            (try simp only [hl219000_64] at HO_242000)
            (try simp only [hl219000_64] at HO_242001)
            have hl219001_64 := (Kd.R_reads' HO_219001.out).1
            rw [hl219001_64] at HO_219001
            (try simp only [hl219001_64])
            (try simp only [hl219001_64] at BK207)
            (try simp only [hl219001_64] at BK218)
            (try simp only [hl219001_64] at BK241)
            (try simp only [hl219001_64] at HO_208000)
            (try simp only [hl219001_64] at HO_208001)
            (try simp only [hl219001_64] at HO_219000)
            (try simp only [hl219001_64] at HO_242000)
            (try simp only [hl219001_64] at HO_242001)
            cases kq with
            | zero => exact absurd HA.out (by simp [laws_FnExactRegionOfPoint.j2])
            | succ kj64 =>
             have H := HA.out
             clear HA
             simp only [laws_FnExactRegionOfPoint.j2] at H
             by_cases c94 : x84_64 = true
             ·subst c94
              rw [if_pos rfl] at H
              obtain rfl := Option.some.inj H
              go_wp2
              go_ret
              exact ⟨by first | rfl | (simp [errW_none, errW_some] <;> rfl) | (simp [*, errW_none, errW_some] <;> rfl), by repeat (first | (with_reducible first | exact HB.out | apply bA_ | apply pN_ | apply bD_ | refine bS_ ?_ GE207.out | refine bS_ ?_ GE218.out | refine bS_ ?_ GE241.out) | exact HB.out)⟩
             ·replace c94 := Bool.eq_false_iff.mpr c94
              subst c94
              rw [if_neg (show ¬ (false = true) by decide)] at H
              replace H := Option.bind_eq_some_iff.mp H
              obtain ⟨t243, A950, H⟩ := H
              have A95 := aS_ A950
              clear A950
              by_cases c96 : t243 < 0
              ·rw [if_pos c96] at H
               have c96b0 : decide (t243 < 0) = true := decide_eq_true c96
               clear c96
               obtain rfl := Option.some.inj H
               have hnb97 := NB218_207.out
               have hnc97 := NB207_218.out
               have hnb98 := NB218_241.out
               have hnc98 := NB241_218.out
               have hcz99_0 : wc.cell? ⟨gb218, 0, none⟩ = some (.slice Ao19 t228.length co19) := (blk_cell BK218.out 0).trans rfl
               have hcz99_1 : wc.cell? ⟨gb218, 1, none⟩ = some (.slice Ao22 t229.length co22) := (blk_cell BK218.out 1).trans rfl
               have hfz99_0 := blk_frozen BK218.out 0
               have hfz99_1 := blk_frozen BK218.out 1
               go_wp2_with (first | ((with_reducible refine gate_callee (f := 11) rfl ?_); refine goesL_ (some 87) rfl rfl Try.func11 (by kernel_rfl) rfl #[.agg #[.slice Ao19 t228.length co19, .slice Ao22 t229.length co22], .int .i64 1] rfl (by (try simp only [List.map_toArray, List.map_cons, List.map_nil]); first | done | rfl | (simp only [List.length_drop, List.length_take]; rfl)) ?_; (with_reducible refine (laws_heldRegion.calls kj64 _ _ t228 _ _ t229 1 t243 _ ?side1 ?side2 ?side3 ?side4 A95.out).mono ?_); (case side1 => repeat (first | exact (Kd.R_reads' HO_219000.out).2.2 | (with_reducible refine Kd.C_alloc ?_ _) | (with_reducible refine Kd.C_drewN ?_ _) | (with_reducible refine Kd.C_drew ?_))); (case side2 => exact (Kd.R_reads' HO_219000.out).2.1); (case side3 => repeat (first | exact (Kd.R_reads' HO_219001.out).2.2 | (with_reducible refine Kd.C_alloc ?_ _) | (with_reducible refine Kd.C_drewN ?_ _) | (with_reducible refine Kd.C_drew ?_))); (case side4 => exact (Kd.R_reads' HO_219001.out).2.1); rintro e w100 ⟨rfl, hb⟩; refine ⟨_, rfl, ?_⟩; have n0_ := aS_ (Kd.R_below (by (with_reducible repeat (first | apply rA_ | apply rN_ | apply rD_)); exact HO_208000.out) hb); have n1_ := aS_ (Kd.R_below (by (with_reducible repeat (first | apply rA_ | apply rN_ | apply rD_)); exact HO_208001.out) hb); have n2_ := aS_ (Kd.R_below (by (with_reducible repeat (first | apply rA_ | apply rN_ | apply rD_)); exact HO_219000.out) hb); have n3_ := aS_ (Kd.R_below (by (with_reducible repeat (first | apply rA_ | apply rN_ | apply rD_)); exact HO_219001.out) hb); have n4_ := aS_ (Kd.R_below (by (with_reducible repeat (first | apply rA_ | apply rN_ | apply rD_)); exact HO_242000.out) hb); have n5_ := aS_ (Kd.R_below (by (with_reducible repeat (first | apply rA_ | apply rN_ | apply rD_)); exact HO_242001.out) hb); have n6_ := aS_ (blk_below (g := gb207) (o := .cells #[.slice Ao12 t200.length co12, .slice Ao14 t203.length co14] 24 (0, 0)) (by (with_reducible repeat (first | refine kN_ ?_ _ | refine kD_ ?_ | refine kA_ ?_ _)); exact BK207.out) hb); have n7_ := aS_ (blk_below (g := gb218) (o := .cells #[.slice Ao19 t228.length co19, .slice Ao22 t229.length co22] 24 (0, 0)) (by (with_reducible repeat (first | refine kN_ ?_ _ | refine kD_ ?_ | refine kA_ ?_ _)); exact BK218.out) hb); have n8_ := aS_ (blk_below (g := gb241) (o := .cells #[.slice Ao75 t234.length co75, .slice Ao79 t237.length co79] 24 (0, 0)) (by (with_reducible repeat (first | refine kN_ ?_ _ | refine kD_ ?_ | refine kA_ ?_ _)); exact BK241.out) hb); have n9_ := aS_ (below_step (by repeat (first | (with_reducible first | exact HB.out | apply bA_ | apply pN_ | apply bD_ | refine bS_ ?_ GE207.out | refine bS_ ?_ GE218.out | refine bS_ ?_ GE241.out) | exact HB.out)) hb); clear HO_208000; clear HO_208001; clear HO_219000; clear HO_219001; clear HO_242000; clear HO_242001; clear BK207; clear BK218; clear BK241; clear HB; have HO_208000 := n0_; have HO_208001 := n1_; have HO_219000 := n2_; have HO_219001 := n3_; have HO_242000 := n4_; have HO_242001 := n5_; have BK207 := n6_; have BK218 := n7_; have BK241 := n8_; have HB := n9_; clear n0_ n1_ n2_ n3_ n4_ n5_ n6_ n7_ n8_ n9_; (try clear hb); (try clear hb2); (try clear hk); (try clear hi)))
               go_ret
               exact ⟨by first | rfl | (simp [errW_none, errW_some] <;> rfl) | (simp [*, errW_none, errW_some] <;> rfl), by repeat (first | (with_reducible first | exact HB.out | apply bA_ | apply pN_ | apply bD_ | refine bS_ ?_ GE207.out | refine bS_ ?_ GE218.out | refine bS_ ?_ GE241.out) | exact HB.out)⟩
              ·rw [if_neg c96] at H
               have c96b0 : decide (t243 < 0) = false := decide_eq_false c96
               clear c96
               by_cases c101 : t243 = t227
               ·rw [if_pos c101] at H
                have c101b0 : (t243 == t227) = true := beq_iff_eq.mpr c101
                have c101b1 : (t243 != t227) = false := bne_eq_false_iff_eq.mpr c101
                clear c101
                obtain rfl := Option.some.inj H
                have hnb102 := NB218_207.out
                have hnc102 := NB207_218.out
                have hnb103 := NB218_241.out
                have hnc103 := NB241_218.out
                have hcz104_0 : wc.cell? ⟨gb218, 0, none⟩ = some (.slice Ao19 t228.length co19) := (blk_cell BK218.out 0).trans rfl
                have hcz104_1 : wc.cell? ⟨gb218, 1, none⟩ = some (.slice Ao22 t229.length co22) := (blk_cell BK218.out 1).trans rfl
                have hfz104_0 := blk_frozen BK218.out 0
                have hfz104_1 := blk_frozen BK218.out 1
                go_wp2_with (first | ((with_reducible refine gate_callee (f := 11) rfl ?_); refine goesL_ (some 87) rfl rfl Try.func11 (by kernel_rfl) rfl #[.agg #[.slice Ao19 t228.length co19, .slice Ao22 t229.length co22], .int .i64 1] rfl (by (try simp only [List.map_toArray, List.map_cons, List.map_nil]); first | done | rfl | (simp only [List.length_drop, List.length_take]; rfl)) ?_; (with_reducible refine (laws_heldRegion.calls kj64 _ _ t228 _ _ t229 1 t243 _ ?side1 ?side2 ?side3 ?side4 A95.out).mono ?_); (case side1 => repeat (first | exact (Kd.R_reads' HO_219000.out).2.2 | (with_reducible refine Kd.C_alloc ?_ _) | (with_reducible refine Kd.C_drewN ?_ _) | (with_reducible refine Kd.C_drew ?_))); (case side2 => exact (Kd.R_reads' HO_219000.out).2.1); (case side3 => repeat (first | exact (Kd.R_reads' HO_219001.out).2.2 | (with_reducible refine Kd.C_alloc ?_ _) | (with_reducible refine Kd.C_drewN ?_ _) | (with_reducible refine Kd.C_drew ?_))); (case side4 => exact (Kd.R_reads' HO_219001.out).2.1); rintro e w105 ⟨rfl, hb⟩; refine ⟨_, rfl, ?_⟩; have n0_ := aS_ (Kd.R_below (by (with_reducible repeat (first | apply rA_ | apply rN_ | apply rD_)); exact HO_208000.out) hb); have n1_ := aS_ (Kd.R_below (by (with_reducible repeat (first | apply rA_ | apply rN_ | apply rD_)); exact HO_208001.out) hb); have n2_ := aS_ (Kd.R_below (by (with_reducible repeat (first | apply rA_ | apply rN_ | apply rD_)); exact HO_219000.out) hb); have n3_ := aS_ (Kd.R_below (by (with_reducible repeat (first | apply rA_ | apply rN_ | apply rD_)); exact HO_219001.out) hb); have n4_ := aS_ (Kd.R_below (by (with_reducible repeat (first | apply rA_ | apply rN_ | apply rD_)); exact HO_242000.out) hb); have n5_ := aS_ (Kd.R_below (by (with_reducible repeat (first | apply rA_ | apply rN_ | apply rD_)); exact HO_242001.out) hb); have n6_ := aS_ (blk_below (g := gb207) (o := .cells #[.slice Ao12 t200.length co12, .slice Ao14 t203.length co14] 24 (0, 0)) (by (with_reducible repeat (first | refine kN_ ?_ _ | refine kD_ ?_ | refine kA_ ?_ _)); exact BK207.out) hb); have n7_ := aS_ (blk_below (g := gb218) (o := .cells #[.slice Ao19 t228.length co19, .slice Ao22 t229.length co22] 24 (0, 0)) (by (with_reducible repeat (first | refine kN_ ?_ _ | refine kD_ ?_ | refine kA_ ?_ _)); exact BK218.out) hb); have n8_ := aS_ (blk_below (g := gb241) (o := .cells #[.slice Ao75 t234.length co75, .slice Ao79 t237.length co79] 24 (0, 0)) (by (with_reducible repeat (first | refine kN_ ?_ _ | refine kD_ ?_ | refine kA_ ?_ _)); exact BK241.out) hb); have n9_ := aS_ (below_step (by repeat (first | (with_reducible first | exact HB.out | apply bA_ | apply pN_ | apply bD_ | refine bS_ ?_ GE207.out | refine bS_ ?_ GE218.out | refine bS_ ?_ GE241.out) | exact HB.out)) hb); clear HO_208000; clear HO_208001; clear HO_219000; clear HO_219001; clear HO_242000; clear HO_242001; clear BK207; clear BK218; clear BK241; clear HB; have HO_208000 := n0_; have HO_208001 := n1_; have HO_219000 := n2_; have HO_219001 := n3_; have HO_242000 := n4_; have HO_242001 := n5_; have BK207 := n6_; have BK218 := n7_; have BK241 := n8_; have HB := n9_; clear n0_ n1_ n2_ n3_ n4_ n5_ n6_ n7_ n8_ n9_; (try clear hb); (try clear hb2); (try clear hk); (try clear hi)))
                go_ret
                exact ⟨by first | rfl | (simp [errW_none, errW_some] <;> rfl) | (simp [*, errW_none, errW_some] <;> rfl), by repeat (first | (with_reducible first | exact HB.out | apply bA_ | apply pN_ | apply bD_ | refine bS_ ?_ GE207.out | refine bS_ ?_ GE218.out | refine bS_ ?_ GE241.out) | exact HB.out)⟩
               ·rw [if_neg c101] at H
                have c101b0 : (t243 == t227) = false := beq_eq_false_iff_ne.mpr c101
                have c101b1 : (t243 != t227) = true := bne_iff_ne.mpr c101
                obtain rfl := Option.some.inj H
                have hnb106 := NB218_207.out
                have hnc106 := NB207_218.out
                have hnb107 := NB218_241.out
                have hnc107 := NB241_218.out
                have hcz108_0 : wc.cell? ⟨gb218, 0, none⟩ = some (.slice Ao19 t228.length co19) := (blk_cell BK218.out 0).trans rfl
                have hcz108_1 : wc.cell? ⟨gb218, 1, none⟩ = some (.slice Ao22 t229.length co22) := (blk_cell BK218.out 1).trans rfl
                have hfz108_0 := blk_frozen BK218.out 0
                have hfz108_1 := blk_frozen BK218.out 1
                go_wp2_with (first | ((with_reducible refine gate_callee (f := 11) rfl ?_); refine goesL_ (some 87) rfl rfl Try.func11 (by kernel_rfl) rfl #[.agg #[.slice Ao19 t228.length co19, .slice Ao22 t229.length co22], .int .i64 1] rfl (by (try simp only [List.map_toArray, List.map_cons, List.map_nil]); first | done | rfl | (simp only [List.length_drop, List.length_take]; rfl)) ?_; (with_reducible refine (laws_heldRegion.calls kj64 _ _ t228 _ _ t229 1 t243 _ ?side1 ?side2 ?side3 ?side4 A95.out).mono ?_); (case side1 => repeat (first | exact (Kd.R_reads' HO_219000.out).2.2 | (with_reducible refine Kd.C_alloc ?_ _) | (with_reducible refine Kd.C_drewN ?_ _) | (with_reducible refine Kd.C_drew ?_))); (case side2 => exact (Kd.R_reads' HO_219000.out).2.1); (case side3 => repeat (first | exact (Kd.R_reads' HO_219001.out).2.2 | (with_reducible refine Kd.C_alloc ?_ _) | (with_reducible refine Kd.C_drewN ?_ _) | (with_reducible refine Kd.C_drew ?_))); (case side4 => exact (Kd.R_reads' HO_219001.out).2.1); rintro e w109 ⟨rfl, hb⟩; refine ⟨_, rfl, ?_⟩; have n0_ := aS_ (Kd.R_below (by (with_reducible repeat (first | apply rA_ | apply rN_ | apply rD_)); exact HO_208000.out) hb); have n1_ := aS_ (Kd.R_below (by (with_reducible repeat (first | apply rA_ | apply rN_ | apply rD_)); exact HO_208001.out) hb); have n2_ := aS_ (Kd.R_below (by (with_reducible repeat (first | apply rA_ | apply rN_ | apply rD_)); exact HO_219000.out) hb); have n3_ := aS_ (Kd.R_below (by (with_reducible repeat (first | apply rA_ | apply rN_ | apply rD_)); exact HO_219001.out) hb); have n4_ := aS_ (Kd.R_below (by (with_reducible repeat (first | apply rA_ | apply rN_ | apply rD_)); exact HO_242000.out) hb); have n5_ := aS_ (Kd.R_below (by (with_reducible repeat (first | apply rA_ | apply rN_ | apply rD_)); exact HO_242001.out) hb); have n6_ := aS_ (blk_below (g := gb207) (o := .cells #[.slice Ao12 t200.length co12, .slice Ao14 t203.length co14] 24 (0, 0)) (by (with_reducible repeat (first | refine kN_ ?_ _ | refine kD_ ?_ | refine kA_ ?_ _)); exact BK207.out) hb); have n7_ := aS_ (blk_below (g := gb218) (o := .cells #[.slice Ao19 t228.length co19, .slice Ao22 t229.length co22] 24 (0, 0)) (by (with_reducible repeat (first | refine kN_ ?_ _ | refine kD_ ?_ | refine kA_ ?_ _)); exact BK218.out) hb); have n8_ := aS_ (blk_below (g := gb241) (o := .cells #[.slice Ao75 t234.length co75, .slice Ao79 t237.length co79] 24 (0, 0)) (by (with_reducible repeat (first | refine kN_ ?_ _ | refine kD_ ?_ | refine kA_ ?_ _)); exact BK241.out) hb); have n9_ := aS_ (below_step (by repeat (first | (with_reducible first | exact HB.out | apply bA_ | apply pN_ | apply bD_ | refine bS_ ?_ GE207.out | refine bS_ ?_ GE218.out | refine bS_ ?_ GE241.out) | exact HB.out)) hb); clear HO_208000; clear HO_208001; clear HO_219000; clear HO_219001; clear HO_242000; clear HO_242001; clear BK207; clear BK218; clear BK241; clear HB; have HO_208000 := n0_; have HO_208001 := n1_; have HO_219000 := n2_; have HO_219001 := n3_; have HO_242000 := n4_; have HO_242001 := n5_; have BK207 := n6_; have BK218 := n7_; have BK241 := n8_; have HB := n9_; clear n0_ n1_ n2_ n3_ n4_ n5_ n6_ n7_ n8_ n9_; (try clear hb); (try clear hb2); (try clear hk); (try clear hi)))
                go_ret
                exact ⟨by first | rfl | (simp [errW_none, errW_some] <;> rfl) | (simp [*, errW_none, errW_some] <;> rfl), by repeat (first | (with_reducible first | exact HB.out | apply bA_ | apply pN_ | apply bD_ | refine bS_ ?_ GE207.out | refine bS_ ?_ GE218.out | refine bS_ ?_ GE241.out) | exact HB.out)⟩
          ·rw [if_neg c62] at H
           have c62b0 : (t230 == t227) = false := beq_eq_false_iff_ne.mpr c62
           have c62b1 : (t230 != t227) = true := bne_iff_ne.mpr c62
           obtain rfl := Option.some.inj H
           have hnb110 := NB218_207.out
           have hnc110 := NB207_218.out
           have hcz111_0 : wc.cell? ⟨gb218, 0, none⟩ = some (.slice Ao19 t211.length co19) := (blk_cell BK218.out 0).trans rfl
           have hcz111_1 : wc.cell? ⟨gb218, 1, none⟩ = some (.slice Ao22 t214.length co22) := (blk_cell BK218.out 1).trans rfl
           have hfz111_0 := blk_frozen BK218.out 0
           have hfz111_1 := blk_frozen BK218.out 1
           go_wp2_with (first | ((with_reducible refine gate_callee (f := 10) rfl ?_); refine goesL_ (some 61) rfl rfl Try.func10 (by kernel_rfl) rfl #[.agg #[.slice Ao19 t211.length co19, .slice Ao22 t214.length co22], .int .i64 1] rfl (by (try simp only [List.map_toArray, List.map_cons, List.map_nil]); first | done | rfl | (simp only [List.length_drop, List.length_take]; rfl)) ?_; (with_reducible refine (laws_markRegion.calls kj37 (fun k_ => some k_ = (.slice Ao19 t211.length co19 : Value).ownBlock) (.slice Ao19 t211.length co19) t211 (fun k_ => some k_ = (.slice Ao22 t214.length co22 : Value).ownBlock) (.slice Ao22 t214.length co22) t214 1 t227 t228 t229 w _ ?side1 ?side2 ?side3 ?side4 ?side5 A54.out).mono ?_); (case side1 => repeat (first | (with_reducible first | exact HB.out | apply bA_ | apply pN_ | apply bD_ | refine bS_ ?_ GE207.out | refine bS_ ?_ GE218.out) | exact HB.out)); (case side2 => exact Kd.R_tight rfl HO_219000.out); (case side3 => exact fun k_ e_ => (HO_219000.out.1 k_ e_.symm).2.2); (case side4 => exact Kd.R_tight rfl HO_219001.out); (case side5 => exact fun k_ e_ => (HO_219001.out.1 k_ e_.symm).2.2); rintro e w112 ⟨rfl, hy0, hy1, hb, hkp⟩; refine ⟨_, rfl, ?_⟩; have n0_ := aS_ (Kd.R_mono (ok' := fun k_ => some k_ ≠ (.slice Ao14 t203.length co14 : Value).ownBlock ∧ some k_ ≠ (.slice Ao19 t211.length co19 : Value).ownBlock ∧ some k_ ≠ (.slice Ao22 t214.length co22 : Value).ownBlock) (Kd.R_keptB (HO_208000.out) hkp (fun k_ hk_ hs_ => Or.elim hs_ (fun e_ => (hk_.2.1) e_) (fun e_ => (hk_.2.2) e_))) (fun k_ hk_ => ⟨hk_.1.1, hk_.1.2.1, hk_.1.2.2⟩)); have n1_ := aS_ (Kd.R_mono (ok' := fun k_ => some k_ ≠ (.slice Ao12 t200.length co12 : Value).ownBlock ∧ some k_ ≠ (.slice Ao19 t211.length co19 : Value).ownBlock ∧ some k_ ≠ (.slice Ao22 t214.length co22 : Value).ownBlock) (Kd.R_keptB (HO_208001.out) hkp (fun k_ hk_ hs_ => Or.elim hs_ (fun e_ => (hk_.2.1) e_) (fun e_ => (hk_.2.2) e_))) (fun k_ hk_ => ⟨hk_.1.1, hk_.1.2.1, hk_.1.2.2⟩)); have n2_ := aS_ (Kd.R_reok rfl hy0 (fun k_ e_ => HO_219000.out.1 k_ e_)); have n3_ := aS_ (Kd.R_reok rfl hy1 (fun k_ e_ => HO_219001.out.1 k_ e_)); have n4_ := aS_ (blk_kept (by (with_reducible repeat (first | refine kN_ ?_ _ | refine kD_ ?_ | refine kA_ ?_ _)); exact BK207.out) hkp (fun hs_ => Or.elim hs_ (fun e_ => (fun e_ => (Kd.R_ne HO_219000.out BK207.out (by decide)) e_) e_) (fun e_ => (fun e_ => (Kd.R_ne HO_219001.out BK207.out (by decide)) e_) e_))); have n5_ := aS_ (blk_kept (by (with_reducible repeat (first | refine kN_ ?_ _ | refine kD_ ?_ | refine kA_ ?_ _)); exact BK218.out) hkp (fun hs_ => Or.elim hs_ (fun e_ => (fun e_ => (Kd.R_ne HO_219000.out BK218.out (by decide)) e_) e_) (fun e_ => (fun e_ => (Kd.R_ne HO_219001.out BK218.out (by decide)) e_) e_))); have n6_ := aS_ (hb); clear HO_208000; clear HO_208001; clear HO_219000; clear HO_219001; clear BK207; clear BK218; clear HB; have HO_208000 := n0_; have HO_208001 := n1_; have HO_219000 := n2_; have HO_219001 := n3_; have BK207 := n4_; have BK218 := n5_; have HB := n6_; clear n0_ n1_ n2_ n3_ n4_ n5_ n6_; (try clear hb); (try clear hkp); (try clear hy0); (try clear hy1); have hcz113_0 : w112.cell? ⟨gb218, 0, none⟩ = some (.slice Ao19 t211.length co19) := (blk_cell BK218.out 0).trans rfl; have hcz113_1 : w112.cell? ⟨gb218, 1, none⟩ = some (.slice Ao22 t214.length co22) := (blk_cell BK218.out 1).trans rfl; have hfz113_0 := blk_frozen BK218.out 0; have hfz113_1 := blk_frozen BK218.out 1) | ((with_reducible refine gate_callee (f := 11) rfl ?_); refine goesL_ (some 64) rfl rfl Try.func11 (by kernel_rfl) rfl #[.agg #[.slice Ao19 t228.length co19, .slice Ao22 t229.length co22], .int .i64 1] rfl (by (try simp only [List.map_toArray, List.map_cons, List.map_nil]); first | done | (rw [show t228.length = t211.length from (Kd.R_reads' HO_219000.out).1.symm, show t229.length = t214.length from (Kd.R_reads' HO_219001.out).1.symm] <;> rfl) | rfl | (simp only [List.length_drop, List.length_take]; rfl)) ?_; (with_reducible refine (laws_heldRegion.calls kj37 _ _ t228 _ _ t229 1 t230 _ ?side1 ?side2 ?side3 ?side4 A55.out).mono ?_); (case side1 => repeat (first | exact (Kd.R_reads' HO_219000.out).2.2 | (with_reducible refine Kd.C_alloc ?_ _) | (with_reducible refine Kd.C_drewN ?_ _) | (with_reducible refine Kd.C_drew ?_))); (case side2 => rw [show t228.length = t211.length from (Kd.R_reads' HO_219000.out).1.symm]; exact (Kd.R_reads' HO_219000.out).2.1); (case side3 => repeat (first | exact (Kd.R_reads' HO_219001.out).2.2 | (with_reducible refine Kd.C_alloc ?_ _) | (with_reducible refine Kd.C_drewN ?_ _) | (with_reducible refine Kd.C_drew ?_))); (case side4 => rw [show t229.length = t214.length from (Kd.R_reads' HO_219001.out).1.symm]; exact (Kd.R_reads' HO_219001.out).2.1); rintro e w114 ⟨rfl, hb⟩; refine ⟨_, rfl, ?_⟩; have n0_ := aS_ (Kd.R_below (by (with_reducible repeat (first | apply rA_ | apply rN_ | apply rD_)); exact HO_208000.out) hb); have n1_ := aS_ (Kd.R_below (by (with_reducible repeat (first | apply rA_ | apply rN_ | apply rD_)); exact HO_208001.out) hb); have n2_ := aS_ (Kd.R_below (by (with_reducible repeat (first | apply rA_ | apply rN_ | apply rD_)); exact HO_219000.out) hb); have n3_ := aS_ (Kd.R_below (by (with_reducible repeat (first | apply rA_ | apply rN_ | apply rD_)); exact HO_219001.out) hb); have n4_ := aS_ (blk_below (g := gb207) (o := .cells #[.slice Ao12 t200.length co12, .slice Ao14 t203.length co14] 24 (0, 0)) (by (with_reducible repeat (first | refine kN_ ?_ _ | refine kD_ ?_ | refine kA_ ?_ _)); exact BK207.out) hb); have n5_ := aS_ (blk_below (g := gb218) (o := .cells #[.slice Ao19 t211.length co19, .slice Ao22 t214.length co22] 24 (0, 0)) (by (with_reducible repeat (first | refine kN_ ?_ _ | refine kD_ ?_ | refine kA_ ?_ _)); exact BK218.out) hb); have n6_ := aS_ (below_step (by repeat (first | (with_reducible first | exact HB.out | apply bA_ | apply pN_ | apply bD_ | refine bS_ ?_ GE207.out | refine bS_ ?_ GE218.out) | exact HB.out)) hb); clear HO_208000; clear HO_208001; clear HO_219000; clear HO_219001; clear BK207; clear BK218; clear HB; have HO_208000 := n0_; have HO_208001 := n1_; have HO_219000 := n2_; have HO_219001 := n3_; have BK207 := n4_; have BK218 := n5_; have HB := n6_; clear n0_ n1_ n2_ n3_ n4_ n5_ n6_; (try clear hb); (try clear hb2); (try clear hk); (try clear hi)))
           go_ret
           exact ⟨by first | rfl | (simp [errW_none, errW_some] <;> rfl) | (simp [*, errW_none, errW_some] <;> rfl), by repeat (first | (with_reducible first | exact HB.out | apply bA_ | apply pN_ | apply bD_ | refine bS_ ?_ GE207.out | refine bS_ ?_ GE218.out) | exact HB.out)⟩
     ·replace c36 := Bool.eq_false_iff.mpr c36
      subst c36
      rw [if_neg (show ¬ (false = true) by decide)] at H
      obtain rfl := Option.some.inj H
      go_wp2_with (first | ((with_reducible refine gate_callee (f := 5) rfl ?_); refine goesL_ (some 40) rfl rfl Try.func5 (by kernel_rfl) rfl #[.slice A0 l0.length c0] rfl (by (try simp only [List.map_toArray, List.map_cons, List.map_nil]); first | done | rfl | (simp only [List.length_drop, List.length_take]; rfl)) ?_; (with_reducible refine (laws_toIntS.calls kj6 _ _ l0 t220 _ ?side1 ?side2 A34.out).mono ?_); (case side1 => repeat (first | exact (Kd.C_below HR0.out HB.out) | (with_reducible refine Kd.C_alloc ?_ _) | (with_reducible refine Kd.C_drewN ?_ _) | (with_reducible refine Kd.C_drew ?_))); (case side2 => exact HC0.out); rintro e w115 ⟨v221, rfl, ho0, hb⟩; refine ⟨_, rfl, ?_⟩; have n0_ := aS_ (Kd.R_elder' (by (with_reducible repeat (first | apply rA_ | apply rN_ | apply rD_)); exact HO_5.out) (Kd.R_base ho0) hb); have n1_ := aS_ (Kd.R_elder' (by (with_reducible repeat (first | apply rA_ | apply rN_ | apply rD_)); exact HO_208000.out) (Kd.R_base ho0) hb); have n2_ := aS_ (Kd.R_elder' (by (with_reducible repeat (first | apply rA_ | apply rN_ | apply rD_)); exact HO_208001.out) (Kd.R_base ho0) hb); have n3_ := aS_ (Kd.R_elder' (by (with_reducible repeat (first | apply rA_ | apply rN_ | apply rD_)); exact HO_219000.out) (Kd.R_base ho0) hb); have n4_ := aS_ (Kd.R_elder' (by (with_reducible repeat (first | apply rA_ | apply rN_ | apply rD_)); exact HO_219001.out) (Kd.R_base ho0) hb); have n5_ := aS_ (Kd.R_lower (Kd.R_new' (Kd.R_new' (Kd.R_new' (Kd.R_new' (Kd.R_new' ho0 (Kd.R_lt (by (with_reducible repeat (first | apply rA_ | apply rN_ | apply rD_)); exact HO_5.out))) (Kd.R_lt (by (with_reducible repeat (first | apply rA_ | apply rN_ | apply rD_)); exact HO_208000.out))) (Kd.R_lt (by (with_reducible repeat (first | apply rA_ | apply rN_ | apply rD_)); exact HO_208001.out))) (Kd.R_lt (by (with_reducible repeat (first | apply rA_ | apply rN_ | apply rD_)); exact HO_219000.out))) (Kd.R_lt (by (with_reducible repeat (first | apply rA_ | apply rN_ | apply rD_)); exact HO_219001.out))) (below_size (by repeat (first | (with_reducible first | exact HB.out | apply bA_ | apply pN_ | apply bD_ | refine bS_ ?_ GE207.out | refine bS_ ?_ GE218.out) | exact HB.out)))); have n6_ := aS_ (blk_below (g := gb207) (o := .cells #[.slice Ao12 t200.length co12, .slice Ao14 t203.length co14] 24 (0, 0)) (by (with_reducible repeat (first | refine kN_ ?_ _ | refine kD_ ?_ | refine kA_ ?_ _)); exact BK207.out) hb); have n7_ := aS_ (blk_below (g := gb218) (o := .cells #[.slice Ao19 t211.length co19, .slice Ao22 t214.length co22] 24 (0, 0)) (by (with_reducible repeat (first | refine kN_ ?_ _ | refine kD_ ?_ | refine kA_ ?_ _)); exact BK218.out) hb); have n8_ := aS_ (below_step (by repeat (first | (with_reducible first | exact HB.out | apply bA_ | apply pN_ | apply bD_ | refine bS_ ?_ GE207.out | refine bS_ ?_ GE218.out) | exact HB.out)) hb); clear HO_5; clear HO_208000; clear HO_208001; clear HO_219000; clear HO_219001; clear BK207; clear BK218; clear HB; have HO_5 := n0_; have HO_208000 := n1_; have HO_208001 := n2_; have HO_219000 := n3_; have HO_219001 := n4_; have HO222 := n5_; have BK207 := n6_; have BK218 := n7_; have HB := n8_; clear n0_ n1_ n2_ n3_ n4_ n5_ n6_ n7_ n8_; (try clear hb); (try clear hb2); (try clear hk); (try clear hi); (try clear ho0); obtain ⟨Ao116, co116, eo116⟩ := Kd.R_slice HO222.out; subst eo116) | ((with_reducible refine gate_callee (f := 8) rfl ?_); refine goesL_ (some 41) rfl rfl Try.func8 (by kernel_rfl) rfl #[.slice Ao16 t208.length co16, .slice Ao116 t220.length co116] rfl (by (try simp only [List.map_toArray, List.map_cons, List.map_nil]); first | done | rfl | (simp only [List.length_drop, List.length_take]; rfl)) ?_; (with_reducible refine (laws_eqIntS.calls kj6 _ _ t208 _ _ t220 false _ ?side1 ?side2 ?side3 ?side4 A35.out).mono ?_); (case side1 => repeat (first | exact (Kd.R_reads' HO_5.out).2.2 | (with_reducible refine Kd.C_alloc ?_ _) | (with_reducible refine Kd.C_drewN ?_ _) | (with_reducible refine Kd.C_drew ?_))); (case side2 => exact (Kd.R_reads' HO_5.out).2.1); (case side3 => repeat (first | exact (Kd.R_reads' HO222.out).2.2 | (with_reducible refine Kd.C_alloc ?_ _) | (with_reducible refine Kd.C_drewN ?_ _) | (with_reducible refine Kd.C_drew ?_))); (case side4 => exact (Kd.R_reads' HO222.out).2.1); rintro e w' ⟨rfl, ⟨nd, rfl⟩⟩; refine ⟨_, rfl, ?_⟩))
      go_ret
      exact ⟨by first | rfl | (simp [errW_none, errW_some] <;> rfl) | (simp [*, errW_none, errW_some] <;> rfl), by repeat (first | (with_reducible first | exact HB.out | apply bA_ | apply pN_ | apply bD_ | refine bS_ ?_ GE207.out | refine bS_ ?_ GE218.out) | exact HB.out)⟩

/-- THE ONE PURE STATEMENT of laws_FnExactRegionOfPoint: yours. -/
def laws_FnExactRegionOfPoint.Pure : Prop := ∀ (l0 : List Int), l0.length ≤ maxLen → l0.length * 8 ≤ 140737488351232 → (∀ x ∈ l0, (Lit.int .i64 x).wf = true) → ∃ k, laws_FnExactRegionOfPoint.f k l0 = some true
theorem laws_FnExactRegionOfPoint.walk (P : laws_FnExactRegionOfPoint.Pure) (a0 : Option Addr) (len0 cap0 : Nat) (z0 : List Int) (w : World) (w0 : (a0 = none ∧ len0 = 0 ∧ cap0 = 0 ∧ z0 = []) ∨ ∃ x, a0 = some x ∧ len0 ≤ cap0 ∧ cap0 ≤ maxLen ∧ z0.length = cap0 ∧ (∀ i, i < z0.length → w.cell? (x.add i) = some (.int .i64 (z0.getD i 0))) ∧ ∀ n ∈ z0, (Lit.int .i64 n).wf = true) (y0 : len0 * 8 ≤ 140737488351232) :
  Calls Try.prog 3 #[.slice a0 len0 cap0] w fun e w' => e = .returned (.bool true) ∧ Below w.heap.size w w' := by
 obtain ⟨l0, rfl, hr0, hm0, hw0, hc0⟩ := ReadsInt.ofRowC w0
 obtain ⟨k, h⟩ := P l0 hm0 y0 hw0
 refine (laws_FnExactRegionOfPoint.calls k _ _ l0 true w (Kd.C_of_reads (d := (0 : Int)) (h1 := fun _ => rfl) hr0) hc0 h).mono ?_
 rintro e w' ⟨rfl, hd⟩
 exact ⟨rfl, hd⟩
end Go.Proofs.Ytjpdhdcknoffmaa.G
namespace Go.Proofs.Ytjpdhdcknoffmaa.G
open Go.RowKit Go.Proofs.YtjpdhdcknoffmaaW.PrintWords Go.Proofs.YtjpdhdcknoffmaaW.PrintLast Go.Proofs.YtjpdhdcknoffmaaW.PrintMore
set_option linter.unusedVariables false
set_option linter.unusedSimpArgs false
theorem own_eq (q : List Int) (h : q.length < 17592186044416) : spec_l1Own.f q = some q := by
  unfold spec_l1Own.f
  simp only [Option.bind_some, List.length_nil, Nat.zero_add, h, if_true, List.nil_append]
theorem most_eq (a b : Int) : spec_l1Most.f a b = some (if a > b then a else b) := by
  unfold spec_l1Most.f
  by_cases h : a > b
  · rw [if_pos h, if_pos h]
  · rw [if_neg h, if_neg h]
/-- What a list of places is after i rounds: the first i places, the numbers falling. -/
structure Srt (l : List Int) (out : List Int) (i : Nat) : Prop where
  perm : out.Perm (idxZ i)
  fall : out.Pairwise (fun a b => rd l b < rd l a)
theorem idxZ_mem {n : Nat} {x : Int} : x ∈ idxZ n ↔ 0 ≤ x ∧ x < (n : Int) := by
  unfold idxZ
  rw [List.mem_map]
  constructor
  · rintro ⟨j, hj, rfl⟩
    rw [List.mem_range] at hj
    omega
  · intro h
    exact ⟨x.toNat, List.mem_range.2 (by omega), by omega⟩
theorem Srt.len {l out : List Int} {i : Nat} (h : Srt l out i) : out.length = i := by rw [h.perm.length_eq, idxZ_len]
theorem Srt.mem {l out : List Int} {i : Nat} (h : Srt l out i) {q : Nat} (hq : q < out.length) : 0 ≤ out.getD q 0 ∧ out.getD q 0 < (i : Int) := by
  refine idxZ_mem.1 (h.perm.mem_iff.1 ?_)
  rw [List.getD_eq_getElem?_getD, List.getElem?_eq_getElem hq]
  exact List.getElem_mem hq
theorem pairwise_getD {R : Int → Int → Prop} {a : List Int} (h : a.Pairwise R) {i j : Nat} (hij : i < j) (hj : j < a.length) : R (a.getD i 0) (a.getD j 0) := by
  have := List.pairwise_iff_getElem.1 h i j (by omega) hj hij
  rw [List.getD_eq_getElem?_getD, List.getD_eq_getElem?_getD, List.getElem?_eq_getElem (by omega), List.getElem?_eq_getElem hj]
  exact this
theorem mem_take_getD {a : List Int} {k : Nat} {x : Int} (h : x ∈ a.take k) : ∃ q, q < k ∧ q < a.length ∧ a.getD q 0 = x := by
  rw [List.mem_take_iff_getElem] at h
  obtain ⟨q, hq, rfl⟩ := h
  exact ⟨q, by omega, by omega, by rw [List.getD_eq_getElem?_getD, List.getElem?_eq_getElem (by omega)]; rfl⟩
theorem mem_drop_getD {a : List Int} {k : Nat} {x : Int} (h : x ∈ a.drop k) : ∃ q, k ≤ q ∧ q < a.length ∧ a.getD q 0 = x := by
  obtain ⟨j, hj, rfl⟩ := List.getElem_of_mem h
  rw [List.length_drop] at hj
  refine ⟨k + j, by omega, by omega, ?_⟩
  rw [List.getElem_drop, List.getD_eq_getElem?_getD, List.getElem?_eq_getElem (by omega)]; rfl
theorem Srt.put {l out : List Int} {i k : Nat} (h : Srt l out i) (hk : k ≤ out.length) (h1 : ∀ q, q < k → rd l (i : Int) < rd l (out.getD q 0)) (h2 : ∀ q, k ≤ q → q < out.length → rd l (out.getD q 0) < rd l (i : Int)) :
    Srt l (out.take k ++ [(i : Int)] ++ out.drop k) (i + 1) := by
  constructor
  · rw [idxZ_succ]
    have e : (out.take k ++ [(i : Int)] ++ out.drop k).Perm (out.take k ++ out.drop k ++ [(i : Int)]) := by
      rw [List.append_assoc, List.append_assoc]
      exact List.Perm.append_left _ List.perm_append_comm
    rw [List.take_append_drop] at e
    exact e.trans (h.perm.append_right _)
  · rw [List.append_assoc, List.singleton_append, List.pairwise_append]
    refine ⟨h.fall.sublist (List.take_sublist _ _), ?_, ?_⟩
    · rw [List.pairwise_cons]
      refine ⟨fun x hx => ?_, h.fall.sublist (List.drop_sublist _ _)⟩
      obtain ⟨q, q1, q2, rfl⟩ := mem_drop_getD hx
      exact h2 q q1 q2
    · intro a ha b hb
      obtain ⟨p, p1, p2, rfl⟩ := mem_take_getD ha
      rcases List.mem_cons.1 hb with rfl | hb
      · exact h1 p p1
      · obtain ⟨q, q1, q2, rfl⟩ := mem_drop_getD hb
        exact pairwise_getD h.fall (by omega) q2
theorem byNumZ_perm (l : List Int) : (byNumZ l).Perm (idxZ l.length) := by
  have h1 : (byNum l).Perm (List.finRange l.length) := List.mergeSort_perm _ _
  have h2 := h1.map (fun i : Fin l.length => ((i : Nat) : Int))
  have e : (List.finRange l.length).map (fun i : Fin l.length => ((i : Nat) : Int)) = idxZ l.length := by
    apply List.ext_getElem
    · rw [List.length_map, List.length_finRange, idxZ_len]
    · intro j h h'
      simp [idxZ]
  rw [e] at h2
  exact h2
theorem byNumZ_fall (l : List Int) : (byNumZ l).Pairwise (fun a b => rd l b ≤ rd l a) := by
  have h := List.pairwise_mergeSort (le := fun x y : Fin l.length => decide (l.getD y 0 ≤ l.getD x 0)) (fun a b c => by simp only [decide_eq_true_eq]; omega) (fun a b => by simp only [Bool.or_eq_true, decide_eq_true_eq]; omega) (List.finRange l.length)
  unfold byNumZ byNum
  rw [List.pairwise_map]
  refine h.imp fun {a b} hab => ?_
  rw [decide_eq_true_eq] at hab
  rw [rd_nat, rd_nat]
  exact hab
theorem Srt.done {l out : List Int} (hp : pointB l = true) (h : Srt l out l.length) : out = byNumZ l := by
  refine List.Perm.eq_of_pairwise (le := fun a b => rd l b ≤ rd l a) ?_ (h.fall.imp fun {a b} hab => by omega) (byNumZ_fall l) (h.perm.trans (byNumZ_perm l).symm)
  intro a b ha hb h1 h2
  have ha' := idxZ_mem.1 (h.perm.mem_iff.1 ha)
  have hb' := idxZ_mem.1 ((byNumZ_perm l).mem_iff.1 hb)
  have := pointB_inj hp a.toNat b.toNat (by omega) (by omega) (by rw [getD_getZ, getD_getZ]; omega)
  omega
end Go.Proofs.Ytjpdhdcknoffmaa.G
namespace Go.Proofs.Ytjpdhdcknoffmaa.G
open Go.RowKit Go.Proofs.YtjpdhdcknoffmaaW.PrintWords Go.Proofs.YtjpdhdcknoffmaaW.PrintLast Go.Proofs.YtjpdhdcknoffmaaW.PrintMore
set_option linter.unusedVariables false
set_option linter.unusedSimpArgs false
section
variable (l : List Int) (hp : pointB l = true)
include hp
theorem sorted_l1 (R : List Int) (i : Nat) (hi : i < l.length) (out : List Int) (h : Srt l out i) (next : ∀ out', Srt l out' (i + 1) → Ev (fun k => spec_reSorted.l0 k l out' (l.length : Int) ((i + 1 : Nat) : Int)) R) : ∀ (d q : Nat), q + d = out.length → (∀ p, p < q → rd l (i : Int) < rd l (out.getD p 0)) →
    Ev (fun k => spec_reSorted.l1 k l out (i : Int) (q : Int) (l.length : Int) (i : Int)) R := by
  have h8 : l.length ≤ 8 := (pointB_bound hp).1
  have hlen := h.len
  intro d
  induction d with
  | zero =>
    intro q hq hall
    have hput := h.put (k := q) (by omega) hall (fun p h1 h2 => by omega)
    refine Ev.one (next _ hput) fun k => ?_
    rw [spec_reSorted.l1, if_neg (by omega), if_pos (by omega), if_pos (by omega), Int.toNat_natCast, own_eq _ (by rw [List.length_take]; omega)]
    simp only [Option.bind_some]
    rw [if_pos (by rw [List.length_take]; omega), if_pos (by rw [List.length_append, List.length_take, List.length_drop]; simp only [List.length_cons, List.length_nil]; omega), wrap_next (n := l.length) hi (by omega)]
  | succ d ih =>
    intro q hq hall
    obtain ⟨m1, m2⟩ := h.mem (q := q) (by omega)
    by_cases c : rd l (out.getD q 0) > rd l (i : Int)
    · refine Ev.one (ih (q + 1) (by omega) (fun p hpq => ?_)) fun k => ?_
      · rcases Nat.lt_or_ge p q with h1 | h1
        · exact hall p h1
        · rw [show p = q by omega]; exact c
      · rw [spec_reSorted.l1, if_pos (by omega), if_pos (by omega), rd_nat, if_pos m1, if_pos (by omega), if_pos (by omega), if_pos (by omega), if_pos c, wrap_next (n := out.length) (by omega) (by omega)]
    · have hne : rd l (out.getD q 0) ≠ rd l (i : Int) := fun e => by
        have := pointB_inj hp (out.getD q 0).toNat i (by omega) hi (by rw [getD_getZ, e, rd_nat])
        omega
      have hput := h.put (k := q) (by omega) hall (fun p h1 h2 => by
        rcases Nat.lt_or_ge q p with h3 | h3
        · have := pairwise_getD h.fall h3 h2; omega
        · rw [show p = q by omega]; omega)
      refine Ev.one (next _ hput) fun k => ?_
      rw [spec_reSorted.l1, if_pos (by omega), if_pos (by omega), rd_nat, if_pos m1, if_pos (by omega), if_pos (by omega), if_pos (by omega), if_neg c, if_pos (by omega), Int.toNat_natCast, own_eq _ (by rw [List.length_take]; omega)]
      simp only [Option.bind_some]
      rw [if_pos (by rw [List.length_take]; omega), if_pos (by rw [List.length_append, List.length_take, List.length_drop]; simp only [List.length_cons, List.length_nil]; omega), wrap_next (n := l.length) hi (by omega)]
theorem sorted_ev : Ev (fun k => spec_reSorted.f k l) (byNumZ l) := by
  unfold spec_reSorted.f
  have loop : ∀ d i out, i + d = l.length → Srt l out i → Ev (fun k => spec_reSorted.l0 k l out (l.length : Int) (i : Int)) (byNumZ l) := by
    intro d
    induction d with
    | zero =>
      intro i out hi h
      refine Ev.end_ fun k => ?_
      obtain rfl : i = l.length := by omega
      rw [spec_reSorted.l0, if_neg (by omega), h.done hp]
    | succ d ih =>
      intro i out hi h
      refine Ev.one (sorted_l1 l hp (byNumZ l) i (by omega) out h (fun out' h' => ih (i + 1) out' (by omega) h') out.length 0 (by omega) (fun p h => by omega)) fun k => ?_
      rw [spec_reSorted.l0, if_pos (by omega)]
      rfl
  exact loop l.length 0 [] (by omega) ⟨List.Perm.refl _, List.Pairwise.nil⟩
end
end Go.Proofs.Ytjpdhdcknoffmaa.G
namespace Go.Proofs.Ytjpdhdcknoffmaa.G
open Go.RowKit Go.Proofs.YtjpdhdcknoffmaaW.PrintWords Go.Proofs.YtjpdhdcknoffmaaW.PrintLast Go.Proofs.YtjpdhdcknoffmaaW.PrintMore
set_option linter.unusedVariables false
set_option linter.unusedSimpArgs false
section
variable (l O : List Int) (h8 : l.length ≤ 8) (hO : O.length = l.length) (hin : ∀ q, q < l.length → 0 ≤ O.getD q 0 ∧ O.getD q 0 < (l.length : Int)) (hb : ∀ j, -100000 ≤ l.getD j 0 ∧ l.getD j 0 ≤ 100000)
include h8 hO hin hb
theorem of_l1 (p : Nat) (hp : p < l.length) (F : List Int) (hF : F.length = p) (R : List Int × List Int) : ∀ (d q f : Nat), q + d = p → f ≤ 8 →
    Ev (fun k => spec_reOf.l0 k l ((farS (okZ l O p) d q f : Nat) : Int) O (O.length : Int) ((p + 1 : Nat) : Int) O (F ++ [((farS (okZ l O p) d q f : Nat) : Int)])) R →
    Ev (fun k => spec_reOf.l1 k l (f : Int) (O.getD p 0) O (O.length : Int) (p : Int) (O.take p) ((O.take p).length : Int) (q : Int) O F) R := by
  have htl : (O.take p).length = p := by rw [List.length_take]; omega
  rw [htl]
  intro d
  induction d with
  | zero =>
    intro q f hq hf h
    refine Ev.one h fun k => ?_
    rw [spec_reOf.l1, if_neg (by omega), if_pos (by omega), wrap_next (n := l.length) hp (by omega)]
    rfl
  | succ d ih =>
    intro q f hq hf h
    have hql : q < l.length := by omega
    obtain ⟨i1, i2⟩ := hin q hql
    obtain ⟨j1, j2⟩ := hin p hp
    have hg : (O.take p).getD q 0 = O.getD q 0 := by
      rw [List.getD_eq_getElem?_getD, List.getD_eq_getElem?_getD, List.getElem?_take_of_lt (by omega)]
    by_cases c1 : O.getD q 0 < O.getD p 0
    · have b1 := hb (O.getD p 0).toNat
      have b2 := hb (O.getD q 0).toNat
      by_cases c2 : l.getD (O.getD p 0).toNat 0 + 100 < l.getD (O.getD q 0).toNat 0
      · have hok : okZ l O p q = true := by unfold okZ; rw [decide_eq_true c1, decide_eq_true c2]; rfl
        rw [farS, if_pos hok] at h
        refine Ev.one (ih (q + 1) (max f (q + 1)) (by omega) (by omega) h) fun k => ?_
        rw [spec_reOf.l1, if_pos (by omega), if_pos (by omega), if_pos (by rw [htl]; omega), rd_nat, hg, if_pos c1, if_pos i1, if_pos i2, if_pos j1, if_pos j2, rd_def, rd_def, wrap_id (by omega) (by omega), if_pos (by omega), wrap_next (n := l.length) hql (by omega), most_eq, Option.bind_some]
        rw [show (if (f : Int) > ((q + 1 : Nat) : Int) then (f : Int) else ((q + 1 : Nat) : Int)) = ((max f (q + 1) : Nat) : Int) by
          by_cases hh : (f : Int) > ((q + 1 : Nat) : Int)
          · rw [if_pos hh]; omega
          · rw [if_neg hh]; omega]
      · have hok : okZ l O p q = false := by unfold okZ; rw [decide_eq_false c2, Bool.and_false]
        rw [farS, hok, if_neg (by decide)] at h
        refine Ev.one (ih (q + 1) f (by omega) (by omega) h) fun k => ?_
        rw [spec_reOf.l1, if_pos (by omega), if_pos (by omega), if_pos (by rw [htl]; omega), rd_nat, hg, if_pos c1, if_pos i1, if_pos i2, if_pos j1, if_pos j2, rd_def, rd_def, wrap_id (by omega) (by omega), if_neg (by omega), wrap_next (n := l.length) hql (by omega)]
    · have hok : okZ l O p q = false := by unfold okZ; rw [decide_eq_false c1, Bool.false_and]
      rw [farS, hok, if_neg (by decide)] at h
      refine Ev.one (ih (q + 1) f (by omega) (by omega) h) fun k => ?_
      rw [spec_reOf.l1, if_pos (by omega), if_pos (by omega), if_pos (by rw [htl]; omega), rd_nat, hg, if_neg c1, wrap_next (n := l.length) hql (by omega)]
theorem of_l0 : ∀ (d p f : Nat) (F : List Int), p + d = l.length → F.length = p → f ≤ p →
    Ev (fun k => spec_reOf.l0 k l (f : Int) O (O.length : Int) (p : Int) O F) (O, F ++ farL (okZ l O) d p f) := by
  intro d
  induction d with
  | zero =>
    intro p f F hp hF hf
    refine Ev.end_ fun k => ?_
    rw [spec_reOf.l0, if_neg (by omega), farL, List.append_nil]
  | succ d ih =>
    intro p f F hp hF hf
    have hpl : p < l.length := by omega
    have hle := farS_le (okZ l O p) p 0 f
    have h1 := ih (p + 1) (farS (okZ l O p) p 0 f) (F ++ [((farS (okZ l O p) p 0 f : Nat) : Int)]) (by omega) (by rw [List.length_append, hF]; rfl) (by omega)
    rw [farL]
    rw [List.append_assoc, List.singleton_append] at h1
    have h2 := of_l1 l O h8 hO hin hb p hpl F hF _ p 0 f (by omega) (by omega) h1
    refine Ev.one h2 fun k => ?_
    rw [spec_reOf.l0, if_pos (by omega), if_pos (by omega), if_pos (by omega), if_pos (by omega), Int.toNat_natCast, Option.bind_some, rd_nat]
    rfl
end
end Go.Proofs.Ytjpdhdcknoffmaa.G
namespace Go.Proofs.Ytjpdhdcknoffmaa.G
open Go.RowKit Go.Proofs.YtjpdhdcknoffmaaW.PrintWords Go.Proofs.YtjpdhdcknoffmaaW.PrintLast Go.Proofs.YtjpdhdcknoffmaaW.PrintMore
set_option linter.unusedVariables false
set_option linter.unusedSimpArgs false
theorem spec_RP_ev (l : List Int) (hn : l.length ≤ 4611686018427387904) : Ev (fun k => spec_RegionOfPoint.f k l) (regionZ l) := by
  unfold spec_RegionOfPoint.f regionZ
  refine Ev.bind (rePoint_ev l hn) ?_
  cases hp : pointB l with
  | false => simp only [Bool.false_eq_true, if_false]; exact Ev.now _
  | true =>
    simp only [if_true]
    have h1 := of_l0 l (byNumZ l) (pointB_bound hp).1 (byNumZ_len l) (byNum_mem l) (pointB_get hp) l.length 0 0 [] (by omega) rfl (Nat.le_refl _)
    rw [List.nil_append] at h1
    have h2 : Ev (fun k => spec_reOf.f k l) (byNumZ l, farL (okZ l (byNumZ l)) l.length 0 0) := by
      unfold spec_reOf.f
      exact Ev.bind (sorted_ev l hp) h1
    refine Ev.bind h2 ?_
    exact Ev.now _
theorem regionZ_len (l : List Int) : (regionZ l).1.length ≤ 8 ∧ (regionZ l).2.1.length ≤ 8 := by
  unfold regionZ
  cases hp : pointB l with
  | false => simp
  | true =>
    simp only [if_true]
    rw [byNumZ_len, farL_len]
    have := (pointB_bound hp).1
    exact ⟨this, this⟩
theorem rg_eq_ev (a b c d : List Int) (h1 : a.length ≤ 1000) (h2 : b.length ≤ 1000) (e1 : a = c) (e2 : b = d) : Ev (fun k => laws_eqRegion.f k a b c d) true := by
  subst e1 e2
  unfold laws_eqRegion.f
  refine Ev.bind (eqIntS_ev a a (by omega)) ?_
  simp only [decide_true, if_true]
  refine Ev.bind (eqIntS_ev b b (by omega)) ?_
  simp only [decide_true, if_true]
  exact Ev.now _
theorem rg_mark_ev (a b : List Int) (h1 : a.length ≤ 1000) (h2 : b.length ≤ 1000) : Ev (fun k => laws_markRegion.f k a b 1) (1 + (a.length : Int) + b.length, rise a.length 1, rise b.length (1 + (a.length : Int))) := by
  unfold laws_markRegion.f
  refine Ev.bind (markIntS_ev a 1 (by omega) (by omega)) ?_
  refine Ev.bind (markIntS_ev b (1 + (a.length : Int)) (by omega) (by omega)) ?_
  exact Ev.now _
theorem rg_held_ev (m n : Nat) (h1 : m ≤ 1000) (h2 : n ≤ 1000) : Ev (fun k => laws_heldRegion.f k (rise m 1) (rise n (1 + (m : Int))) 1) (1 + (m : Int) + n) := by
  unfold laws_heldRegion.f
  refine Ev.bind (heldIntS_ev m 1 (by omega) (by omega)) ?_
  simp only [show ¬ ((1 : Int) + (m : Int) < 0) by omega, if_false]
  refine Ev.bind (heldIntS_ev n (1 + (m : Int)) (by omega) (by omega)) ?_
  simp only [show ¬ ((1 : Int) + (m : Int) + (n : Int) < 0) by omega, if_false]
  exact Ev.now _
end Go.Proofs.Ytjpdhdcknoffmaa.G
namespace Go.Proofs.Ytjpdhdcknoffmaa.Pure
open Go.RowKit Go.Proofs.Ytjpdhdcknoffmaa.G Go.Proofs.YtjpdhdcknoffmaaW.PrintWords Go.Proofs.YtjpdhdcknoffmaaW.PrintLast
set_option linter.unusedVariables false
set_option linter.unusedSimpArgs false
theorem impl_eq (l : List Int) : impl_RegionOfPoint.f l = some (regionZ l) := rfl
theorem FnExactRegionOfPoint : laws_FnExactRegionOfPoint.Pure := by
  intro l0 hm hbyte hw
  refine Ev.rounds ?_
  unfold laws_FnExactRegionOfPoint.f
  by_cases hbig : (l0.length : Int) > 1048576
  · simp only [hbig, if_true]
    exact Ev.now _
  · have hn : l0.length ≤ 1048576 := by omega
    simp only [hbig, if_false]
    obtain ⟨hl1, hl2⟩ := regionZ_len l0
    have t1 := toIntS_ev l0 (by omega)
    refine Ev.bind t1 ?_
    refine Ev.bind (spec_RP_ev l0 (by omega)) ?_
    refine Ev.bind t1 ?_
    simp only [impl_eq, Option.bind_some]
    refine Ev.bind (rg_eq_ev _ _ _ _ (by omega) (by omega) rfl rfl) ?_
    simp only [if_true, bne_self_eq_false]
    refine Ev.step (fun k => by rw [laws_FnExactRegionOfPoint.j0, if_neg (by decide)]) ?_
    refine Ev.bind t1 ?_
    refine Ev.bind (eqIntS_ev l0 l0 (by omega)) ?_
    simp only [decide_true, if_true]
    refine Ev.bind (markIntS_ev l0 1 (by omega) (by omega)) ?_
    simp only [show ¬ ((1 : Int) + (l0.length : Int) < 0) by omega, if_false]
    refine Ev.bind (rg_eq_ev _ _ _ _ (by omega) (by omega) rfl rfl) ?_
    simp only [if_true, bne_self_eq_false]
    refine Ev.step (fun k => by rw [laws_FnExactRegionOfPoint.j1, if_neg (by decide)]) ?_
    refine Ev.bind (rg_mark_ev _ _ (by omega) (by omega)) ?_
    refine Ev.bind (rg_held_ev _ _ (by omega) (by omega)) ?_
    simp only [show ¬ ((1 : Int) + ((regionZ l0).1.length : Int) + ((regionZ l0).2.1.length : Int) < 0) by omega, if_false, if_true]
    refine Ev.bind t1 ?_
    simp only [impl_eq, Option.bind_some]
    refine Ev.bind (rg_eq_ev _ _ _ _ (by omega) (by omega) rfl rfl) ?_
    simp only [if_true, bne_self_eq_false]
    refine Ev.step (fun k => by rw [laws_FnExactRegionOfPoint.j2, if_neg (by decide)]) ?_
    refine Ev.bind (rg_held_ev _ _ (by omega) (by omega)) ?_
    simp only [show ¬ ((1 : Int) + ((regionZ l0).1.length : Int) + ((regionZ l0).2.1.length : Int) < 0) by omega, if_false, if_true]
    exact Ev.now _
end Go.Proofs.Ytjpdhdcknoffmaa.Pure
namespace Go.Proofs.YtjpdhdcknoffmaaW.PrintWords
open Go.ChangeShapes Go.WideShapes
theorem sized_ints {H : Type} {enc : TypeId × Value → H} {P : Program} {W : World} {base : Nat} {spare : Nat → Bool} {held : Bool} {t e : TypeId} {k : IntKind} {a : Option Addr} {len cap : Nat} {d : DataW H} {ps : List MemPlace} {ts : List TypeId} {ds : List (DataW H)} {j : Nat}
    (hsz : (DataW.weightsEach P ts ds).all (· ≤ reachBytes) = true) (ht : ts[j]? = some t) (hd : ds[j]? = some d) (hu : P.underlying t = some (.slice e)) (he : P.underlying e = some (.int k)) (hc : P.cellsOf e = 1) {B : Nat} (hB : P.bytesOf e = B)
    (h : DataW.Trod enc P W base spare held t (.slice a len cap) d ps) : len * B ≤ 140737488351232 := by
  obtain ⟨fuel, hf⟩ := h
  rcases open_ints hu he hc hf with ⟨hcs, _⟩ | ⟨x, l, c, zs, hcs, _, hl, _, hz, hx, _, _⟩
  · simp [Value.cells] at hcs
    obtain ⟨rfl, rfl, rfl⟩ := hcs
    simp
  · simp [Value.cells] at hcs
    obtain ⟨rfl, rfl, rfl⟩ := hcs
    obtain ⟨hx, _⟩ := Prod.mk.inj hx
    subst hx
    have z := sized_slice hsz ht hd hu
    rw [hB] at z
    have hl2 : len ≤ zs.length := by
      rw [hz]
      split
      · exact hl
      · exact Nat.le_refl _
    have h1 : (lits (H := H) k (zs.take len)).length + (lits (H := H) k (zs.drop len)).length = zs.length := by
      simp [lits]
      omega
    rw [h1] at z
    exact Nat.le_trans (Nat.mul_le_mul_right _ hl2) z
end Go.Proofs.YtjpdhdcknoffmaaW.PrintWords
namespace Go.Proofs.Ytjpdhdcknoffmaa.fnExactRegionOfPoint
open Go.ChangeShapes Go.WideShapes Go.ChangeAt Go.RowKit
open Go.ChangeMaps (open_string shut_string)
set_option linter.unusedVariables false
theorem own : ownKnob Try.prog.godebug = none := by kernel_rfl
theorem laidOut : laidOutB Try.prog = true := by kernel_rfl
def IsRow (k : IntKind) (w : World) (a : Option Addr) (len cap : Nat) (zs : List Int) : Prop :=
  (a = none ∧ len = 0 ∧ cap = 0 ∧ zs = []) ∨
  ∃ x, a = some x ∧ len ≤ cap ∧ cap ≤ maxLen ∧ zs.length = cap ∧ (∀ i, i < zs.length → w.cell? (x.add i) = some (.int k (zs.getD i 0))) ∧ ∀ n ∈ zs, (Lit.int k n).wf = true
set_option maxRecDepth 100000 in
theorem lifted (os : Os) (started : os.Started) (H : Type) (enc : TypeId × Value → H) :
    ReturnsInHanded {} Try.checked os 3 .any (Rows.fnExactRegionOfPointSpec.pre6 enc Try.prog Try.f3 Rows.fnExactRegionOfPointRow.domain false) (Rows.fnExactRegionOfPointSpec.post enc Try.prog Try.f3 false true false false) := by
  refine returnsInHanded_of_change_sized (C := Try.checked) own started (by kernel_rfl) Try.func3
    (ChangeSpec.witness6 (enc := enc) (C := Try.checked) false ⟨#[], #[.slice none 0 0], []⟩ 8 (by kernel_rfl) (by kernel_rfl) (by kernel_rfl) (by kernel_rfl)) ?_
  intro W base args ds gs before hval0 hW hcnd hsz0 _
  have hsz : (DataW.weightsEach Try.prog (Try.f3.params.toList ++ Rows.fnExactRegionOfPointSpec.plain.varTypes Try.prog) (ds ++ gs)).all (· ≤ reachBytes) = true := hsz0
  have hval : ∀ (j : Nat) t v, Try.f3.params[j]? = some t → args[j]? = some v → Value.okWide Try.prog W .any base t v := hval0
  have hW' := hW
  obtain ⟨p, q, hA0, hV, rfl, hfz, hnd⟩ := hW
  have hA : DataW.TrodAll enc Try.prog W 0 (fun _ => true) true Try.f3.params.toList args.toList ds p := hA0
  rw [Try.params3] at hA hval hsz
  obtain ⟨v0, vs0, d0, ds0, p0, q0, hargs, rfl, rfl, h0, r0⟩ := trodAll_cons hA
  obtain ⟨rfl, rfl, rfl⟩ := trodAll_nil r0
  obtain rfl : args = #[v0] := by cases args; simp_all
  obtain ⟨rfl, rfl⟩ := trodVars_none hV
  obtain ⟨a0, len0, cap0, rfl⟩ := okWide_slice Try.underlying22 (hval 0 22 v0 rfl rfl)
  have k0 := h0
  have lt0 : ∀ x ∈ p0, x.block < W.heap.size := by obtain ⟨m, hm⟩ := k0; exact DataW.trod_lt m _ _ _ hm
  obtain ⟨z0, w0⟩ : ∃ zs, IsRow .i64 W a0 len0 cap0 zs := by
    obtain ⟨fuel, hf⟩ := h0
    rcases open_ints Try.underlying22 Try.underlying3 (by kernel_rfl) hf with ⟨hcs, _⟩ | ⟨x, l, c, zs, hcs, _, hl, hm, hz, _, hcell, hwz⟩
    · simp [Value.cells] at hcs
      obtain ⟨rfl, rfl, rfl⟩ := hcs
      exact ⟨[], .inl ⟨rfl, rfl, rfl, rfl⟩⟩
    · simp [Value.cells] at hcs
      obtain ⟨rfl, rfl, rfl⟩ := hcs
      exact ⟨zs, .inr ⟨_, rfl, hl, hm, by simpa using hz, hcell, hwz⟩⟩
  have y0 : len0 * 8 ≤ 140737488351232 := Go.Proofs.YtjpdhdcknoffmaaW.PrintWords.sized_ints hsz (j := 0) (t := 22) rfl rfl Try.underlying22 Try.underlying3 (by kernel_rfl) (by kernel_rfl) h0
  clear hA0 hval0 hsz0 hsz
  refine (G.laws_FnExactRegionOfPoint.walk Pure.FnExactRegionOfPoint a0 len0 cap0 z0 W w0 y0).mono fun e W' ⟨he, bel⟩ => ?_
  subst he
  exact ⟨_, rfl, _, _, _, [], _, [], hW', trodAll_mk1 (shut_bool Try.underlying4 _), (trodAll_cons_mk (Below.trod laidOut (by kernel_rfl) (of_decide_eq_true (by kernel_rfl)) k0 bel lt0) trodAll_mk0), rfl, bel.frame _, fun h => by cases h⟩
theorem over : Rows.fnExactRegionOfPointRow.holds Try.pinned (OpenSpec.ofChange Rows.fnExactRegionOfPointSpec) :=
  OpenClaim.holds_of_wide 3 Try.f3 rfl rfl rfl rfl rfl rfl rfl ⟨rfl, rfl, rfl, rfl, rfl⟩ rfl rfl rfl rfl rfl (by kernel_rfl) Try.func3 (by kernel_rfl)
    (of_decide_eq_true (by kernel_rfl)) (by unfold Func.isWrapper; first | (rw [if_pos (by decide +kernel)]; kernel_rfl) | (rw [if_neg (by decide +kernel)]; exact ⟨rfl, rfl⟩))
    (fun os started H enc _ => lifted os started H enc)
theorem proved : Rows.FnExactRegionOfPointSaid := over
#print axioms proved
end Go.Proofs.Ytjpdhdcknoffmaa.fnExactRegionOfPoint
namespace Go.Proofs.Ytjpdhdcknoffmaa
/-- The row, under a short name, for the claim. -/
theorem fnExactRegionOfPoint_holds : Rows.FnExactRegionOfPointSaid := fnExactRegionOfPoint.proved
end Go.Proofs.Ytjpdhdcknoffmaa
