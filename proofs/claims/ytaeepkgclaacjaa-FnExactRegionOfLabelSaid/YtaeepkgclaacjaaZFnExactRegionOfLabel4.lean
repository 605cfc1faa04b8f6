/- The law FnExactRegionOfLabel: part 4 of the printed functions and the facts on them that its row leans on (merged by this session's slim.py). -/
import Derived.Test.YtaeepkgclaacjaaZFnExactRegionOfLabel3
namespace Go.Proofs.Ytaeepkgclaacjaa.G
open Go.RowKit Go.Proofs.YtaeepkgclaacjaaW.PrintWords Go.Proofs.YtaeepkgclaacjaaW.PrintLast Go.Proofs.YtaeepkgclaacjaaW.PrintMore
attribute [local go_sem] max2_int min2_int max_two min_two max_three min_three max_four min_four   -- for this text's walks alone
set_option linter.unusedVariables false
set_option linter.unusedSimpArgs false
/-! ### spec_RegionOfLabel: function 13 -/
def spec_RegionOfLabel.f (k : Nat) (l0 : List Int) : Option (List Int × List Int × Bool) := (spec_paParking.f k l0).bind fun t272 => (if t272 = true then ((spec_reGoOn.f k ([] : List Int) ([] : List Int) l0).bind fun bt273 => (some (bt273.1, bt273.2.1, bt273.2.2))) else (some (([] : List Int), ([] : List Int), false)))
theorem spec_RegionOfLabel.mono : ∀ a0 k, LeO (spec_RegionOfLabel.f k a0) (spec_RegionOfLabel.f (k + 1) a0) := by
 intro a0 k
 unfold spec_RegionOfLabel.f
 repeat' first
   | (with_reducible exact spec_paParking.mono _ _)
   | (with_reducible exact spec_reGoOn.mono _ _ _ _)
   | (with_reducible exact LeO.refl _)
   | (with_reducible exact LeO.none _)
   | (with_reducible refine LeO.ite ?_ ?_)
   | (with_reducible refine LeO.bind ?_ (fun _ => ?_))
   | exact spec_paParking.mono _ _
   | exact spec_reGoOn.mono _ _ _ _
   | exact LeO.none _
   | refine LeO.ite ?_ ?_
   | refine LeO.bind ?_ (fun _ => ?_)
set_option maxHeartbeats 8000000 in
set_option maxRecDepth 100000 in
theorem spec_RegionOfLabel.calls (k : Nat) (A0 : Option Addr) (c0 : Nat) (l0 : List Int) (r1 : List Int) (r2 : List Int) (r3 : Bool) (w : World) (hr0 : Kd.C (Kd.int .i64) w A0 l0.length l0) (hc0 : l0.length ≤ c0) (h : spec_RegionOfLabel.f k l0 = some (r1, r2, r3)) :
  Calls Try.prog 13 #[.slice A0 l0.length c0] w fun e w' => ∃ v0_ v1_ : Value, e = .returned (.tuple #[.agg #[v0_, v1_], .bool r3]) ∧ Kd.R (Kd.int .i64) 3 w' w.heap.size (fun k_ => some k_ ≠ (v1_ : Value).ownBlock) v0_ r1 ∧ Kd.R (Kd.int .i64) 3 w' w.heap.size (fun k_ => some k_ ≠ (v0_ : Value).ownBlock) v1_ r2 ∧ Below w.heap.size w w' := by
 have hu24 := Try.underlying24
 have HR0 := aS_ hr0
 have HC0 := aS_ hc0
 clear hr0 hc0
 have HB := aS_ (Below.refl w.heap.size w)
 have H : ((spec_paParking.f k l0).bind fun t272 => (if t272 = true then ((spec_reGoOn.f k ([] : List Int) ([] : List Int) l0).bind fun bt273 => (some (bt273.1, bt273.2.1, bt273.2.2))) else (some (([] : List Int), ([] : List Int), false)))) = some (r1, r2, r3) := h
 clear h
 replace H := Option.bind_eq_some_iff.mp H
 obtain ⟨t272, A20, H⟩ := H
 have A2 := aS_ A20
 clear A20
 by_cases c3 : t272 = true
 ·subst c3
  rw [if_pos rfl] at H
  replace H := Option.bind_eq_some_iff.mp H
  obtain ⟨⟨t273, t276, t279⟩, A40, H⟩ := H
  have A4 := aS_ A40
  clear A40
  simp only [Option.some.injEq, Prod.mk.injEq] at H
  obtain ⟨rfl, rfl, rfl⟩ := H
  go_enter Try.func13, Try.ntmps13
  go_wp2_with (first | ((with_reducible refine gate_dst (N := 2) rfl ?_); refine box_event ?hg (N := 2) ?hd (cs := #[.slice none 0 0, .slice none 0 0]) (t := 24) ?hr ?_; (case hd => rfl); (case hg => rfl); (case hr => first | (go_simp; done) | (go_simp; rfl)); intro gb271 hg w5 hbox hb; have n0_ := aS_ (below_step (by repeat (first | (with_reducible first | exact HB.out | apply bA_ | apply pN_ | apply bD_) | exact HB.out)) hb); have n1_ := aS_ (hbox); have n2_ := aS_ ((by rw [hg]; exact (below_size (by repeat (first | (with_reducible first | exact HB.out | apply bA_ | apply pN_ | apply bD_) | exact HB.out))) : w.heap.size ≤ gb271)); have n3_ := aS_ ((by rw [hg]; exact (below_size (by repeat (first | (with_reducible first | exact HB.out | apply bA_ | apply pN_ | apply bD_) | exact HB.out))) : w.heap.size ≤ gb271)); clear HB; have HB := n0_; have BK271 := n1_; have GW271 := n2_; have GE271 := n3_; clear n0_ n1_ n2_ n3_; clear hb hbox hg) | ((with_reducible refine gate_callee (f := 33) rfl ?_); refine goesL_ (some 5) rfl rfl Try.func33 (by kernel_rfl) rfl #[.slice A0 l0.length c0] rfl (by (try simp only [List.map_toArray, List.map_cons, List.map_nil]); first | done | rfl | (simp only [List.length_drop, List.length_take]; rfl)) ?_; (with_reducible refine (spec_paParking.calls k _ _ l0 true _ ?side1 ?side2 A2.out).mono ?_); (case side1 => repeat (first | exact (Kd.C_below HR0.out HB.out) | (with_reducible refine Kd.C_alloc ?_ _) | (with_reducible refine Kd.C_drewN ?_ _) | (with_reducible refine Kd.C_drew ?_))); (case side2 => exact HC0.out); rintro e w6 ⟨rfl, hb⟩; refine ⟨_, rfl, ?_⟩; have n0_ := aS_ (blk_below (g := gb271) (o := .cells #[.slice none 0 0, .slice none 0 0] 24 (0, 0)) (by (with_reducible repeat (first | refine kN_ ?_ _ | refine kD_ ?_ | refine kA_ ?_ _)); exact BK271.out) hb); have n1_ := aS_ (below_step (by repeat (first | (with_reducible first | exact HB.out | apply bA_ | apply pN_ | apply bD_ | refine bS_ ?_ GE271.out) | exact HB.out)) hb); clear BK271; clear HB; have BK271 := n0_; have HB := n1_; clear n0_ n1_; (try clear hb); (try clear hb2); (try clear hk); (try clear hi)) | ((with_reducible refine gate_callee (f := 34) rfl ?_); refine goesL_ (some 10) rfl rfl Try.func34 (by kernel_rfl) rfl #[.agg #[.slice none 0 0, .slice none 0 0], .slice A0 l0.length c0] rfl (by (try simp only [List.map_toArray, List.map_cons, List.map_nil]); first | done | rfl | (simp only [List.length_drop, List.length_take]; rfl)) ?_; (refine (spec_reGoOn.calls k (fun k_ => some k_ = (.slice none 0 0 : Value).ownBlock) (.slice none 0 0) ([] : List Int) (fun k_ => some k_ = (.slice none 0 0 : Value).ownBlock) (.slice none 0 0) ([] : List Int) _ _ l0 t273 t276 t279 w _ ?side1 ?side2 ?side3 ?side4 ?side5 ?side6 ?side7 A4.out).mono ?_); (case side1 => repeat (first | (with_reducible first | exact HB.out | apply bA_ | apply pN_ | apply bD_ | refine bS_ ?_ GE271.out) | exact HB.out)); (case side2 => exact Kd.R_nil _ _ _ _ _); (case side3 => intro k_ e_ e2_; simp [Value.ownBlock] at e_ e2_); (case side4 => exact Kd.R_nil _ _ _ _ _); (case side5 => intro k_ e_ e2_; simp [Value.ownBlock] at e_ e2_); (case side6 => exact Kd.C_kept_came (Kd.heap_int .i64) HR0.out (by repeat (first | (with_reducible first | exact HB.out | apply bA_ | apply pN_ | apply bD_ | refine bS_ ?_ GE271.out) | exact HB.out)) (fun k_ hs_ => Or.elim hs_ (fun e_ => (fun e_ => by simp [Value.ownBlock] at e_) e_) (fun e_ => (fun e_ => by simp [Value.ownBlock] at e_) e_))); (case side7 => exact HC0.out); rintro e w7 ⟨v274, v277, rfl, ho0, ho1, hb, hkp⟩; refine ⟨_, rfl, ?_⟩; have n0_ := aS_ (blk_kept (by (with_reducible repeat (first | refine kN_ ?_ _ | refine kD_ ?_ | refine kA_ ?_ _)); exact BK271.out) hkp (fun hs_ => Or.elim hs_ (fun e_ => (fun e_ => by simp [Value.ownBlock] at e_) e_) (fun e_ => (fun e_ => by simp [Value.ownBlock] at e_) e_))); have n1_ := aS_ (Kd.R_mono (ok' := fun k_ => some k_ ≠ (v277 : Value).ownBlock) ho0 (fun k_ hk_ => hk_.2)); have n2_ := aS_ (Kd.R_mono (ok' := fun k_ => some k_ ≠ (v274 : Value).ownBlock) ho1 (fun k_ hk_ => hk_.2)); have n3_ := aS_ (hb); clear BK271; clear HB; have BK271 := n0_; have HO275 := n1_; have HO278 := n2_; have HB := n3_; clear n0_ n1_ n2_ n3_; (try clear hb); (try clear hkp); (try clear ho0); (try clear ho1); obtain ⟨Ao8, co8, eo8⟩ := Kd.R_slice HO275.out; subst eo8; have hcz9_0 : w7.cell? ⟨gb271, 0, none⟩ = some (.slice none 0 0) := (blk_cell BK271.out 0).trans rfl; have hcz9_1 : w7.cell? ⟨gb271, 1, none⟩ = some (.slice none 0 0) := (blk_cell BK271.out 1).trans rfl; have hfz9_0 := blk_frozen BK271.out 0; have hfz9_1 := blk_frozen BK271.out 1; obtain ⟨Ao10, co10, eo10⟩ := Kd.R_slice HO278.out; subst eo10))
  refine bodyPost_ret (results_ct rfl _ _ gb271 24 #[.slice Ao8 t273.length co8, .slice Ao10 t276.length co10] (0, 0) _ rfl (by (with_reducible repeat (first | refine kN_ ?_ _ | refine kD_ ?_ | refine kA_ ?_ _)); refine blk_put (cs := #[.slice Ao8 t273.length co8, .slice none 0 0]) ?_ 1 _ rfl; (with_reducible repeat (first | refine kN_ ?_ _ | refine kD_ ?_ | refine kA_ ?_ _)); refine blk_put (cs := #[.slice none 0 0, .slice none 0 0]) ?_ 0 _ rfl; (with_reducible repeat (first | refine kN_ ?_ _ | refine kD_ ?_ | refine kA_ ?_ _)); exact BK271.out) Try.underlying24 rfl (by kernel_rfl)) rfl ?_
  exact ⟨_, _, by first | rfl | (simp [errW_none, errW_some] <;> rfl) | (simp [*, errW_none, errW_some] <;> rfl), by (with_reducible repeat (first | apply rA_ | apply rN_ | apply rD_)); exact Kd.R_mono (Kd.R_far (p := ⟨gb271, 1, none⟩) (Kd.R_far (p := ⟨gb271, 0, none⟩) (Kd.R_types HO275.out BK271.out (by decide)) (fun _ hk => hk.2) (.slice Ao8 t273.length co8)) (fun _ hk => hk.2) (.slice Ao10 t276.length co10)) (fun _ hk => hk.1), by (with_reducible repeat (first | apply rA_ | apply rN_ | apply rD_)); exact Kd.R_mono (Kd.R_far (p := ⟨gb271, 1, none⟩) (Kd.R_far (p := ⟨gb271, 0, none⟩) (Kd.R_types HO278.out BK271.out (by decide)) (fun _ hk => hk.2) (.slice Ao8 t273.length co8)) (fun _ hk => hk.2) (.slice Ao10 t276.length co10)) (fun _ hk => hk.1), by repeat (first | (with_reducible first | exact HB.out | apply bA_ | apply pN_ | apply bD_ | refine bS_ ?_ GE271.out) | exact HB.out)⟩
 ·replace c3 := Bool.eq_false_iff.mpr c3
  subst c3
  rw [if_neg (show ¬ (false = true) by decide)] at H
  simp only [Option.some.injEq, Prod.mk.injEq] at H
  obtain ⟨rfl, rfl, rfl⟩ := H
  go_enter Try.func13, Try.ntmps13
  go_wp2_with (first | ((with_reducible refine gate_dst (N := 2) rfl ?_); refine box_event ?hg (N := 2) ?hd (cs := #[.slice none 0 0, .slice none 0 0]) (t := 24) ?hr ?_; (case hd => rfl); (case hg => rfl); (case hr => first | (go_simp; done) | (go_simp; rfl)); intro gb271 hg w11 hbox hb; have n0_ := aS_ (below_step (by repeat (first | (with_reducible first | exact HB.out | apply bA_ | apply pN_ | apply bD_) | exact HB.out)) hb); have n1_ := aS_ (hbox); have n2_ := aS_ ((by rw [hg]; exact (below_size (by repeat (first | (with_reducible first | exact HB.out | apply bA_ | apply pN_ | apply bD_) | exact HB.out))) : w.heap.size ≤ gb271)); have n3_ := aS_ ((by rw [hg]; exact (below_size (by repeat (first | (with_reducible first | exact HB.out | apply bA_ | apply pN_ | apply bD_) | exact HB.out))) : w.heap.size ≤ gb271)); clear HB; have HB := n0_; have BK271 := n1_; have GW271 := n2_; have GE271 := n3_; clear n0_ n1_ n2_ n3_; clear hb hbox hg) | ((with_reducible refine gate_callee (f := 33) rfl ?_); refine goesL_ (some 5) rfl rfl Try.func33 (by kernel_rfl) rfl #[.slice A0 l0.length c0] rfl (by (try simp only [List.map_toArray, List.map_cons, List.map_nil]); first | done | rfl | (simp only [List.length_drop, List.length_take]; rfl)) ?_; (with_reducible refine (spec_paParking.calls k _ _ l0 false _ ?side1 ?side2 A2.out).mono ?_); (case side1 => repeat (first | exact (Kd.C_below HR0.out HB.out) | (with_reducible refine Kd.C_alloc ?_ _) | (with_reducible refine Kd.C_drewN ?_ _) | (with_reducible refine Kd.C_drew ?_))); (case side2 => exact HC0.out); rintro e w12 ⟨rfl, hb⟩; refine ⟨_, rfl, ?_⟩; have n0_ := aS_ (blk_below (g := gb271) (o := .cells #[.slice none 0 0, .slice none 0 0] 24 (0, 0)) (by (with_reducible repeat (first | refine kN_ ?_ _ | refine kD_ ?_ | refine kA_ ?_ _)); exact BK271.out) hb); have n1_ := aS_ (below_step (by repeat (first | (with_reducible first | exact HB.out | apply bA_ | apply pN_ | apply bD_ | refine bS_ ?_ GE271.out) | exact HB.out)) hb); clear BK271; clear HB; have BK271 := n0_; have HB := n1_; clear n0_ n1_; (try clear hb); (try clear hb2); (try clear hk); (try clear hi); have hcz13_0 : w12.cell? ⟨gb271, 0, none⟩ = some (.slice none 0 0) := (blk_cell BK271.out 0).trans rfl; have hcz13_1 : w12.cell? ⟨gb271, 1, none⟩ = some (.slice none 0 0) := (blk_cell BK271.out 1).trans rfl; have hfz13_0 := blk_frozen BK271.out 0; have hfz13_1 := blk_frozen BK271.out 1))
  refine bodyPost_ret (results_ct rfl _ _ gb271 24 #[.slice none 0 0, .slice none 0 0] (0, 0) _ rfl (by (with_reducible repeat (first | refine kN_ ?_ _ | refine kD_ ?_ | refine kA_ ?_ _)); refine blk_put (cs := #[.slice none 0 0, .slice none 0 0]) ?_ 1 _ rfl; (with_reducible repeat (first | refine kN_ ?_ _ | refine kD_ ?_ | refine kA_ ?_ _)); refine blk_put (cs := #[.slice none 0 0, .slice none 0 0]) ?_ 0 _ rfl; (with_reducible repeat (first | refine kN_ ?_ _ | refine kD_ ?_ | refine kA_ ?_ _)); exact BK271.out) Try.underlying24 rfl (by kernel_rfl)) rfl ?_
  exact ⟨_, _, by first | rfl | (simp [errW_none, errW_some] <;> rfl) | (simp [*, errW_none, errW_some] <;> rfl), by first | exact Kd.R_nil _ _ _ _ _ | exact Kd.N_nil _ _ _ _ _ | exact Kd.V_nil _ _ _ _ _ | exact Kd.Q_nil _ _ _ _ _ | exact Kd.S_nil _ _ _ _ _, by first | exact Kd.R_nil _ _ _ _ _ | exact Kd.N_nil _ _ _ _ _ | exact Kd.V_nil _ _ _ _ _ | exact Kd.Q_nil _ _ _ _ _ | exact Kd.S_nil _ _ _ _ _, by repeat (first | (with_reducible first | exact HB.out | apply bA_ | apply pN_ | apply bD_ | refine bS_ ?_ GE271.out) | exact HB.out)⟩
/-! ### laws_toIntS: function 14 -/
def laws_toIntS.l0 : Nat → List Int → List Int → Int → Option (List Int)
 | 0, _, _, _ => none
 | k + 1, x0, x3, x4 => if x4 < (x0.length : Int) then (if 0 ≤ x4 then (if x4 < (x3.length : Int) then (laws_toIntS.l0 k x0 (x3.set (x4 : Int).toNat (rd x0 x4)) (wrap64 (x4 + 1))) else (none)) else (none)) else (some x3)
def laws_toIntS.f (k : Nat) (l0 : List Int) : Option (List Int) := if 0 ≤ (l0.length : Int) then (if ((l0.length : Int) : Int).toNat ≤ 35184372088832 then (laws_toIntS.l0 k l0 (List.replicate ((l0.length : Int) : Int).toNat 0) 0) else (none)) else (none)
theorem laws_toIntS.mono_l : ∀ k, (∀ y0 y1 y2, LeO (laws_toIntS.l0 k y0 y1 y2) (laws_toIntS.l0 (k + 1) y0 y1 y2))
 | 0 => fun _ _ _ r h => by simp [laws_toIntS.l0] at h
 | k + 1 => by
  have ih0 := laws_toIntS.mono_l k
  ·intro y0 y1 y2
   unfold laws_toIntS.l0
   repeat' first
   | (with_reducible exact ih0 _ _ _)
   | (with_reducible exact LeO.refl _)
   | (with_reducible exact LeO.none _)
   | (with_reducible refine LeO.ite ?_ ?_)
   | (with_reducible refine LeO.bind ?_ (fun _ => ?_))
   | exact ih0 _ _ _
   | exact LeO.none _
   | refine LeO.ite ?_ ?_
   | refine LeO.bind ?_ (fun _ => ?_)
theorem laws_toIntS.mono : ∀ a0 k, LeO (laws_toIntS.f k a0) (laws_toIntS.f (k + 1) a0) := by
 intro a0 k
 have ih0 := laws_toIntS.mono_l k
 unfold laws_toIntS.f
 repeat' first
   | (with_reducible exact ih0 _ _ _)
   | (with_reducible exact LeO.refl _)
   | (with_reducible exact LeO.none _)
   | (with_reducible refine LeO.ite ?_ ?_)
   | (with_reducible refine LeO.bind ?_ (fun _ => ?_))
   | exact ih0 _ _ _
   | exact LeO.none _
   | refine LeO.ite ?_ ?_
   | refine LeO.bind ?_ (fun _ => ?_)
set_option maxHeartbeats 8000000 in
set_option maxRecDepth 100000 in
theorem laws_toIntS.calls (k : Nat) (A0 : Option Addr) (c0 : Nat) (l0 : List Int) (r : List Int) (w : World) (hr0 : Kd.C (Kd.int .i64) w A0 l0.length l0) (hc0 : l0.length ≤ c0) (h : laws_toIntS.f k l0 = some r) :
  Calls Try.prog 14 #[.slice A0 l0.length c0] w fun e w' => ∃ v0_ : Value, e = .returned (v0_) ∧ Kd.R (Kd.int .i64) 3 w' w.heap.size (fun _ => True) v0_ r ∧ Below w.heap.size w w' := by
 have HR0 := aS_ hr0
 have HC0 := aS_ hc0
 clear hr0 hc0
 have HB := aS_ (Below.refl w.heap.size w)
 have H : (if 0 ≤ (l0.length : Int) then (if ((l0.length : Int) : Int).toNat ≤ 35184372088832 then (laws_toIntS.l0 k l0 (List.replicate ((l0.length : Int) : Int).toNat 0) 0) else (none)) else (none)) = some r := h
 clear h
 by_cases c2 : 0 ≤ (l0.length : Int)
 ·rw [if_pos c2] at H
  have c2b0 := eq_true c2
  have c2b1 : decide (0 ≤ (l0.length : Int)) = true := decide_eq_true c2
  clear c2
  by_cases c3 : ((l0.length : Int) : Int).toNat ≤ 35184372088832
  ·rw [if_pos c3] at H
   have c3b0 := eq_true c3
   have c3b1 : decide (((l0.length : Int) : Int).toNat ≤ 35184372088832) = true := decide_eq_true c3
   clear c3
   obtain ⟨y280, hy280⟩ : ∃ y_ : List Int, y_ = (List.replicate ((l0.length : Int) : Int).toNat 0) := ⟨_, rfl⟩
   replace H : (laws_toIntS.l0 k l0 y280 0) = some r := by first | (rw [hy280]; with_reducible exact H) | (have H2_ := (Option.bind_some _ _).symm.trans H; rw [hy280]; with_reducible exact H2_) | (have H2_ := (Option.bind_some _ _).symm.trans H; with_reducible exact H2_) | with_reducible exact H | (rw [hy280]; exact H) | exact H
   have Ny280 := aS_ hy280
   clear hy280
   have H' := aS_ H
   clear H
   go_enter Try.func14, Try.ntmps14
   go_wp2_with (first | ((with_reducible refine gate_dst (N := 7) rfl ?_); refine Kd.R_make (Kd.int .i64) _ 3 rfl (N := 7) rfl 22 _ _ rfl (l0.length : Int) rfl rfl Try.underlying22 (.int .i64 0) 8 info3 rfl (by decide) (by omega) 0 (ok := fun _ => True) (okp := fun _ => True) rfl (fun _ hk => hk) trivial (of_decide_eq_true (by assumption)) (Nat.le_trans (Nat.mul_le_mul_right _ (of_decide_eq_true (by assumption) : (l0.length : Int).toNat ≤ 35184372088832)) (by omega)) (Below.refl _ _) (Nat.le_refl _) ?_; intro v281 w4 ho5 hb hg_ hnew_; clear hg_ hnew_; (first | rw [← Ny280.out] at ho5 | (simp only [Int.reduceToNat] at ho5; rw [← Ny280.out] at ho5)); have n0_ := aS_ (Kd.R_lower ho5 (below_size (by repeat (first | (with_reducible first | exact HB.out | apply bA_ | apply pN_ | apply bD_) | exact HB.out)))); have n1_ := aS_ (below_step (by repeat (first | (with_reducible first | exact HB.out | apply bA_ | apply pN_ | apply bD_) | exact HB.out)) hb); clear HB; have HO282 := n0_; have HB := n1_; clear n0_ n1_; clear hb ho5))
   go_loopg [4] k (fun kq v4 w' => ∃ (x3_1 : List Int) (x4_1 : Int), v4 = .int .i64 x4_1 ∧ Aside0 (laws_toIntS.l0 kq l0 x3_1 x4_1 = some r) ∧ Aside0 (kq ≤ k) ∧ Aside0 (Kd.R (Kd.int .i64) 3 w' w.heap.size (fun _ => True) v281 x3_1) ∧ Aside0 (Below w.heap.size w w'))
   case atStart => exact ⟨(y280), (0), (by first | rfl | (simp; done) | (simp [*]; done)), H', ⟨Nat.le_refl _⟩, ⟨by (with_reducible repeat (first | apply rA_ | apply rN_ | apply rD_)); exact HO282.out⟩, ⟨by repeat (first | (with_reducible first | exact HB.out | apply bA_ | apply pN_ | apply bD_) | exact HB.out)⟩⟩
   case round =>
    clear H'
    try clear c1
    try clear c2
    try clear c2b0
    try clear c2b1
    try clear p2
    try clear c3
    try clear c3b0
    try clear c3b1
    obtain ⟨x3_1, x4_1, rfl, HA, HK1, HO_3, HB⟩ := hrel
    cases gk with
    | zero => exact absurd HA.out (by simp [laws_toIntS.l0])
    | succ k1 =>
     have H := HA.out
     clear HA
     simp only [laws_toIntS.l0] at H
     by_cases c6 : x4_1 < (l0.length : Int)
     ·rw [if_pos c6] at H
      have c6b0 : decide (x4_1 < (l0.length : Int)) = true := decide_eq_true c6
      clear c6
      by_cases c7 : 0 ≤ x4_1
      ·rw [if_pos c7] at H
       have c7b0 : decide (0 ≤ x4_1) = true := decide_eq_true c7
       clear c7
       by_cases c8 : x4_1 < (x3_1.length : Int)
       ·rw [if_pos c8] at H
        have c8b0 : decide (x4_1 < (x3_1.length : Int)) = true := decide_eq_true c8
        clear c8
        obtain ⟨y284, hy284⟩ : ∃ y_ : List Int, y_ = (x3_1.set (x4_1 : Int).toNat (rd l0 x4_1)) := ⟨_, rfl⟩
        replace H : (laws_toIntS.l0 k1 l0 y284 (wrap64 (x4_1 + 1))) = some r := by first | (rw [hy284]; with_reducible exact H) | (have H2_ := (Option.bind_some _ _).symm.trans H; rw [hy284]; with_reducible exact H2_) | (have H2_ := (Option.bind_some _ _).symm.trans H; with_reducible exact H2_) | with_reducible exact H | (rw [hy284]; exact H) | exact H
        have Ny284 := aS_ hy284
        clear hy284
        have H' := aS_ H
        clear H
        have p283 : 0 ≤ (x4_1 : Int) := of_decide_eq_true (by assumption)
        have q283 : x4_1 < (l0.length : Int) := of_decide_eq_true (by assumption)
        obtain ⟨ad283, e283, hx283_0⟩ := Kd.at_int HR0.out x4_1 p283 q283
        cases e283
        replace hx283_0 := (HB.out.cell (World.block_lt_of_cell? w _ hx283_0)).trans hx283_0
        replace p283 := eq_true p283
        replace q283 := eq_true q283
        have p9 : 0 ≤ (x4_1 : Int) := of_decide_eq_true (by assumption)
        have q9 : (x4_1 : Int) < ((x3_1.length : Int) : Int) := of_decide_eq_true (by assumption)
        obtain ⟨go9, co9, eo9, gb9, gl9, cl9, HG9⟩ := Kd.R_form HO_3.out (by omega)
        (first | cases eo9 | (injection eo9 with ea_ en_ ec_; (first | subst ea_ | (injection ea_ with ea_; subst ea_)); subst ec_; clear en_))
        have GB9 := aS_ gb9
        have GG9 := aS_ HG9
        clear gb9 gl9 HG9
        obtain ⟨hx9_0, hf9_0⟩ := Kd.R_celln 0 HO_3.out (x4_1 : Int) p9 q9
        replace p9 := eq_true p9
        replace q9 := eq_true q9
        have HP10 := Kd.R_putg HO_3.out (x4_1 : Int) (rd l0 x4_1)
        go_wp2_with (first | ((with_reducible refine gate_store (t := 3) (p := 20) rfl ?_); refine store_event (t := 3) (p := 20) (v := ?vo_w11) (w1 := (wr.setCell ⟨go9, (x4_1 : Int).toNat, none⟩ (.int .i64 (rd l0 x4_1)))) ?hg ?ho ?hn ?hr ?_; (case ho => rfl); (case hg => rfl); (case hn => rfl); (case hr => first | (go_simp; done) | (go_simp; rfl)); intro w11 hw; have hg : wr.grownBy w11 (some go9) := (by rw [hw]; exact HP10.2); have hp_ : Kd.R (Kd.int .i64) 3 w11 w.heap.size (fun _ => True) (.slice (some ⟨go9, 0, none⟩) x3_1.length co9) y284 := (by rw [hw, Ny284.out]; exact HP10.1); clear HP10; have n0_ := aS_ (hp_); have n1_ := aS_ ((by rw [hw]; exact bS_ (HB.out) GB9.out : Below w.heap.size w w11)); clear HO_3; clear HB; have HO_3 := n0_; have HB := n1_; clear n0_ n1_; clear hg hw hp_))
        go_roundg k1
        case measure => have := HK1.out; omega
        case rel => exact ⟨(y284), (wrap64 (x4_1 + 1)), (by first | rfl | (simp; done) | (simp [*]; done)), H', ⟨by have := HK1.out; omega⟩, ⟨by (with_reducible repeat (first | apply rA_ | apply rN_ | apply rD_)); exact HO_3.out⟩, ⟨by repeat (first | (with_reducible first | exact HB.out | apply bA_ | apply pN_ | apply bD_) | exact HB.out)⟩⟩
       ·rw [if_neg c8] at H
        exact absurd H (by simp)
      ·rw [if_neg c7] at H
       exact absurd H (by simp)
     ·rw [if_neg c6] at H
      have c6b0 : decide (x4_1 < (l0.length : Int)) = false := decide_eq_false c6
      clear c6
      obtain rfl := Option.some.inj H
      go_wp2
      go_ret
      exact ⟨_, by first | rfl | (simp [errW_none, errW_some] <;> rfl) | (simp [*, errW_none, errW_some] <;> rfl), by (with_reducible repeat (first | apply rA_ | apply rN_ | apply rD_)); exact HO_3.out, by repeat (first | (with_reducible first | exact HB.out | apply bA_ | apply pN_ | apply bD_) | exact HB.out)⟩
  ·rw [if_neg c3] at H
   exact absurd H (by simp)
 ·rw [if_neg c2] at H
  exact absurd H (by simp)
/-! ### impl_areCars: function 55 -/
def impl_areCars.f (l0 : List Int) : Option (Bool) := if (l0.length : Int) ≤ 8 then ((impl_areBetween.f l0 0 99).bind fun t285 => (some t285)) else (some false)
set_option maxHeartbeats 8000000 in
set_option maxRecDepth 100000 in
theorem impl_areCars.calls (A0 : Option Addr) (c0 : Nat) (l0 : List Int) (r : Bool) (w : World) (hr0 : Kd.C (Kd.int .i64) w A0 l0.length l0) (hc0 : l0.length ≤ c0) (h : impl_areCars.f l0 = some r) :
  Calls Try.prog 55 #[.slice A0 l0.length c0] w fun e w' => e = .returned (.bool r) ∧ Below w.heap.size w w' := by
 have HR0 := aS_ hr0
 have HC0 := aS_ hc0
 clear hr0 hc0
 have HB := aS_ (Below.refl w.heap.size w)
 have H : (if (l0.length : Int) ≤ 8 then ((impl_areBetween.f l0 0 99).bind fun t285 => (some t285)) else (some false)) = some r := h
 clear h
 by_cases c2 : (l0.length : Int) ≤ 8
 ·rw [if_pos c2] at H
  have c2b0 : decide ((l0.length : Int) ≤ 8) = true := decide_eq_true c2
  have c2b1 : decide (l0.length ≤ 8) = true := decide_eq_true (by omega)
  clear c2
  replace H := Option.bind_eq_some_iff.mp H
  obtain ⟨t285, A30, H⟩ := H
  have A3 := aS_ A30
  clear A30
  obtain rfl := Option.some.inj H
  go_enter Try.func55, Try.ntmps55
  go_wp2_with (first | (go_at_call 61; (with_reducible refine (impl_areBetween.calls _ _ l0 0 99 t285 _ ?side1 ?side2 A3.out).mono ?_); (case side1 => repeat (first | exact HR0.out | (with_reducible refine Kd.C_alloc ?_ _) | (with_reducible refine Kd.C_drewN ?_ _) | (with_reducible refine Kd.C_drew ?_))); (case side2 => exact HC0.out); rintro e w4 ⟨rfl, hb⟩; have n0_ := aS_ (below_step (by repeat (first | (with_reducible first | exact HB.out | apply bA_ | apply pN_ | apply bD_) | exact HB.out)) hb); clear HB; have HB := n0_; clear n0_; (try clear hb); (try clear hb2); (try clear hk); (try clear hi)))
  go_ret
  exact ⟨by first | rfl | (simp [errW_none, errW_some] <;> rfl) | (simp [*, errW_none, errW_some] <;> rfl), by repeat (first | (with_reducible first | exact HB.out | apply bA_ | apply pN_ | apply bD_) | exact HB.out)⟩
 ·rw [if_neg c2] at H
  have c2b0 : decide ((l0.length : Int) ≤ 8) = false := decide_eq_false c2
  have c2b1 : decide (l0.length ≤ 8) = false := decide_eq_false (by omega)
  clear c2
  obtain rfl := Option.some.inj H
  go_enter Try.func55, Try.ntmps55
  go_wp2
  go_ret
  exact ⟨by first | rfl | (simp [errW_none, errW_some] <;> rfl) | (simp [*, errW_none, errW_some] <;> rfl), by repeat (first | (with_reducible first | exact HB.out | apply bA_ | apply pN_ | apply bD_) | exact HB.out)⟩
/-! ### impl_drive: function 56 -/
mutual
def impl_drive.l0 : Nat → Int → List Bool → List Int → List Int → Int → Int → Option (List Int × Bool)
 | 0, _, _, _, _, _, _ => none
 | k + 1, x1, x6, x7, x13, x14, x15 => if x15 < x14 then (if 0 ≤ x15 then (if x15 < (x13.length : Int) then (impl_drive.l1 k x1 x6 x7 (rd x13 x15) x13 x14 x15) else (none)) else (none)) else (some (x7, true))
def impl_drive.l1 : Nat → Int → List Bool → List Int → Int → List Int → Int → Int → Option (List Int × Bool)
 | 0, _, _, _, _, _, _, _ => none
 | k + 1, x1, x6, x7, x9, x13, x14, x15 => if x9 < x1 then (if 0 ≤ x9 then (if x9 < (x6.length : Int) then (if rdOf false x6 x9 = true then (impl_drive.l1 k x1 x6 x7 (wrap64 (x9 + 1)) x13 x14 x15) else (if x9 ≥ x1 then (some (([] : List Int), false)) else (if x7.length < 17592186044416 then (impl_drive.l0 k x1 (x6.set (x9 : Int).toNat true) (x7 ++ [x9]) x13 x14 (wrap64 (x15 + 1))) else (none)))) else (none)) else (none)) else (if x9 ≥ x1 then (some (([] : List Int), false)) else (if 0 ≤ x9 then (if x9 < (x6.length : Int) then (if x7.length < 17592186044416 then (impl_drive.l0 k x1 (x6.set (x9 : Int).toNat true) (x7 ++ [x9]) x13 x14 (wrap64 (x15 + 1))) else (none)) else (none)) else (none)))
end
def impl_drive.f (k : Nat) (l0 : List Int) (a1 : Int) : Option (List Int × Bool) := if 0 ≤ a1 then (if (a1 : Int).toNat ≤ 281474976710656 then (impl_drive.l0 k a1 (List.replicate (a1 : Int).toNat false) (([] : List Int)) l0 (l0.length : Int) 0) else (none)) else (none)
theorem impl_drive.mono_l : ∀ k, (∀ y0 y1 y2 y3 y4 y5, LeO (impl_drive.l0 k y0 y1 y2 y3 y4 y5) (impl_drive.l0 (k + 1) y0 y1 y2 y3 y4 y5)) ∧ (∀ y0 y1 y2 y3 y4 y5 y6, LeO (impl_drive.l1 k y0 y1 y2 y3 y4 y5 y6) (impl_drive.l1 (k + 1) y0 y1 y2 y3 y4 y5 y6))
 | 0 => ⟨fun _ _ _ _ _ _ r h => by simp [impl_drive.l0] at h, fun _ _ _ _ _ _ _ r h => by simp [impl_drive.l1] at h⟩
 | k + 1 => by
  obtain ⟨ih0, ih1⟩ := impl_drive.mono_l k
  refine ⟨?_, ?_⟩
  ·intro y0 y1 y2 y3 y4 y5
   unfold impl_drive.l0
   repeat' first
   | (with_reducible exact ih0 _ _ _ _ _ _)
   | (with_reducible exact ih1 _ _ _ _ _ _ _)
   | (with_reducible exact LeO.refl _)
   | (with_reducible exact LeO.none _)
   | (with_reducible refine LeO.ite ?_ ?_)
   | (with_reducible refine LeO.bind ?_ (fun _ => ?_))
   | exact ih0 _ _ _ _ _ _
   | exact ih1 _ _ _ _ _ _ _
   | exact LeO.none _
   | refine LeO.ite ?_ ?_
   | refine LeO.bind ?_ (fun _ => ?_)
  ·intro y0 y1 y2 y3 y4 y5 y6
   unfold impl_drive.l1
   repeat' first
   | (with_reducible exact ih0 _ _ _ _ _ _)
   | (with_reducible exact ih1 _ _ _ _ _ _ _)
   | (with_reducible exact LeO.refl _)
   | (with_reducible exact LeO.none _)
   | (with_reducible refine LeO.ite ?_ ?_)
   | (with_reducible refine LeO.bind ?_ (fun _ => ?_))
   | exact ih0 _ _ _ _ _ _
   | exact ih1 _ _ _ _ _ _ _
   | exact LeO.none _
   | refine LeO.ite ?_ ?_
   | refine LeO.bind ?_ (fun _ => ?_)
theorem impl_drive.mono : ∀ a0 a1 k, LeO (impl_drive.f k a0 a1) (impl_drive.f (k + 1) a0 a1) := by
 intro a0 a1 k
 obtain ⟨ih0, ih1⟩ := impl_drive.mono_l k
 unfold impl_drive.f
 repeat' first
   | (with_reducible exact ih0 _ _ _ _ _ _)
   | (with_reducible exact ih1 _ _ _ _ _ _ _)
   | (with_reducible exact LeO.refl _)
   | (with_reducible exact LeO.none _)
   | (with_reducible refine LeO.ite ?_ ?_)
   | (with_reducible refine LeO.bind ?_ (fun _ => ?_))
   | exact ih0 _ _ _ _ _ _
   | exact ih1 _ _ _ _ _ _ _
   | exact LeO.none _
   | refine LeO.ite ?_ ?_
   | refine LeO.bind ?_ (fun _ => ?_)
set_option maxHeartbeats 8000000 in
set_option maxRecDepth 100000 in
theorem impl_drive.calls (k : Nat) (A0 : Option Addr) (c0 : Nat) (l0 : List Int) (a1 : Int) (r1 : List Int) (r2 : Bool) (w : World) (hr0 : Kd.C (Kd.int .i64) w A0 l0.length l0) (hc0 : l0.length ≤ c0) (h : impl_drive.f k l0 a1 = some (r1, r2)) :
  Calls Try.prog 56 #[.slice A0 l0.length c0, .int .i64 a1] w fun e w' => ∃ v0_ : Value, e = .returned (.tuple #[v0_, .bool r2]) ∧ Kd.R (Kd.int .i64) 3 w' w.heap.size (fun _ => True) v0_ r1 ∧ Below w.heap.size w w' := by
 have HR0 := aS_ hr0
 have HC0 := aS_ hc0
 clear hr0 hc0
 have HB := aS_ (Below.refl w.heap.size w)
 have H : (if 0 ≤ a1 then (if (a1 : Int).toNat ≤ 281474976710656 then (impl_drive.l0 k a1 (List.replicate (a1 : Int).toNat false) (([] : List Int)) l0 (l0.length : Int) 0) else (none)) else (none)) = some (r1, r2) := h
 clear h
 by_cases c3 : 0 ≤ a1
 ·rw [if_pos c3] at H
  have c3b0 := eq_true c3
  have c3b1 : decide (0 ≤ a1) = true := decide_eq_true c3
  clear c3
  by_cases c4 : (a1 : Int).toNat ≤ 281474976710656
  ·rw [if_pos c4] at H
   have c4b0 := eq_true c4
   have c4b1 : decide ((a1 : Int).toNat ≤ 281474976710656) = true := decide_eq_true c4
   clear c4
   obtain ⟨y286, hy286⟩ : ∃ y_ : List Bool, y_ = (List.replicate (a1 : Int).toNat false) := ⟨_, rfl⟩
   replace H : (impl_drive.l0 k a1 y286 (([] : List Int)) l0 (l0.length : Int) 0) = some (r1, r2) := by first | (rw [hy286]; with_reducible exact H) | (have H2_ := (Option.bind_some _ _).symm.trans H; rw [hy286]; with_reducible exact H2_) | (have H2_ := (Option.bind_some _ _).symm.trans H; with_reducible exact H2_) | with_reducible exact H | (rw [hy286]; exact H) | exact H
   have Ny286 := aS_ hy286
   clear hy286
   obtain ⟨y289, hy289⟩ : ∃ y_ : List Int, y_ = (([] : List Int)) := ⟨_, rfl⟩
   replace H : (impl_drive.l0 k a1 y286 y289 l0 (l0.length : Int) 0) = some (r1, r2) := by first | (rw [hy289]; with_reducible exact H) | (have H2_ := (Option.bind_some _ _).symm.trans H; rw [hy289]; with_reducible exact H2_) | (have H2_ := (Option.bind_some _ _).symm.trans H; with_reducible exact H2_) | with_reducible exact H | (rw [hy289]; exact H) | exact H
   have Ny289 := aS_ hy289
   clear hy289
   have H' := aS_ H
   clear H
   go_enter Try.func56, Try.ntmps56
   go_wp2_with (first | ((with_reducible refine gate_dst (N := 11) rfl ?_); refine Kd.R_make Kd.bool _ 4 rfl (N := 11) rfl 68 _ _ rfl a1 rfl rfl Try.underlying68 (.bool false) 1 info4 rfl (by decide) (by omega) false (ok := fun _ => True) (okp := fun _ => True) rfl (fun _ hk => hk) trivial (of_decide_eq_true (by assumption)) (Nat.le_trans (Nat.mul_le_mul_right _ (of_decide_eq_true (by assumption) : a1.toNat ≤ 281474976710656)) (by omega)) (Below.refl _ _) (Nat.le_refl _) ?_; intro v287 w5 ho6 hb hg_ hnew_; clear hg_ hnew_; (first | rw [← Ny286.out] at ho6 | (simp only [Int.reduceToNat] at ho6; rw [← Ny286.out] at ho6)); have n0_ := aS_ (Kd.R_lower ho6 (below_size (by repeat (first | (with_reducible first | exact HB.out | apply bA_ | apply pN_ | apply bD_) | exact HB.out)))); have n1_ := aS_ (below_step (by repeat (first | (with_reducible first | exact HB.out | apply bA_ | apply pN_ | apply bD_) | exact HB.out)) hb); clear HB; have HO288 := n0_; have HB := n1_; clear n0_ n1_; clear hb ho6) | ((with_reducible refine gate_dst (N := 12) rfl ?_); refine Kd.R_lit (Kd.int .i64) _ 3 ?hg (N := 12) ?hd (xs := ([] : List Int)) (inner := []) (ok := fun _ => True) (okp := fun _ => True) ?hr ?hp (fun _ hk => hk) trivial (Below.refl _ _) (Nat.le_refl _) (by simp) ?_; (case hd => rfl); (case hg => rfl); (case hr => first | (go_simp; done) | (go_simp; rfl)); (case hp => exact (Reps.none _ _)); intro v290 w7 ho8 hb hg_ hnew_; clear hg_ hnew_; (first | rw [← Ny289.out] at ho8 | (simp only [Int.reduceToNat] at ho8; rw [← Ny289.out] at ho8)); have n0_ := aS_ (Kd.R_below (by (with_reducible repeat (first | apply rA_ | apply rN_ | apply rD_)); exact HO288.out) hb); have n1_ := aS_ (Kd.R_lower ho8 (below_size (by repeat (first | (with_reducible first | exact HB.out | apply bA_ | apply pN_ | apply bD_) | exact HB.out)))); have n2_ := aS_ (below_step (by repeat (first | (with_reducible first | exact HB.out | apply bA_ | apply pN_ | apply bD_) | exact HB.out)) hb); clear HO288; clear HB; have HO288 := n0_; have HO291 := n1_; have HB := n2_; clear n0_ n1_ n2_; clear hb ho8))
   go_loopg [7, 15] k (fun kq v7 v15 w' => ∃ (x6_1 : List Bool) (x7_1 : List Int) (x15_1 : Int), v15 = .int .i64 x15_1 ∧ Aside0 (impl_drive.l0 kq a1 x6_1 x7_1 l0 (l0.length : Int) x15_1 = some (r1, r2)) ∧ Aside0 (kq ≤ k) ∧ Aside0 (Kd.R Kd.bool 4 w' w.heap.size (fun _ => True) v287 x6_1) ∧ Aside0 (Kd.R (Kd.int .i64) 3 w' w.heap.size (fun _ => True) v7 x7_1) ∧ Aside0 (Below w.heap.size w w'))
   case atStart => exact ⟨(y286), (y289), (0), (by first | rfl | (simp; done) | (simp [*]; done)), H', ⟨Nat.le_refl _⟩, ⟨by (with_reducible repeat (first | apply rA_ | apply rN_ | apply rD_)); exact HO288.out⟩, ⟨by (with_reducible repeat (first | apply rA_ | apply rN_ | apply rD_)); exact HO291.out⟩, ⟨by repeat (first | (with_reducible first | exact HB.out | apply bA_ | apply pN_ | apply bD_) | exact HB.out)⟩⟩
   case round =>
    clear H'
    try clear p2
    try clear c3
    try clear c3b0
    try clear c3b1
    try clear c4
    try clear c4b0
    try clear c4b1
    try clear c5
    obtain ⟨x6_1, x7_1, x15_1, rfl, HA, HK1, HO_6, HO_7, HB⟩ := hrel
    cases gk with
    | zero => exact absurd HA.out (by simp [impl_drive.l0])
    | succ k1 =>
     have H := HA.out
     clear HA
     simp only [impl_drive.l0] at H
     by_cases c9 : x15_1 < (l0.length : Int)
     ·rw [if_pos c9] at H
      have c9b0 : decide (x15_1 < (l0.length : Int)) = true := decide_eq_true c9
      clear c9
      by_cases c10 : 0 ≤ x15_1
      ·rw [if_pos c10] at H
       have c10b0 : decide (0 ≤ x15_1) = true := decide_eq_true c10
       clear c10
       by_cases c11 : x15_1 < (l0.length : Int)
       ·rw [if_pos c11] at H
        have c11b0 : decide (x15_1 < (l0.length : Int)) = true := decide_eq_true c11
        clear c11
        have H' := aS_ H
        clear H
        have p292 : 0 ≤ (x15_1 : Int) := of_decide_eq_true (by assumption)
        have q292 : x15_1 < (l0.length : Int) := of_decide_eq_true (by assumption)
        obtain ⟨ad292, e292, hx292_0⟩ := Kd.at_int HR0.out x15_1 p292 q292
        cases e292
        replace hx292_0 := (HB.out.cell (World.block_lt_of_cell? w _ hx292_0)).trans hx292_0
        replace p292 := eq_true p292
        replace q292 := eq_true q292
        go_wp2
        go_loopg [9] k1 (fun kq v9 w' => ∃ (x9_2 : Int), v9 = .int .i64 x9_2 ∧ Aside0 (impl_drive.l1 kq a1 x6_1 x7_1 x9_2 l0 (l0.length : Int) x15_1 = some (r1, r2)) ∧ Aside0 (kq ≤ k1) ∧ Aside0 (Kd.R Kd.bool 4 w' w.heap.size (fun _ => True) v287 x6_1) ∧ Aside0 (Kd.R (Kd.int .i64) 3 w' w.heap.size (fun _ => True) u7 x7_1) ∧ Aside0 (Below w.heap.size w w'))
        case atStart => exact ⟨(rd l0 x15_1), (by first | rfl | (simp; done) | (simp [*]; done)), H', ⟨Nat.le_refl _⟩, ⟨by (with_reducible repeat (first | apply rA_ | apply rN_ | apply rD_)); exact HO_6.out⟩, ⟨by (with_reducible repeat (first | apply rA_ | apply rN_ | apply rD_)); exact HO_7.out⟩, ⟨by repeat (first | (with_reducible first | exact HB.out | apply bA_ | apply pN_ | apply bD_) | exact HB.out)⟩⟩
        case round =>
         clear H'
         try clear c1
         try clear p2
         try clear q2
         try clear hx2
         try clear c3
         try clear c3b0
         try clear c3b1
         try clear c4
         try clear c4b0
         try clear c4b1
         try clear c5
         try clear c9
         try clear c9b0
         try clear c10
         try clear c10b0
         try clear c11
         try clear c11b0
         try clear hx292_0
         try clear p2
         try clear p292
         try clear q292
         obtain ⟨x9_2, rfl, HA, HK2, HO_6, HO_7, HB⟩ := hrel
         cases gk with
         | zero => exact absurd HA.out (by simp [impl_drive.l1])
         | succ k2 =>
          have H := HA.out
          clear HA
          simp only [impl_drive.l1] at H
          by_cases c12 : x9_2 < a1
          ·rw [if_pos c12] at H
           have c12b0 : decide (x9_2 < a1) = true := decide_eq_true c12
           clear c12
           by_cases c13 : 0 ≤ x9_2
           ·rw [if_pos c13] at H
            have c13b0 : decide (0 ≤ x9_2) = true := decide_eq_true c13
            clear c13
            by_cases c14 : x9_2 < (x6_1.length : Int)
            ·rw [if_pos c14] at H
             have c14b0 : decide (x9_2 < (x6_1.length : Int)) = true := decide_eq_true c14
             clear c14
             obtain ⟨bq15, hbq15⟩ : ∃ b_ : Bool, b_ = (rdOf false x6_1 x9_2) := ⟨_, rfl⟩
             replace H : (if bq15 = true then (impl_drive.l1 k2 a1 x6_1 x7_1 (wrap64 (x9_2 + 1)) l0 (l0.length : Int) x15_1) else (if x9_2 ≥ a1 then (some (([] : List Int), false)) else (if x7_1.length < 17592186044416 then (impl_drive.l0 k2 a1 (x6_1.set (x9_2 : Int).toNat true) (x7_1 ++ [x9_2]) l0 (l0.length : Int) (wrap64 (x15_1 + 1))) else (none)))) = some (r1, r2) := by rw [← hbq15] at H; exact H
             have Nbq15 := aS_ hbq15
             clear hbq15
             by_cases c16 : bq15 = true
             ·subst c16
              rw [if_pos rfl] at H
              have H' := aS_ H
              clear H
              obtain ⟨Ao17, co17, eo17⟩ := Kd.R_slice HO_6.out
              subst eo17
              have p293 : 0 ≤ (x9_2 : Int) := of_decide_eq_true (by assumption)
              have q293 : x9_2 < (x6_1.length : Int) := of_decide_eq_true (by assumption)
              obtain ⟨ad293, e293, hx293_0⟩ := Kd.at_bool (Kd.R_reads' HO_6.out).2.2 x9_2 p293 q293
              (try rw [← Nbq15.out] at hx293_0)
              cases e293
              replace p293 := eq_true p293
              replace q293 := eq_true q293
              go_wp2
              go_roundg k2
              case measure => have := HK1.out; have := HK2.out; omega
              case rel => exact ⟨(wrap64 (x9_2 + 1)), (by first | rfl | (simp; done) | (simp [*]; done)), H', ⟨by have := HK1.out; have := HK2.out; omega⟩, ⟨by (with_reducible repeat (first | apply rA_ | apply rN_ | apply rD_)); exact HO_6.out⟩, ⟨by (with_reducible repeat (first | apply rA_ | apply rN_ | apply rD_)); exact HO_7.out⟩, ⟨by repeat (first | (with_reducible first | exact HB.out | apply bA_ | apply pN_ | apply bD_) | exact HB.out)⟩⟩
             ·replace c16 := Bool.eq_false_iff.mpr c16
              subst c16
              rw [if_neg (show ¬ (false = true) by decide)] at H
              by_cases c18 : x9_2 ≥ a1
              ·rw [if_pos c18] at H
               have c18b0 : decide (a1 ≤ x9_2) = true := decide_eq_true c18
               clear c18
               simp only [Option.some.injEq, Prod.mk.injEq] at H
               obtain ⟨rfl, rfl⟩ := H
               obtain ⟨Ao19, co19, eo19⟩ := Kd.R_slice HO_6.out
               subst eo19
               have p293 : 0 ≤ (x9_2 : Int) := of_decide_eq_true (by assumption)
               have q293 : x9_2 < (x6_1.length : Int) := of_decide_eq_true (by assumption)
               obtain ⟨ad293, e293, hx293_0⟩ := Kd.at_bool (Kd.R_reads' HO_6.out).2.2 x9_2 p293 q293
               (try rw [← Nbq15.out] at hx293_0)
               cases e293
               replace p293 := eq_true p293
               replace q293 := eq_true q293
               go_wp2
               go_ret2
               exact ⟨_, by first | rfl | (simp [errW_none, errW_some] <;> rfl) | (simp [*, errW_none, errW_some] <;> rfl), by first | exact Kd.R_nil _ _ _ _ _ | exact Kd.N_nil _ _ _ _ _ | exact Kd.V_nil _ _ _ _ _ | exact Kd.Q_nil _ _ _ _ _ | exact Kd.S_nil _ _ _ _ _, by repeat (first | (with_reducible first | exact HB.out | apply bA_ | apply pN_ | apply bD_) | exact HB.out)⟩
              ·rw [if_neg c18] at H
               have c18b0 : decide (a1 ≤ x9_2) = false := decide_eq_false c18
               clear c18
               obtain ⟨y294, hy294⟩ : ∃ y_ : List Bool, y_ = (x6_1.set (x9_2 : Int).toNat true) := ⟨_, rfl⟩
               replace H : (if x7_1.length < 17592186044416 then (impl_drive.l0 k2 a1 y294 (x7_1 ++ [x9_2]) l0 (l0.length : Int) (wrap64 (x15_1 + 1))) else (none)) = some (r1, r2) := by first | (rw [hy294]; with_reducible exact H) | (have H2_ := (Option.bind_some _ _).symm.trans H; rw [hy294]; with_reducible exact H2_) | (have H2_ := (Option.bind_some _ _).symm.trans H; with_reducible exact H2_) | with_reducible exact H | (rw [hy294]; exact H) | exact H
               have Ny294 := aS_ hy294
               clear hy294
               by_cases c21 : x7_1.length < 17592186044416
               ·rw [if_pos c21] at H
                have LMc21 := aS_ c21
                clear c21
                obtain ⟨y295, hy295⟩ : ∃ y_ : List Int, y_ = (x7_1 ++ [x9_2]) := ⟨_, rfl⟩
                replace H : (impl_drive.l0 k2 a1 y294 y295 l0 (l0.length : Int) (wrap64 (x15_1 + 1))) = some (r1, r2) := by first | (rw [hy295]; with_reducible exact H) | (have H2_ := (Option.bind_some _ _).symm.trans H; rw [hy295]; with_reducible exact H2_) | (have H2_ := (Option.bind_some _ _).symm.trans H; with_reducible exact H2_) | with_reducible exact H | (rw [hy295]; exact H) | exact H
                have Ny295 := aS_ hy295
                clear hy295
                have H' := aS_ H
                clear H
                obtain ⟨Ao22, co22, eo22⟩ := Kd.R_slice HO_6.out
                subst eo22
                have p293 : 0 ≤ (x9_2 : Int) := of_decide_eq_true (by assumption)
                have q293 : x9_2 < (x6_1.length : Int) := of_decide_eq_true (by assumption)
                obtain ⟨ad293, e293, hx293_0⟩ := Kd.at_bool (Kd.R_reads' HO_6.out).2.2 x9_2 p293 q293
                (try rw [← Nbq15.out] at hx293_0)
                cases e293
                replace p293 := eq_true p293
                replace q293 := eq_true q293
                have p20 : 0 ≤ (x9_2 : Int) := of_decide_eq_true (by assumption)
                have q20 : (x9_2 : Int) < ((x6_1.length : Int) : Int) := of_decide_eq_true (by assumption)
                obtain ⟨go20, co20, eo20, gb20, gl20, cl20, HG20⟩ := Kd.R_form HO_6.out (by omega)
                (first | cases eo20 | (injection eo20 with ea_ en_ ec_; (first | subst ea_ | (injection ea_ with ea_; subst ea_)); subst ec_; clear en_))
                have GB20 := aS_ gb20
                have GG20 := aS_ HG20
                clear gb20 gl20 HG20
                (first | simp only [add_plain] at hx293_0 | skip)
                obtain ⟨hx20_0, hf20_0⟩ := Kd.R_celln false HO_6.out (x9_2 : Int) p20 q20
                replace p20 := eq_true p20
                replace q20 := eq_true q20
                have HP23 := Kd.R_putg HO_6.out (x9_2 : Int) true
                go_wp2_with (first | ((with_reducible refine gate_store (t := 4) (p := 35) rfl ?_); refine store_event (t := 4) (p := 35) (v := ?vo_w24) (w1 := (wr.setCell ⟨go20, (x9_2 : Int).toNat, none⟩ (.bool true))) ?hg ?ho ?hn ?hr ?_; (case ho => rfl); (case hg => rfl); (case hn => rfl); (case hr => first | (go_simp; done) | (go_simp; rfl)); intro w24 hw; have hg : wr.grownBy w24 (some go20) := (by rw [hw]; exact HP23.2); have hp_ : Kd.R Kd.bool 4 w24 w.heap.size (fun _ => True) (.slice (some ⟨go20, 0, none⟩) x6_1.length co22) y294 := (by rw [hw, Ny294.out]; exact HP23.1); clear HP23; have n0_ := aS_ (hp_); have n1_ := aS_ (Kd.R_over' (v := (.slice (some ⟨go20, 0, none⟩) x6_1.length co22)) (by (with_reducible repeat (first | apply rA_ | apply rN_ | apply rD_)); exact HO_7.out) (Kd.R_typed HO_6.out) (by decide) hg); have n2_ := aS_ ((by rw [hw]; exact bS_ (HB.out) GB20.out : Below w.heap.size w w24)); clear HO_6; clear HO_7; clear HB; have HO_6 := n0_; have HO_7 := n1_; have HB := n2_; clear n0_ n1_ n2_; clear hg hw hp_) | ((with_reducible refine gate_builtin (b := .append) (xs := #[.tmp 36, .tmp 38]) rfl ?_); at_builtin; refine Kd.R_append (Kd.int .i64) (w0 := w) w.heap.size rfl (.tmp 36) (.tmp 38) 22 3 (.int .i64 0) 8 rfl Try.underlying22 info3 rfl (by decide) (by omega) u7 x7_1 x9_2 [.int .i64 x9_2] (fun _ => True) (fun _ => False) rfl rfl ?aP (fun _ hk => hk.elim) ?aF ?aO ?aB ?aS ?aL ?_; (case aP => exact rfl); (case aB => exact (by repeat (first | (with_reducible first | exact HB.out | apply bA_ | apply pN_ | apply bD_) | exact HB.out))); (case aF => exact (fun _ _ => trivial)); (case aO => exact (by (with_reducible repeat (first | apply rA_ | apply rN_ | apply rD_)); exact HO_7.out)); (case aS => exact (below_size (by repeat (first | (with_reducible first | exact HB.out | apply bA_ | apply pN_ | apply bD_) | exact HB.out)))); (case aL => have := LMc21.out; omega); intro v296 w25 ho hb hg hat; rw [← Ny295.out] at ho; have n0_ := aS_ (Kd.R_over' (by (with_reducible repeat (first | apply rA_ | apply rN_ | apply rD_)); exact HO_6.out) (Kd.R_typed (by (with_reducible repeat (first | apply rA_ | apply rN_ | apply rD_)); exact HO_7.out)) (by decide) hg); have n1_ := aS_ (hb); have n2_ := aS_ (ho); clear HO_6; clear HB; clear HO_7; have HO_6 := n0_; have HB := n1_; have HO297 := n2_; clear n0_ n1_ n2_; clear ho hb hg hat))
                go_roundg k2
                case measure => have := HK1.out; have := HK2.out; omega
                case rel => exact ⟨(y294), (y295), (wrap64 (x15_1 + 1)), (by first | rfl | (simp; done) | (simp [*]; done)), H', ⟨by have := HK1.out; have := HK2.out; omega⟩, ⟨by (with_reducible repeat (first | apply rA_ | apply rN_ | apply rD_)); exact HO_6.out⟩, ⟨by (with_reducible repeat (first | apply rA_ | apply rN_ | apply rD_)); exact HO297.out⟩, ⟨by repeat (first | (with_reducible first | exact HB.out | apply bA_ | apply pN_ | apply bD_) | exact HB.out)⟩⟩
               ·rw [if_neg c21] at H
                exact absurd H (by simp)
            ·rw [if_neg c14] at H
             exact absurd H (by simp)
           ·rw [if_neg c13] at H
            exact absurd H (by simp)
          ·rw [if_neg c12] at H
           have c12b0 : decide (x9_2 < a1) = false := decide_eq_false c12
           clear c12
           by_cases c26 : x9_2 ≥ a1
           ·rw [if_pos c26] at H
            have c26b0 : decide (a1 ≤ x9_2) = true := decide_eq_true c26
            clear c26
            simp only [Option.some.injEq, Prod.mk.injEq] at H
            obtain ⟨rfl, rfl⟩ := H
            go_wp2
            go_ret2
            exact ⟨_, by first | rfl | (simp [errW_none, errW_some] <;> rfl) | (simp [*, errW_none, errW_some] <;> rfl), by first | exact Kd.R_nil _ _ _ _ _ | exact Kd.N_nil _ _ _ _ _ | exact Kd.V_nil _ _ _ _ _ | exact Kd.Q_nil _ _ _ _ _ | exact Kd.S_nil _ _ _ _ _, by repeat (first | (with_reducible first | exact HB.out | apply bA_ | apply pN_ | apply bD_) | exact HB.out)⟩
           ·rw [if_neg c26] at H
            have c26b0 : decide (a1 ≤ x9_2) = false := decide_eq_false c26
            clear c26
            by_cases c27 : 0 ≤ x9_2
            ·rw [if_pos c27] at H
             have c27b0 : decide (0 ≤ x9_2) = true := decide_eq_true c27
             clear c27
             by_cases c28 : x9_2 < (x6_1.length : Int)
             ·rw [if_pos c28] at H
              have c28b0 : decide (x9_2 < (x6_1.length : Int)) = true := decide_eq_true c28
              clear c28
              obtain ⟨y298, hy298⟩ : ∃ y_ : List Bool, y_ = (x6_1.set (x9_2 : Int).toNat true) := ⟨_, rfl⟩
              replace H : (if x7_1.length < 17592186044416 then (impl_drive.l0 k2 a1 y298 (x7_1 ++ [x9_2]) l0 (l0.length : Int) (wrap64 (x15_1 + 1))) else (none)) = some (r1, r2) := by first | (rw [hy298]; with_reducible exact H) | (have H2_ := (Option.bind_some _ _).symm.trans H; rw [hy298]; with_reducible exact H2_) | (have H2_ := (Option.bind_some _ _).symm.trans H; with_reducible exact H2_) | with_reducible exact H | (rw [hy298]; exact H) | exact H
              have Ny298 := aS_ hy298
              clear hy298
              by_cases c30 : x7_1.length < 17592186044416
              ·rw [if_pos c30] at H
               have LMc30 := aS_ c30
               clear c30
               obtain ⟨y299, hy299⟩ : ∃ y_ : List Int, y_ = (x7_1 ++ [x9_2]) := ⟨_, rfl⟩
               replace H : (impl_drive.l0 k2 a1 y298 y299 l0 (l0.length : Int) (wrap64 (x15_1 + 1))) = some (r1, r2) := by first | (rw [hy299]; with_reducible exact H) | (have H2_ := (Option.bind_some _ _).symm.trans H; rw [hy299]; with_reducible exact H2_) | (have H2_ := (Option.bind_some _ _).symm.trans H; with_reducible exact H2_) | with_reducible exact H | (rw [hy299]; exact H) | exact H
               have Ny299 := aS_ hy299
               clear hy299
               have H' := aS_ H
               clear H
               have p29 : 0 ≤ (x9_2 : Int) := of_decide_eq_true (by assumption)
               have q29 : (x9_2 : Int) < ((x6_1.length : Int) : Int) := of_decide_eq_true (by assumption)
               obtain ⟨go29, co29, eo29, gb29, gl29, cl29, HG29⟩ := Kd.R_form HO_6.out (by omega)
               (first | cases eo29 | (injection eo29 with ea_ en_ ec_; (first | subst ea_ | (injection ea_ with ea_; subst ea_)); subst ec_; clear en_))
               have GB29 := aS_ gb29
               have GG29 := aS_ HG29
               clear gb29 gl29 HG29
               obtain ⟨hx29_0, hf29_0⟩ := Kd.R_celln false HO_6.out (x9_2 : Int) p29 q29
               replace p29 := eq_true p29
               replace q29 := eq_true q29
               have HP31 := Kd.R_putg HO_6.out (x9_2 : Int) true
               go_wp2_with (first | ((with_reducible refine gate_store (t := 4) (p := 35) rfl ?_); refine store_event (t := 4) (p := 35) (v := ?vo_w32) (w1 := (wr.setCell ⟨go29, (x9_2 : Int).toNat, none⟩ (.bool true))) ?hg ?ho ?hn ?hr ?_; (case ho => rfl); (case hg => rfl); (case hn => rfl); (case hr => first | (go_simp; done) | (go_simp; rfl)); intro w32 hw; have hg : wr.grownBy w32 (some go29) := (by rw [hw]; exact HP31.2); have hp_ : Kd.R Kd.bool 4 w32 w.heap.size (fun _ => True) (.slice (some ⟨go29, 0, none⟩) x6_1.length co29) y298 := (by rw [hw, Ny298.out]; exact HP31.1); clear HP31; have n0_ := aS_ (hp_); have n1_ := aS_ (Kd.R_over' (v := (.slice (some ⟨go29, 0, none⟩) x6_1.length co29)) (by (with_reducible repeat (first | apply rA_ | apply rN_ | apply rD_)); exact HO_7.out) (Kd.R_typed HO_6.out) (by decide) hg); have n2_ := aS_ ((by rw [hw]; exact bS_ (HB.out) GB29.out : Below w.heap.size w w32)); clear HO_6; clear HO_7; clear HB; have HO_6 := n0_; have HO_7 := n1_; have HB := n2_; clear n0_ n1_ n2_; clear hg hw hp_) | ((with_reducible refine gate_builtin (b := .append) (xs := #[.tmp 36, .tmp 38]) rfl ?_); at_builtin; refine Kd.R_append (Kd.int .i64) (w0 := w) w.heap.size rfl (.tmp 36) (.tmp 38) 22 3 (.int .i64 0) 8 rfl Try.underlying22 info3 rfl (by decide) (by omega) u7 x7_1 x9_2 [.int .i64 x9_2] (fun _ => True) (fun _ => False) rfl rfl ?aP (fun _ hk => hk.elim) ?aF ?aO ?aB ?aS ?aL ?_; (case aP => exact rfl); (case aB => exact (by repeat (first | (with_reducible first | exact HB.out | apply bA_ | apply pN_ | apply bD_) | exact HB.out))); (case aF => exact (fun _ _ => trivial)); (case aO => exact (by (with_reducible repeat (first | apply rA_ | apply rN_ | apply rD_)); exact HO_7.out)); (case aS => exact (below_size (by repeat (first | (with_reducible first | exact HB.out | apply bA_ | apply pN_ | apply bD_) | exact HB.out)))); (case aL => have := LMc30.out; omega); intro v300 w33 ho hb hg hat; rw [← Ny299.out] at ho; have n0_ := aS_ (Kd.R_over' (by (with_reducible repeat (first | apply rA_ | apply rN_ | apply rD_)); exact HO_6.out) (Kd.R_typed (by (with_reducible repeat (first | apply rA_ | apply rN_ | apply rD_)); exact HO_7.out)) (by decide) hg); have n1_ := aS_ (hb); have n2_ := aS_ (ho); clear HO_6; clear HB; clear HO_7; have HO_6 := n0_; have HB := n1_; have HO301 := n2_; clear n0_ n1_ n2_; clear ho hb hg hat))
               go_roundg k2
               case measure => have := HK1.out; have := HK2.out; omega
               case rel => exact ⟨(y298), (y299), (wrap64 (x15_1 + 1)), (by first | rfl | (simp; done) | (simp [*]; done)), H', ⟨by have := HK1.out; have := HK2.out; omega⟩, ⟨by (with_reducible repeat (first | apply rA_ | apply rN_ | apply rD_)); exact HO_6.out⟩, ⟨by (with_reducible repeat (first | apply rA_ | apply rN_ | apply rD_)); exact HO301.out⟩, ⟨by repeat (first | (with_reducible first | exact HB.out | apply bA_ | apply pN_ | apply bD_) | exact HB.out)⟩⟩
              ·rw [if_neg c30] at H
               exact absurd H (by simp)
             ·rw [if_neg c28] at H
              exact absurd H (by simp)
            ·rw [if_neg c27] at H
             exact absurd H (by simp)
       ·rw [if_neg c11] at H
        exact absurd H (by simp)
      ·rw [if_neg c10] at H
       exact absurd H (by simp)
     ·rw [if_neg c9] at H
      have c9b0 : decide (x15_1 < (l0.length : Int)) = false := decide_eq_false c9
      clear c9
      simp only [Option.some.injEq, Prod.mk.injEq] at H
      obtain ⟨rfl, rfl⟩ := H
      go_wp2
      go_ret2
      exact ⟨_, by first | rfl | (simp [errW_none, errW_some] <;> rfl) | (simp [*, errW_none, errW_some] <;> rfl), by (with_reducible repeat (first | apply rA_ | apply rN_ | apply rD_)); exact HO_7.out, by repeat (first | (with_reducible first | exact HB.out | apply bA_ | apply pN_ | apply bD_) | exact HB.out)⟩
  ·rw [if_neg c4] at H
   exact absurd H (by simp)
 ·rw [if_neg c3] at H
  exact absurd H (by simp)
/-! ### impl_isParking: function 35 -/
def impl_isParking.f (k : Nat) (l0 : List Int) : Option (Bool) := (impl_areCars.f l0).bind fun t302 => (if t302 = true then ((impl_drive.f k l0 (l0.length : Int)).bind fun bt303 => (some bt303.2)) else (some false))
theorem impl_isParking.mono : ∀ a0 k, LeO (impl_isParking.f k a0) (impl_isParking.f (k + 1) a0) := by
 intro a0 k
 unfold impl_isParking.f
 repeat' first
   | (with_reducible exact impl_drive.mono _ _ _)
   | (with_reducible exact LeO.refl _)
   | (with_reducible exact LeO.none _)
   | (with_reducible refine LeO.ite ?_ ?_)
   | (with_reducible refine LeO.bind ?_ (fun _ => ?_))
   | exact impl_drive.mono _ _ _
   | exact LeO.none _
   | refine LeO.ite ?_ ?_
   | refine LeO.bind ?_ (fun _ => ?_)
set_option maxHeartbeats 8000000 in
set_option maxRecDepth 100000 in
theorem impl_isParking.calls (k : Nat) (A0 : Option Addr) (c0 : Nat) (l0 : List Int) (r : Bool) (w : World) (hr0 : Kd.C (Kd.int .i64) w A0 l0.length l0) (hc0 : l0.length ≤ c0) (h : impl_isParking.f k l0 = some r) :
  Calls Try.prog 35 #[.slice A0 l0.length c0] w fun e w' => e = .returned (.bool r) ∧ Below w.heap.size w w' := by
 have HR0 := aS_ hr0
 have HC0 := aS_ hc0
 clear hr0 hc0
 have HB := aS_ (Below.refl w.heap.size w)
 have H : ((impl_areCars.f l0).bind fun t302 => (if t302 = true then ((impl_drive.f k l0 (l0.length : Int)).bind fun bt303 => (some bt303.2)) else (some false))) = some r := h
 clear h
 replace H := Option.bind_eq_some_iff.mp H
 obtain ⟨t302, A20, H⟩ := H
 have A2 := aS_ A20
 clear A20
 by_cases c3 : t302 = true
 ·subst c3
  rw [if_pos rfl] at H
  replace H := Option.bind_eq_some_iff.mp H
  obtain ⟨⟨t303, t304⟩, A40, H⟩ := H
  have A4 := aS_ A40
  clear A40
  obtain rfl := Option.some.inj H
  go_enter Try.func35, Try.ntmps35
  go_wp2_with (first | ((with_reducible refine gate_callee (f := 55) rfl ?_); refine goesL_ (some 6) rfl rfl Try.func55 (by kernel_rfl) rfl #[.slice A0 l0.length c0] rfl (by (try simp only [List.map_toArray, List.map_cons, List.map_nil]); first | done | rfl | (simp only [List.length_drop, List.length_take]; rfl)) ?_; (with_reducible refine (impl_areCars.calls _ _ l0 true _ ?side1 ?side2 A2.out).mono ?_); (case side1 => repeat (first | exact HR0.out | (with_reducible refine Kd.C_alloc ?_ _) | (with_reducible refine Kd.C_drewN ?_ _) | (with_reducible refine Kd.C_drew ?_))); (case side2 => exact HC0.out); rintro e w5 ⟨rfl, hb⟩; refine ⟨_, rfl, ?_⟩; have n0_ := aS_ (below_step (by repeat (first | (with_reducible first | exact HB.out | apply bA_ | apply pN_ | apply bD_) | exact HB.out)) hb); clear HB; have HB := n0_; clear n0_; (try clear hb); (try clear hb2); (try clear hk); (try clear hi)) | ((with_reducible refine gate_callee (f := 56) rfl ?_); refine goesL_ (some 12) rfl rfl Try.func56 (by kernel_rfl) rfl #[.slice A0 l0.length c0, .int .i64 (l0.length : Int)] rfl (by (try simp only [List.map_toArray, List.map_cons, List.map_nil]); first | done | rfl | (simp only [List.length_drop, List.length_take]; rfl)) ?_; (with_reducible refine (impl_drive.calls k _ _ l0 (l0.length : Int) t303 t304 _ ?side1 ?side2 A4.out).mono ?_); (case side1 => repeat (first | exact (Kd.C_below HR0.out HB.out) | (with_reducible refine Kd.C_alloc ?_ _) | (with_reducible refine Kd.C_drewN ?_ _) | (with_reducible refine Kd.C_drew ?_))); (case side2 => exact HC0.out); rintro e w6 ⟨v305, rfl, ho0, hb⟩; refine ⟨_, rfl, ?_⟩; have n0_ := aS_ (Kd.R_lower ho0 (below_size (by repeat (first | (with_reducible first | exact HB.out | apply bA_ | apply pN_ | apply bD_) | exact HB.out)))); have n1_ := aS_ (below_step (by repeat (first | (with_reducible first | exact HB.out | apply bA_ | apply pN_ | apply bD_) | exact HB.out)) hb); clear HB; have HO306 := n0_; have HB := n1_; clear n0_ n1_; (try clear hb); (try clear hb2); (try clear hk); (try clear hi); (try clear ho0)))
  go_ret
  exact ⟨by first | rfl | (simp [errW_none, errW_some] <;> rfl) | (simp [*, errW_none, errW_some] <;> rfl), by repeat (first | (with_reducible first | exact HB.out | apply bA_ | apply pN_ | apply bD_) | exact HB.out)⟩
 ·replace c3 := Bool.eq_false_iff.mpr c3
  subst c3
  rw [if_neg (show ¬ (false = true) by decide)] at H
  obtain rfl := Option.some.inj H
  go_enter Try.func35, Try.ntmps35
  go_wp2_with (first | ((with_reducible refine gate_callee (f := 55) rfl ?_); refine goesL_ (some 6) rfl rfl Try.func55 (by kernel_rfl) rfl #[.slice A0 l0.length c0] rfl (by (try simp only [List.map_toArray, List.map_cons, List.map_nil]); first | done | rfl | (simp only [List.length_drop, List.length_take]; rfl)) ?_; (with_reducible refine (impl_areCars.calls _ _ l0 false _ ?side1 ?side2 A2.out).mono ?_); (case side1 => repeat (first | exact HR0.out | (with_reducible refine Kd.C_alloc ?_ _) | (with_reducible refine Kd.C_drewN ?_ _) | (with_reducible refine Kd.C_drew ?_))); (case side2 => exact HC0.out); rintro e w7 ⟨rfl, hb⟩; refine ⟨_, rfl, ?_⟩; have n0_ := aS_ (below_step (by repeat (first | (with_reducible first | exact HB.out | apply bA_ | apply pN_ | apply bD_) | exact HB.out)) hb); clear HB; have HB := n0_; clear n0_; (try clear hb); (try clear hb2); (try clear hk); (try clear hi)))
  go_ret
  exact ⟨by first | rfl | (simp [errW_none, errW_some] <;> rfl) | (simp [*, errW_none, errW_some] <;> rfl), by repeat (first | (with_reducible first | exact HB.out | apply bA_ | apply pN_ | apply bD_) | exact HB.out)⟩
/-! ### impl_RegionOfLabel: function 15 -/
def impl_RegionOfLabel.f (k : Nat) (l0 : List Int) : Option (List Int × List Int × Bool) := (impl_isParking.f k l0).bind fun t308 => (if t308 = true then ((impl_regionOf.f k l0 ([] : List Int) ([] : List Int)).bind fun bt309 => (some (bt309.1, bt309.2.1, bt309.2.2))) else (some (([] : List Int), ([] : List Int), false)))
theorem impl_RegionOfLabel.mono : ∀ a0 k, LeO (impl_RegionOfLabel.f k a0) (impl_RegionOfLabel.f (k + 1) a0) := by
 intro a0 k
 unfold impl_RegionOfLabel.f
 repeat' first
   | (with_reducible exact impl_isParking.mono _ _)
   | (with_reducible exact impl_regionOf.mono _ _ _ _)
   | (with_reducible exact LeO.refl _)
   | (with_reducible exact LeO.none _)
   | (with_reducible refine LeO.ite ?_ ?_)
   | (with_reducible refine LeO.bind ?_ (fun _ => ?_))
   | exact impl_isParking.mono _ _
   | exact impl_regionOf.mono _ _ _ _
   | exact LeO.none _
   | refine LeO.ite ?_ ?_
   | refine LeO.bind ?_ (fun _ => ?_)
set_option maxHeartbeats 8000000 in
set_option maxRecDepth 100000 in
theorem impl_RegionOfLabel.calls (k : Nat) (A0 : Option Addr) (c0 : Nat) (l0 : List Int) (r1 : List Int) (r2 : List Int) (r3 : Bool) (w : World) (hr0 : Kd.C (Kd.int .i64) w A0 l0.length l0) (hc0 : l0.length ≤ c0) (h : impl_RegionOfLabel.f k l0 = some (r1, r2, r3)) :
  Calls Try.prog 15 #[.slice A0 l0.length c0] w fun e w' => ∃ v0_ v1_ : Value, e = .returned (.tuple #[.agg #[v0_, v1_], .bool r3]) ∧ Kd.R (Kd.int .i64) 3 w' w.heap.size (fun k_ => some k_ ≠ (v1_ : Value).ownBlock) v0_ r1 ∧ Kd.R (Kd.int .i64) 3 w' w.heap.size (fun k_ => some k_ ≠ (v0_ : Value).ownBlock) v1_ r2 ∧ Below w.heap.size w w' := by
 have hu24 := Try.underlying24
 have HR0 := aS_ hr0
 have HC0 := aS_ hc0
 clear hr0 hc0
 have HB := aS_ (Below.refl w.heap.size w)
 have H : ((impl_isParking.f k l0).bind fun t308 => (if t308 = true then ((impl_regionOf.f k l0 ([] : List Int) ([] : List Int)).bind fun bt309 => (some (bt309.1, bt309.2.1, bt309.2.2))) else (some (([] : List Int), ([] : List Int), false)))) = some (r1, r2, r3) := h
 clear h
 replace H := Option.bind_eq_some_iff.mp H
 obtain ⟨t308, A20, H⟩ := H
 have A2 := aS_ A20
 clear A20
 by_cases c3 : t308 = true
 ·subst c3
  rw [if_pos rfl] at H
  replace H := Option.bind_eq_some_iff.mp H
  obtain ⟨⟨t309, t312, t315⟩, A40, H⟩ := H
  have A4 := aS_ A40
  clear A40
  simp only [Option.some.injEq, Prod.mk.injEq] at H
  obtain ⟨rfl, rfl, rfl⟩ := H
  go_enter Try.func15, Try.ntmps15
  go_wp2_with (first | ((with_reducible refine gate_dst (N := 2) rfl ?_); refine box_event ?hg (N := 2) ?hd (cs := #[.slice none 0 0, .slice none 0 0]) (t := 24) ?hr ?_; (case hd => rfl); (case hg => rfl); (case hr => first | (go_simp; done) | (go_simp; rfl)); intro gb307 hg w5 hbox hb; have n0_ := aS_ (below_step (by repeat (first | (with_reducible first | exact HB.out | apply bA_ | apply pN_ | apply bD_) | exact HB.out)) hb); have n1_ := aS_ (hbox); have n2_ := aS_ ((by rw [hg]; exact (below_size (by repeat (first | (with_reducible first | exact HB.out | apply bA_ | apply pN_ | apply bD_) | exact HB.out))) : w.heap.size ≤ gb307)); have n3_ := aS_ ((by rw [hg]; exact (below_size (by repeat (first | (with_reducible first | exact HB.out | apply bA_ | apply pN_ | apply bD_) | exact HB.out))) : w.heap.size ≤ gb307)); clear HB; have HB := n0_; have BK307 := n1_; have GW307 := n2_; have GE307 := n3_; clear n0_ n1_ n2_ n3_; clear hb hbox hg) | ((with_reducible refine gate_callee (f := 35) rfl ?_); refine goesL_ (some 5) rfl rfl Try.func35 (by kernel_rfl) rfl #[.slice A0 l0.length c0] rfl (by (try simp only [List.map_toArray, List.map_cons, List.map_nil]); first | done | rfl | (simp only [List.length_drop, List.length_take]; rfl)) ?_; (with_reducible refine (impl_isParking.calls k _ _ l0 true _ ?side1 ?side2 A2.out).mono ?_); (case side1 => repeat (first | exact (Kd.C_below HR0.out HB.out) | (with_reducible refine Kd.C_alloc ?_ _) | (with_reducible refine Kd.C_drewN ?_ _) | (with_reducible refine Kd.C_drew ?_))); (case side2 => exact HC0.out); rintro e w6 ⟨rfl, hb⟩; refine ⟨_, rfl, ?_⟩; have n0_ := aS_ (blk_below (g := gb307) (o := .cells #[.slice none 0 0, .slice none 0 0] 24 (0, 0)) (by (with_reducible repeat (first | refine kN_ ?_ _ | refine kD_ ?_ | refine kA_ ?_ _)); exact BK307.out) hb); have n1_ := aS_ (below_step (by repeat (first | (with_reducible first | exact HB.out | apply bA_ | apply pN_ | apply bD_ | refine bS_ ?_ GE307.out) | exact HB.out)) hb); clear BK307; clear HB; have BK307 := n0_; have HB := n1_; clear n0_ n1_; (try clear hb); (try clear hb2); (try clear hk); (try clear hi)) | ((with_reducible refine gate_callee (f := 31) rfl ?_); refine goesL_ (some 10) rfl rfl Try.func31 (by kernel_rfl) rfl #[.slice A0 l0.length c0, .agg #[.slice none 0 0, .slice none 0 0]] rfl (by (try simp only [List.map_toArray, List.map_cons, List.map_nil]); first | done | rfl | (simp only [List.length_drop, List.length_take]; rfl)) ?_; (refine (impl_regionOf.calls k _ _ l0 (fun k_ => some k_ = (.slice none 0 0 : Value).ownBlock) (.slice none 0 0) ([] : List Int) (fun k_ => some k_ = (.slice none 0 0 : Value).ownBlock) (.slice none 0 0) ([] : List Int) t309 t312 t315 w _ ?side1 ?side2 ?side3 ?side4 ?side5 ?side6 ?side7 A4.out).mono ?_); (case side1 => repeat (first | (with_reducible first | exact HB.out | apply bA_ | apply pN_ | apply bD_ | refine bS_ ?_ GE307.out) | exact HB.out)); (case side2 => exact Kd.C_kept_came (Kd.heap_int .i64) HR0.out (by repeat (first | (with_reducible first | exact HB.out | apply bA_ | apply pN_ | apply bD_ | refine bS_ ?_ GE307.out) | exact HB.out)) (fun k_ hs_ => Or.elim hs_ (fun e_ => (fun e_ => by simp [Value.ownBlock] at e_) e_) (fun e_ => (fun e_ => by simp [Value.ownBlock] at e_) e_))); (case side3 => exact HC0.out); (case side4 => exact Kd.R_nil _ _ _ _ _); (case side5 => intro k_ e_ e2_; simp [Value.ownBlock] at e_ e2_); (case side6 => exact Kd.R_nil _ _ _ _ _); (case side7 => intro k_ e_ e2_; simp [Value.ownBlock] at e_ e2_); rintro e w7 ⟨v310, v313, rfl, ho0, ho1, hb, hkp⟩; refine ⟨_, rfl, ?_⟩; have n0_ := aS_ (blk_kept (by (with_reducible repeat (first | refine kN_ ?_ _ | refine kD_ ?_ | refine kA_ ?_ _)); exact BK307.out) hkp (fun hs_ => Or.elim hs_ (fun e_ => (fun e_ => by simp [Value.ownBlock] at e_) e_) (fun e_ => (fun e_ => by simp [Value.ownBlock] at e_) e_))); have n1_ := aS_ (Kd.R_mono (ok' := fun k_ => some k_ ≠ (v313 : Value).ownBlock) ho0 (fun k_ hk_ => hk_.2)); have n2_ := aS_ (Kd.R_mono (ok' := fun k_ => some k_ ≠ (v310 : Value).ownBlock) ho1 (fun k_ hk_ => hk_.2)); have n3_ := aS_ (hb); clear BK307; clear HB; have BK307 := n0_; have HO311 := n1_; have HO314 := n2_; have HB := n3_; clear n0_ n1_ n2_ n3_; (try clear hb); (try clear hkp); (try clear ho0); (try clear ho1); obtain ⟨Ao8, co8, eo8⟩ := Kd.R_slice HO311.out; subst eo8; have hcz9_0 : w7.cell? ⟨gb307, 0, none⟩ = some (.slice none 0 0) := (blk_cell BK307.out 0).trans rfl; have hcz9_1 : w7.cell? ⟨gb307, 1, none⟩ = some (.slice none 0 0) := (blk_cell BK307.out 1).trans rfl; have hfz9_0 := blk_frozen BK307.out 0; have hfz9_1 := blk_frozen BK307.out 1; obtain ⟨Ao10, co10, eo10⟩ := Kd.R_slice HO314.out; subst eo10))
  refine bodyPost_ret (results_ct rfl _ _ gb307 24 #[.slice Ao8 t309.length co8, .slice Ao10 t312.length co10] (0, 0) _ rfl (by (with_reducible repeat (first | refine kN_ ?_ _ | refine kD_ ?_ | refine kA_ ?_ _)); refine blk_put (cs := #[.slice Ao8 t309.length co8, .slice none 0 0]) ?_ 1 _ rfl; (with_reducible repeat (first | refine kN_ ?_ _ | refine kD_ ?_ | refine kA_ ?_ _)); refine blk_put (cs := #[.slice none 0 0, .slice none 0 0]) ?_ 0 _ rfl; (with_reducible repeat (first | refine kN_ ?_ _ | refine kD_ ?_ | refine kA_ ?_ _)); exact BK307.out) Try.underlying24 rfl (by kernel_rfl)) rfl ?_
  exact ⟨_, _, by first | rfl | (simp [errW_none, errW_some] <;> rfl) | (simp [*, errW_none, errW_some] <;> rfl), by (with_reducible repeat (first | apply rA_ | apply rN_ | apply rD_)); exact Kd.R_mono (Kd.R_far (p := ⟨gb307, 1, none⟩) (Kd.R_far (p := ⟨gb307, 0, none⟩) (Kd.R_types HO311.out BK307.out (by decide)) (fun _ hk => hk.2) (.slice Ao8 t309.length co8)) (fun _ hk => hk.2) (.slice Ao10 t312.length co10)) (fun _ hk => hk.1), by (with_reducible repeat (first | apply rA_ | apply rN_ | apply rD_)); exact Kd.R_mono (Kd.R_far (p := ⟨gb307, 1, none⟩) (Kd.R_far (p := ⟨gb307, 0, none⟩) (Kd.R_types HO314.out BK307.out (by decide)) (fun _ hk => hk.2) (.slice Ao8 t309.length co8)) (fun _ hk => hk.2) (.slice Ao10 t312.length co10)) (fun _ hk => hk.1), by repeat (first | (with_reducible first | exact HB.out | apply bA_ | apply pN_ | apply bD_ | refine bS_ ?_ GE307.out) | exact HB.out)⟩
 ·replace c3 := Bool.eq_false_iff.mpr c3
  subst c3
  rw [if_neg (show ¬ (false = true) by decide)] at H
  simp only [Option.some.injEq, Prod.mk.injEq] at H
  obtain ⟨rfl, rfl, rfl⟩ := H
  go_enter Try.func15, Try.ntmps15
  go_wp2_with (first | ((with_reducible refine gate_dst (N := 2) rfl ?_); refine box_event ?hg (N := 2) ?hd (cs := #[.slice none 0 0, .slice none 0 0]) (t := 24) ?hr ?_; (case hd => rfl); (case hg => rfl); (case hr => first | (go_simp; done) | (go_simp; rfl)); intro gb307 hg w11 hbox hb; have n0_ := aS_ (below_step (by repeat (first | (with_reducible first | exact HB.out | apply bA_ | apply pN_ | apply bD_) | exact HB.out)) hb); have n1_ := aS_ (hbox); have n2_ := aS_ ((by rw [hg]; exact (below_size (by repeat (first | (with_reducible first | exact HB.out | apply bA_ | apply pN_ | apply bD_) | exact HB.out))) : w.heap.size ≤ gb307)); have n3_ := aS_ ((by rw [hg]; exact (below_size (by repeat (first | (with_reducible first | exact HB.out | apply bA_ | apply pN_ | apply bD_) | exact HB.out))) : w.heap.size ≤ gb307)); clear HB; have HB := n0_; have BK307 := n1_; have GW307 := n2_; have GE307 := n3_; clear n0_ n1_ n2_ n3_; clear hb hbox hg) | ((with_reducible refine gate_callee (f := 35) rfl ?_); refine goesL_ (some 5) rfl rfl Try.func35 (by kernel_rfl) rfl #[.slice A0 l0.length c0] rfl (by (try simp only [List.map_toArray, List.map_cons, List.map_nil]); first | done | rfl | (simp only [List.length_drop, List.length_take]; rfl)) ?_; (with_reducible refine (impl_isParking.calls k _ _ l0 false _ ?side1 ?side2 A2.out).mono ?_); (case side1 => repeat (first | exact (Kd.C_below HR0.out HB.out) | (with_reducible refine Kd.C_alloc ?_ _) | (with_reducible refine Kd.C_drewN ?_ _) | (with_reducible refine Kd.C_drew ?_))); (case side2 => exact HC0.out); rintro e w12 ⟨rfl, hb⟩; refine ⟨_, rfl, ?_⟩; have n0_ := aS_ (blk_below (g := gb307) (o := .cells #[.slice none 0 0, .slice none 0 0] 24 (0, 0)) (by (with_reducible repeat (first | refine kN_ ?_ _ | refine kD_ ?_ | refine kA_ ?_ _)); exact BK307.out) hb); have n1_ := aS_ (below_step (by repeat (first | (with_reducible first | exact HB.out | apply bA_ | apply pN_ | apply bD_ | refine bS_ ?_ GE307.out) | exact HB.out)) hb); clear BK307; clear HB; have BK307 := n0_; have HB := n1_; clear n0_ n1_; (try clear hb); (try clear hb2); (try clear hk); (try clear hi); have hcz13_0 : w12.cell? ⟨gb307, 0, none⟩ = some (.slice none 0 0) := (blk_cell BK307.out 0).trans rfl; have hcz13_1 : w12.cell? ⟨gb307, 1, none⟩ = some (.slice none 0 0) := (blk_cell BK307.out 1).trans rfl; have hfz13_0 := blk_frozen BK307.out 0; have hfz13_1 := blk_frozen BK307.out 1))
  refine bodyPost_ret (results_ct rfl _ _ gb307 24 #[.slice none 0 0, .slice none 0 0] (0, 0) _ rfl (by (with_reducible repeat (first | refine kN_ ?_ _ | refine kD_ ?_ | refine kA_ ?_ _)); refine blk_put (cs := #[.slice none 0 0, .slice none 0 0]) ?_ 1 _ rfl; (with_reducible repeat (first | refine kN_ ?_ _ | refine kD_ ?_ | refine kA_ ?_ _)); refine blk_put (cs := #[.slice none 0 0, .slice none 0 0]) ?_ 0 _ rfl; (with_reducible repeat (first | refine kN_ ?_ _ | refine kD_ ?_ | refine kA_ ?_ _)); exact BK307.out) Try.underlying24 rfl (by kernel_rfl)) rfl ?_
  exact ⟨_, _, by first | rfl | (simp [errW_none, errW_some] <;> rfl) | (simp [*, errW_none, errW_some] <;> rfl), by first | exact Kd.R_nil _ _ _ _ _ | exact Kd.N_nil _ _ _ _ _ | exact Kd.V_nil _ _ _ _ _ | exact Kd.Q_nil _ _ _ _ _ | exact Kd.S_nil _ _ _ _ _, by first | exact Kd.R_nil _ _ _ _ _ | exact Kd.N_nil _ _ _ _ _ | exact Kd.V_nil _ _ _ _ _ | exact Kd.Q_nil _ _ _ _ _ | exact Kd.S_nil _ _ _ _ _, by repeat (first | (with_reducible first | exact HB.out | apply bA_ | apply pN_ | apply bD_ | refine bS_ ?_ GE307.out) | exact HB.out)⟩
/-! ### laws_FnExactRegionOfLabel: function 4 -/
mutual
def laws_FnExactRegionOfLabel.j0 : Nat → List Int → Bool → List Int → Bool → Bool → List Int → List Int → List Int → List Int → Option (Bool)
 | 0, _, _, _, _, _, _, _, _, _ => none
 | k + 1, x0, x4, x5, x7, x37, x327000, x327001, x338000, x338001 => if x37 = true then (some false) else ((laws_toIntS.f k x0).bind fun t339 => ((laws_eqIntS.f k x5 t339).bind fun t342 => (if t342 = true then ((laws_markIntS.f k x5 1).bind fun bt343 => (if bt343.1 < 0 then (laws_FnExactRegionOfLabel.j1 k x0 x4 true x327000 x327001 x338000 x338001) else ((laws_eqRegion.f k x338000 x338001 x327000 x327001).bind fun t345 => (if t345 = true then (laws_FnExactRegionOfLabel.j1 k x0 x4 (x7 != x4) x327000 x327001 x338000 x338001) else (laws_FnExactRegionOfLabel.j1 k x0 x4 true x327000 x327001 x338000 x338001))))) else (some false))))
def laws_FnExactRegionOfLabel.j1 : Nat → List Int → Bool → Bool → List Int → List Int → List Int → List Int → Option (Bool)
 | 0, _, _, _, _, _, _, _ => none
 | k + 1, x0, x4, x58, x327000, x327001, x338000, x338001 => if x58 = true then (some false) else ((laws_markRegion.f k x338000 x338001 1).bind fun bt346 => ((laws_heldRegion.f k bt346.2.1 bt346.2.2 1).bind fun t349 => (if t349 < 0 then (some false) else (if t349 = bt346.1 then ((laws_toIntS.f k x0).bind fun t350 => ((impl_RegionOfLabel.f k t350).bind fun bt353 => ((laws_eqRegion.f k bt353.1 bt353.2.1 x327000 x327001).bind fun t361 => (if t361 = true then (laws_FnExactRegionOfLabel.j2 k bt346.1 (bt353.2.2 != x4) bt346.2.1 bt346.2.2) else (laws_FnExactRegionOfLabel.j2 k bt346.1 true bt346.2.1 bt346.2.2))))) else (some false)))))
def laws_FnExactRegionOfLabel.j2 : Nat → Int → Bool → List Int → List Int → Option (Bool)
 | 0, _, _, _, _ => none
 | k + 1, x9, x84, x338000, x338001 => if x84 = true then (some false) else ((laws_heldRegion.f k x338000 x338001 1).bind fun t362 => (if t362 < 0 then (some false) else (if t362 = x9 then (some true) else (some false))))
end
def laws_FnExactRegionOfLabel.f (k : Nat) (l0 : List Int) : Option (Bool) := if (l0.length : Int) > 1048576 then (some true) else ((laws_toIntS.f k l0).bind fun t316 => ((spec_RegionOfLabel.f k t316).bind fun bt319 => ((laws_toIntS.f k l0).bind fun t327 => ((impl_RegionOfLabel.f k t327).bind fun bt330 => ((laws_eqRegion.f k bt330.1 bt330.2.1 bt319.1 bt319.2.1).bind fun t338 => (if t338 = true then (laws_FnExactRegionOfLabel.j0 k l0 bt319.2.2 t327 bt330.2.2 (bt330.2.2 != bt319.2.2) bt319.1 bt319.2.1 bt330.1 bt330.2.1) else (laws_FnExactRegionOfLabel.j0 k l0 bt319.2.2 t327 bt330.2.2 true bt319.1 bt319.2.1 bt330.1 bt330.2.1)))))))
theorem laws_FnExactRegionOfLabel.mono_l : ∀ k, (∀ y0 y1 y2 y3 y4 y5 y6 y7 y8, LeO (laws_FnExactRegionOfLabel.j0 k y0 y1 y2 y3 y4 y5 y6 y7 y8) (laws_FnExactRegionOfLabel.j0 (k + 1) y0 y1 y2 y3 y4 y5 y6 y7 y8)) ∧ (∀ y0 y1 y2 y3 y4 y5 y6, LeO (laws_FnExactRegionOfLabel.j1 k y0 y1 y2 y3 y4 y5 y6) (laws_FnExactRegionOfLabel.j1 (k + 1) y0 y1 y2 y3 y4 y5 y6)) ∧ (∀ y0 y1 y2 y3, LeO (laws_FnExactRegionOfLabel.j2 k y0 y1 y2 y3) (laws_FnExactRegionOfLabel.j2 (k + 1) y0 y1 y2 y3))
 | 0 => ⟨fun _ _ _ _ _ _ _ _ _ r h => by simp [laws_FnExactRegionOfLabel.j0] at h, fun _ _ _ _ _ _ _ r h => by simp [laws_FnExactRegionOfLabel.j1] at h, fun _ _ _ _ r h => by simp [laws_FnExactRegionOfLabel.j2] at h⟩
 | k + 1 => by
  obtain ⟨ih0, ih1, ih2⟩ := laws_FnExactRegionOfLabel.mono_l k
  refine ⟨?_, ?_, ?_⟩
  ·intro y0 y1 y2 y3 y4 y5 y6 y7 y8
   unfold laws_FnExactRegionOfLabel.j0
   repeat' first
   | (with_reducible exact ih0 _ _ _ _ _ _ _ _ _)
   | (with_reducible exact ih1 _ _ _ _ _ _ _)
   | (with_reducible exact ih2 _ _ _ _)
   | (with_reducible exact impl_RegionOfLabel.mono _ _)
   | (with_reducible exact laws_eqIntS.mono _ _ _)
   | (with_reducible exact laws_eqRegion.mono _ _ _ _ _)
   | (with_reducible exact laws_heldRegion.mono _ _ _ _)
   | (with_reducible exact laws_markIntS.mono _ _ _)
   | (with_reducible exact laws_markRegion.mono _ _ _ _)
   | (with_reducible exact laws_toIntS.mono _ _)
   | (with_reducible exact spec_RegionOfLabel.mono _ _)
   | (with_reducible exact LeO.refl _)
   | (with_reducible exact LeO.none _)
   | (with_reducible refine LeO.ite ?_ ?_)
   | (with_reducible refine LeO.bind ?_ (fun _ => ?_))
   | exact ih0 _ _ _ _ _ _ _ _ _
   | exact ih1 _ _ _ _ _ _ _
   | exact ih2 _ _ _ _
   | exact impl_RegionOfLabel.mono _ _
   | exact laws_eqIntS.mono _ _ _
   | exact laws_eqRegion.mono _ _ _ _ _
   | exact laws_heldRegion.mono _ _ _ _
   | exact laws_markIntS.mono _ _ _
   | exact laws_markRegion.mono _ _ _ _
   | exact laws_toIntS.mono _ _
   | exact spec_RegionOfLabel.mono _ _
   | exact LeO.none _
   | refine LeO.ite ?_ ?_
   | refine LeO.bind ?_ (fun _ => ?_)
  ·intro y0 y1 y2 y3 y4 y5 y6
   unfold laws_FnExactRegionOfLabel.j1
   repeat' first
   | (with_reducible exact ih0 _ _ _ _ _ _ _ _ _)
   | (with_reducible exact ih1 _ _ _ _ _ _ _)
   | (with_reducible exact ih2 _ _ _ _)
   | (with_reducible exact impl_RegionOfLabel.mono _ _)
   | (with_reducible exact laws_eqIntS.mono _ _ _)
   | (with_reducible exact laws_eqRegion.mono _ _ _ _ _)
   | (with_reducible exact laws_heldRegion.mono _ _ _ _)
   | (with_reducible exact laws_markIntS.mono _ _ _)
   | (with_reducible exact laws_markRegion.mono _ _ _ _)
   | (with_reducible exact laws_toIntS.mono _ _)
   | (with_reducible exact spec_RegionOfLabel.mono _ _)
   | (with_reducible exact LeO.refl _)
   | (with_reducible exact LeO.none _)
   | (with_reducible refine LeO.ite ?_ ?_)
   | (with_reducible refine LeO.bind ?_ (fun _ => ?_))
   | exact ih0 _ _ _ _ _ _ _ _ _
   | exact ih1 _ _ _ _ _ _ _
   | exact ih2 _ _ _ _
   | exact impl_RegionOfLabel.mono _ _
   | exact laws_eqIntS.mono _ _ _
   | exact laws_eqRegion.mono _ _ _ _ _
   | exact laws_heldRegion.mono _ _ _ _
   | exact laws_markIntS.mono _ _ _
   | exact laws_markRegion.mono _ _ _ _
   | exact laws_toIntS.mono _ _
   | exact spec_RegionOfLabel.mono _ _
   | exact LeO.none _
   | refine LeO.ite ?_ ?_
   | refine LeO.bind ?_ (fun _ => ?_)
  ·intro y0 y1 y2 y3
   unfold laws_FnExactRegionOfLabel.j2
   repeat' first
   | (with_reducible exact ih0 _ _ _ _ _ _ _ _ _)
   | (with_reducible exact ih1 _ _ _ _ _ _ _)
   | (with_reducible exact ih2 _ _ _ _)
   | (with_reducible exact impl_RegionOfLabel.mono _ _)
   | (with_reducible exact laws_eqIntS.mono _ _ _)
   | (with_reducible exact laws_eqRegion.mono _ _ _ _ _)
   | (with_reducible exact laws_heldRegion.mono _ _ _ _)
   | (with_reducible exact laws_markIntS.mono _ _ _)
   | (with_reducible exact laws_markRegion.mono _ _ _ _)
   | (with_reducible exact laws_toIntS.mono _ _)
   | (with_reducible exact spec_RegionOfLabel.mono _ _)
   | (with_reducible exact LeO.refl _)
   | (with_reducible exact LeO.none _)
   | (with_reducible refine LeO.ite ?_ ?_)
   | (with_reducible refine LeO.bind ?_ (fun _ => ?_))
   | exact ih0 _ _ _ _ _ _ _ _ _
   | exact ih1 _ _ _ _ _ _ _
   | exact ih2 _ _ _ _
   | exact impl_RegionOfLabel.mono _ _
   | exact laws_eqIntS.mono _ _ _
   | exact laws_eqRegion.mono _ _ _ _ _
   | exact laws_heldRegion.mono _ _ _ _
   | exact laws_markIntS.mono _ _ _
   | exact laws_markRegion.mono _ _ _ _
   | exact laws_toIntS.mono _ _
   | exact spec_RegionOfLabel.mono _ _
   | exact LeO.none _
   | refine LeO.ite ?_ ?_
   | refine LeO.bind ?_ (fun _ => ?_)
theorem laws_FnExactRegionOfLabel.mono : ∀ a0 k, LeO (laws_FnExactRegionOfLabel.f k a0) (laws_FnExactRegionOfLabel.f (k + 1) a0) := by
 intro a0 k
 obtain ⟨ih0, ih1, ih2⟩ := laws_FnExactRegionOfLabel.mono_l k
 unfold laws_FnExactRegionOfLabel.f
 repeat' first
   | (with_reducible exact ih0 _ _ _ _ _ _ _ _ _)
   | (with_reducible exact ih1 _ _ _ _ _ _ _)
   | (with_reducible exact ih2 _ _ _ _)
   | (with_reducible exact impl_RegionOfLabel.mono _ _)
   | (with_reducible exact laws_eqIntS.mono _ _ _)
   | (with_reducible exact laws_eqRegion.mono _ _ _ _ _)
   | (with_reducible exact laws_heldRegion.mono _ _ _ _)
   | (with_reducible exact laws_markIntS.mono _ _ _)
   | (with_reducible exact laws_markRegion.mono _ _ _ _)
   | (with_reducible exact laws_toIntS.mono _ _)
   | (with_reducible exact spec_RegionOfLabel.mono _ _)
   | (with_reducible exact LeO.refl _)
   | (with_reducible exact LeO.none _)
   | (with_reducible refine LeO.ite ?_ ?_)
   | (with_reducible refine LeO.bind ?_ (fun _ => ?_))
   | exact ih0 _ _ _ _ _ _ _ _ _
   | exact ih1 _ _ _ _ _ _ _
   | exact ih2 _ _ _ _
   | exact impl_RegionOfLabel.mono _ _
   | exact laws_eqIntS.mono _ _ _
   | exact laws_eqRegion.mono _ _ _ _ _
   | exact laws_heldRegion.mono _ _ _ _
   | exact laws_markIntS.mono _ _ _
   | exact laws_markRegion.mono _ _ _ _
   | exact laws_toIntS.mono _ _
   | exact spec_RegionOfLabel.mono _ _
   | exact LeO.none _
   | refine LeO.ite ?_ ?_
   | refine LeO.bind ?_ (fun _ => ?_)
set_option maxHeartbeats 8000000 in
set_option maxRecDepth 100000 in
theorem laws_FnExactRegionOfLabel.calls (k : Nat) (A0 : Option Addr) (c0 : Nat) (l0 : List Int) (r : Bool) (w : World) (hr0 : Kd.C (Kd.int .i64) w A0 l0.length l0) (hc0 : l0.length ≤ c0) (h : laws_FnExactRegionOfLabel.f k l0 = some r) :
  Calls Try.prog 4 #[.slice A0 l0.length c0] w fun e w' => e = .returned (.bool r) ∧ Below w.heap.size w w' := by
 have hu24 := Try.underlying24
 have HR0 := aS_ hr0
 have HC0 := aS_ hc0
 clear hr0 hc0
 have HB := aS_ (Below.refl w.heap.size w)
 have H : (if (l0.length : Int) > 1048576 then (some true) else ((laws_toIntS.f k l0).bind fun t316 => ((spec_RegionOfLabel.f k t316).bind fun bt319 => ((laws_toIntS.f k l0).bind fun t327 => ((impl_RegionOfLabel.f k t327).bind fun bt330 => ((laws_eqRegion.f k bt330.1 bt330.2.1 bt319.1 bt319.2.1).bind fun t338 => (if t338 = true then (laws_FnExactRegionOfLabel.j0 k l0 bt319.2.2 t327 bt330.2.2 (bt330.2.2 != bt319.2.2) bt319.1 bt319.2.1 bt330.1 bt330.2.1) else (laws_FnExactRegionOfLabel.j0 k l0 bt319.2.2 t327 bt330.2.2 true bt319.1 bt319.2.1 bt330.1 bt330.2.1)))))))) = some r := h
 clear h
 by_cases c2 : (l0.length : Int) > 1048576
 ·rw [if_pos c2] at H
  have c2b0 : decide (1048576 < (l0.length : Int)) = true := decide_eq_true c2
  have c2b1 : decide (1048576 < l0.length) = true := decide_eq_true (by omega)
  clear c2
  obtain rfl := Option.some.inj H
  go_enter Try.func4, Try.ntmps4
  go_wp2
  go_ret
  exact ⟨by first | rfl | (simp [errW_none, errW_some] <;> rfl) | (simp [*, errW_none, errW_some] <;> rfl), by repeat (first | (with_reducible first | exact HB.out | apply bA_ | apply pN_ | apply bD_) | exact HB.out)⟩
 ·rw [if_neg c2] at H
  have c2b0 : decide (1048576 < (l0.length : Int)) = false := decide_eq_false c2
  have c2b1 : decide (1048576 < l0.length) = false := decide_eq_false (by omega)
  clear c2
  replace H := Option.bind_eq_some_iff.mp H
  obtain ⟨t316, A30, H⟩ := H
  have A3 := aS_ A30
  clear A30
  replace H := Option.bind_eq_some_iff.mp H
  obtain ⟨⟨t319, t322, t325⟩, A40, H⟩ := H
  have A4 := aS_ A40
  clear A40
  replace H := Option.bind_eq_some_iff.mp H
  obtain ⟨t327, A50, H⟩ := H
  have A5 := aS_ A50
  clear A50
  replace H := Option.bind_eq_some_iff.mp H
  obtain ⟨⟨t330, t333, t336⟩, A60, H⟩ := H
  have A6 := aS_ A60
  clear A60
  have HC7 := aS_ H
  clear H
  go_enter Try.func4, Try.ntmps4
  go_upto_region 6 with (first | ((with_reducible refine gate_callee (f := 14) rfl ?_); refine goesL_ (some 18) rfl rfl Try.func14 (by kernel_rfl) rfl #[.slice A0 l0.length c0] rfl (by (try simp only [List.map_toArray, List.map_cons, List.map_nil]); first | done | rfl | (simp only [List.length_drop, List.length_take]; rfl)) ?_; (with_reducible refine (laws_toIntS.calls k _ _ l0 t316 _ ?side1 ?side2 A3.out).mono ?_); (case side1 => repeat (first | exact HR0.out | (with_reducible refine Kd.C_alloc ?_ _) | (with_reducible refine Kd.C_drewN ?_ _) | (with_reducible refine Kd.C_drew ?_))); (case side2 => exact HC0.out); rintro e w8 ⟨v317, rfl, ho0, hb⟩; refine ⟨_, rfl, ?_⟩; have n0_ := aS_ (Kd.R_lower ho0 (below_size (by repeat (first | (with_reducible first | exact HB.out | apply bA_ | apply pN_ | apply bD_) | exact HB.out)))); have n1_ := aS_ (below_step (by repeat (first | (with_reducible first | exact HB.out | apply bA_ | apply pN_ | apply bD_) | exact HB.out)) hb); clear HB; have HO318 := n0_; have HB := n1_; clear n0_ n1_; (try clear hb); (try clear hb2); (try clear hk); (try clear hi); (try clear ho0); obtain ⟨Ao9, co9, eo9⟩ := Kd.R_slice HO318.out; subst eo9) | ((with_reducible refine gate_callee (f := 13) rfl ?_); refine goesL_ (some 19) rfl rfl Try.func13 (by kernel_rfl) rfl #[.slice Ao9 t316.length co9] rfl (by (try simp only [List.map_toArray, List.map_cons, List.map_nil]); first | done | rfl | (simp only [List.length_drop, List.length_take]; rfl)) ?_; (with_reducible refine (spec_RegionOfLabel.calls k _ _ t316 t319 t322 t325 _ ?side1 ?side2 A4.out).mono ?_); (case side1 => repeat (first | exact (Kd.R_reads' HO318.out).2.2 | (with_reducible refine Kd.C_alloc ?_ _) | (with_reducible refine Kd.C_drewN ?_ _) | (with_reducible refine Kd.C_drew ?_))); (case side2 => exact (Kd.R_reads' HO318.out).2.1); rintro e w10 ⟨v320, v323, rfl, ho0, ho1, hb⟩; refine ⟨_, rfl, ?_⟩; have n0_ := aS_ (Kd.R_mono (Kd.R_told (Kd.R_told (Kd.R_old (by (with_reducible repeat (first | apply rA_ | apply rN_ | apply rD_)); exact HO318.out) hb) (Kd.R_base ho0)) (Kd.R_base ho1)) (fun _ h_ => h_.1)); have n1_ := aS_ (Kd.R_lower (Kd.R_new' ho0 (Kd.R_lt (by (with_reducible repeat (first | apply rA_ | apply rN_ | apply rD_)); exact HO318.out))) (below_size (by repeat (first | (with_reducible first | exact HB.out | apply bA_ | apply pN_ | apply bD_) | exact HB.out)))); have n2_ := aS_ (Kd.R_lower (Kd.R_new' ho1 (Kd.R_lt (by (with_reducible repeat (first | apply rA_ | apply rN_ | apply rD_)); exact HO318.out))) (below_size (by repeat (first | (with_reducible first | exact HB.out | apply bA_ | apply pN_ | apply bD_) | exact HB.out)))); have n3_ := aS_ (below_step (by repeat (first | (with_reducible first | exact HB.out | apply bA_ | apply pN_ | apply bD_) | exact HB.out)) hb); clear HO318; clear HB; have HO318 := n0_; have HO321 := n1_; have HO324 := n2_; have HB := n3_; clear n0_ n1_ n2_ n3_; (try clear hb); (try clear hb2); (try clear hk); (try clear hi); (try clear ho0); (try clear ho1)) | ((with_reducible refine gate_dst (N := 3) rfl ?_); refine box_event ?hg (N := 3) ?hd (cs := #[.slice none 0 0, .slice none 0 0]) (t := 24) ?hr ?_; (case hd => rfl); (case hg => rfl); (case hr => first | (go_simp; done) | (go_simp; rfl)); intro gb326 hg w11 hbox hb; have n0_ := aS_ (Kd.R_below (by (with_reducible repeat (first | apply rA_ | apply rN_ | apply rD_)); exact HO318.out) hb); have n1_ := aS_ (Kd.R_below (by (with_reducible repeat (first | apply rA_ | apply rN_ | apply rD_)); exact HO321.out) hb); have n2_ := aS_ (Kd.R_below (by (with_reducible repeat (first | apply rA_ | apply rN_ | apply rD_)); exact HO324.out) hb); have n3_ := aS_ (below_step (by repeat (first | (with_reducible first | exact HB.out | apply bA_ | apply pN_ | apply bD_) | exact HB.out)) hb); have n4_ := aS_ (hbox); have n5_ := aS_ ((by rw [hg]; exact (below_size (by repeat (first | (with_reducible first | exact HB.out | apply bA_ | apply pN_ | apply bD_) | exact HB.out))) : w.heap.size ≤ gb326)); have n6_ := aS_ ((by rw [hg]; exact (below_size (by repeat (first | (with_reducible first | exact HB.out | apply bA_ | apply pN_ | apply bD_) | exact HB.out))) : w.heap.size ≤ gb326)); clear HO318; clear HO321; clear HO324; clear HB; have HO318 := n0_; have HO321 := n1_; have HO324 := n2_; have HB := n3_; have BK326 := n4_; have GW326 := n5_; have GE326 := n6_; clear n0_ n1_ n2_ n3_ n4_ n5_ n6_; clear hb hbox hg; obtain ⟨Ao12, co12, eo12⟩ := Kd.R_slice HO321.out; subst eo12; have hcz13_0 : w11.cell? ⟨gb326, 0, none⟩ = some (.slice none 0 0) := (blk_cell BK326.out 0).trans rfl; have hcz13_1 : w11.cell? ⟨gb326, 1, none⟩ = some (.slice none 0 0) := (blk_cell BK326.out 1).trans rfl; have hfz13_0 := blk_frozen BK326.out 0; have hfz13_1 := blk_frozen BK326.out 1; obtain ⟨Ao14, co14, eo14⟩ := Kd.R_slice HO324.out; subst eo14) | ((with_reducible refine gate_callee (f := 14) rfl ?_); refine goesL_ (some 23) rfl rfl Try.func14 (by kernel_rfl) rfl #[.slice A0 l0.length c0] rfl (by (try simp only [List.map_toArray, List.map_cons, List.map_nil]); first | done | rfl | (simp only [List.length_drop, List.length_take]; rfl)) ?_; (with_reducible refine (laws_toIntS.calls k _ _ l0 t327 _ ?side1 ?side2 A5.out).mono ?_); (case side1 => exact Kd.C_below HR0.out (by repeat (first | (with_reducible first | exact HB.out | apply bA_ | apply pN_ | apply bD_ | refine bS_ ?_ GE326.out) | exact HB.out))); (case side2 => exact HC0.out); rintro e w15 ⟨v328, rfl, ho0, hb⟩; refine ⟨_, rfl, ?_⟩; have n0_ := aS_ (Kd.R_elder' (by (with_reducible repeat (first | apply rA_ | apply rN_ | apply rD_)); exact (Kd.R_mono (Kd.R_far (p := ⟨gb326, 1, none⟩) (Kd.R_far (p := ⟨gb326, 0, none⟩) (Kd.R_types HO318.out BK326.out (by decide)) (fun _ hk => hk.2) (.slice Ao12 t319.length co12)) (fun _ hk => hk.2) (.slice Ao14 t322.length co14)) (fun _ h_ => h_.1))) (Kd.R_base ho0) hb); have n1_ := aS_ (Kd.R_elder' (by (with_reducible repeat (first | apply rA_ | apply rN_ | apply rD_)); exact (Kd.R_mono (Kd.R_far (p := ⟨gb326, 1, none⟩) (Kd.R_far (p := ⟨gb326, 0, none⟩) (Kd.R_types HO321.out BK326.out (by decide)) (fun _ hk => hk.2) (.slice Ao12 t319.length co12)) (fun _ hk => hk.2) (.slice Ao14 t322.length co14)) (fun _ h_ => h_.1))) (Kd.R_base ho0) hb); have n2_ := aS_ (Kd.R_elder' (by (with_reducible repeat (first | apply rA_ | apply rN_ | apply rD_)); exact (Kd.R_mono (Kd.R_far (p := ⟨gb326, 1, none⟩) (Kd.R_far (p := ⟨gb326, 0, none⟩) (Kd.R_types HO324.out BK326.out (by decide)) (fun _ hk => hk.2) (.slice Ao12 t319.length co12)) (fun _ hk => hk.2) (.slice Ao14 t322.length co14)) (fun _ h_ => h_.1))) (Kd.R_base ho0) hb); have n3_ := aS_ (Kd.R_lower (Kd.R_new' (Kd.R_new' (Kd.R_new' ho0 (Kd.R_lt (by (with_reducible repeat (first | apply rA_ | apply rN_ | apply rD_)); exact (Kd.R_mono (Kd.R_far (p := ⟨gb326, 1, none⟩) (Kd.R_far (p := ⟨gb326, 0, none⟩) (Kd.R_types HO318.out BK326.out (by decide)) (fun _ hk => hk.2) (.slice Ao12 t319.length co12)) (fun _ hk => hk.2) (.slice Ao14 t322.length co14)) (fun _ h_ => h_.1))))) (Kd.R_lt (by (with_reducible repeat (first | apply rA_ | apply rN_ | apply rD_)); exact (Kd.R_mono (Kd.R_far (p := ⟨gb326, 1, none⟩) (Kd.R_far (p := ⟨gb326, 0, none⟩) (Kd.R_types HO321.out BK326.out (by decide)) (fun _ hk => hk.2) (.slice Ao12 t319.length co12)) (fun _ hk => hk.2) (.slice Ao14 t322.length co14)) (fun _ h_ => h_.1))))) (Kd.R_lt (by (with_reducible repeat (first | apply rA_ | apply rN_ | apply rD_)); exact (Kd.R_mono (Kd.R_far (p := ⟨gb326, 1, none⟩) (Kd.R_far (p := ⟨gb326, 0, none⟩) (Kd.R_types HO324.out BK326.out (by decide)) (fun _ hk => hk.2) (.slice Ao12 t319.length co12)) (fun _ hk => hk.2) (.slice Ao14 t322.length co14)) (fun _ h_ => h_.1))))) (below_size (by repeat (first | (with_reducible first | exact HB.out | apply bA_ | apply pN_ | apply bD_ | refine bS_ ?_ GE326.out) | exact HB.out)))); have n4_ := aS_ (blk_below (g := gb326) (o := .cells #[.slice Ao12 t319.length co12, .slice Ao14 t322.length co14] 24 (0, 0)) (by (with_reducible repeat (first | refine kN_ ?_ _ | refine kD_ ?_ | refine kA_ ?_ _)); refine blk_put (cs := #[.slice Ao12 t319.length co12, .slice none 0 0]) ?_ 1 _ rfl; (with_reducible repeat (first | refine kN_ ?_ _ | refine kD_ ?_ | refine kA_ ?_ _)); refine blk_put (cs := #[.slice none 0 0, .slice none 0 0]) ?_ 0 _ rfl; (with_reducible repeat (first | refine kN_ ?_ _ | refine kD_ ?_ | refine kA_ ?_ _)); exact BK326.out) hb); have n5_ := aS_ (below_step (by repeat (first | (with_reducible first | exact HB.out | apply bA_ | apply pN_ | apply bD_ | refine bS_ ?_ GE326.out) | exact HB.out)) hb); clear HO318; clear HO321; clear HO324; clear BK326; clear HB; have HO318 := n0_; have HO321 := n1_; have HO324 := n2_; have HO329 := n3_; have BK326 := n4_; have HB := n5_; clear n0_ n1_ n2_ n3_ n4_ n5_; (try clear hb); (try clear hb2); (try clear hk); (try clear hi); (try clear ho0); obtain ⟨Ao16, co16, eo16⟩ := Kd.R_slice HO329.out; subst eo16) | ((with_reducible refine gate_callee (f := 15) rfl ?_); refine goesL_ (some 26) rfl rfl Try.func15 (by kernel_rfl) rfl #[.slice Ao16 t327.length co16] rfl (by (try simp only [List.map_toArray, List.map_cons, List.map_nil]); first | done | rfl | (simp only [List.length_drop, List.length_take]; rfl)) ?_; (with_reducible refine (impl_RegionOfLabel.calls k _ _ t327 t330 t333 t336 _ ?side1 ?side2 A6.out).mono ?_); (case side1 => repeat (first | exact (Kd.R_reads' HO329.out).2.2 | (with_reducible refine Kd.C_alloc ?_ _) | (with_reducible refine Kd.C_drewN ?_ _) | (with_reducible refine Kd.C_drew ?_))); (case side2 => exact (Kd.R_reads' HO329.out).2.1); rintro e w17 ⟨v331, v334, rfl, ho0, ho1, hb⟩; refine ⟨_, rfl, ?_⟩; have n0_ := aS_ (Kd.R_mono (Kd.R_told (Kd.R_told (Kd.R_old (by (with_reducible repeat (first | apply rA_ | apply rN_ | apply rD_)); exact HO318.out) hb) (Kd.R_base ho0)) (Kd.R_base ho1)) (fun _ h_ => h_.1)); have n1_ := aS_ (Kd.R_mono (Kd.R_told (Kd.R_told (Kd.R_old (by (with_reducible repeat (first | apply rA_ | apply rN_ | apply rD_)); exact HO321.out) hb) (Kd.R_base ho0)) (Kd.R_base ho1)) (fun _ h_ => h_.1)); have n2_ := aS_ (Kd.R_mono (Kd.R_told (Kd.R_told (Kd.R_old (by (with_reducible repeat (first | apply rA_ | apply rN_ | apply rD_)); exact HO324.out) hb) (Kd.R_base ho0)) (Kd.R_base ho1)) (fun _ h_ => h_.1)); have n3_ := aS_ (Kd.R_mono (Kd.R_told (Kd.R_told (Kd.R_old (by (with_reducible repeat (first | apply rA_ | apply rN_ | apply rD_)); exact HO329.out) hb) (Kd.R_base ho0)) (Kd.R_base ho1)) (fun _ h_ => h_.1)); have n4_ := aS_ (Kd.R_lower (Kd.R_new' (Kd.R_new' (Kd.R_new' (Kd.R_new' ho0 (Kd.R_lt (by (with_reducible repeat (first | apply rA_ | apply rN_ | apply rD_)); exact HO318.out))) (Kd.R_lt (by (with_reducible repeat (first | apply rA_ | apply rN_ | apply rD_)); exact HO321.out))) (Kd.R_lt (by (with_reducible repeat (first | apply rA_ | apply rN_ | apply rD_)); exact HO324.out))) (Kd.R_lt (by (with_reducible repeat (first | apply rA_ | apply rN_ | apply rD_)); exact HO329.out))) (below_size (by repeat (first | (with_reducible first | exact HB.out | apply bA_ | apply pN_ | apply bD_ | refine bS_ ?_ GE326.out) | exact HB.out)))); have n5_ := aS_ (Kd.R_lower (Kd.R_new' (Kd.R_new' (Kd.R_new' (Kd.R_new' ho1 (Kd.R_lt (by (with_reducible repeat (first | apply rA_ | apply rN_ | apply rD_)); exact HO318.out))) (Kd.R_lt (by (with_reducible repeat (first | apply rA_ | apply rN_ | apply rD_)); exact HO321.out))) (Kd.R_lt (by (with_reducible repeat (first | apply rA_ | apply rN_ | apply rD_)); exact HO324.out))) (Kd.R_lt (by (with_reducible repeat (first | apply rA_ | apply rN_ | apply rD_)); exact HO329.out))) (below_size (by repeat (first | (with_reducible first | exact HB.out | apply bA_ | apply pN_ | apply bD_ | refine bS_ ?_ GE326.out) | exact HB.out)))); have n6_ := aS_ (blk_below (g := gb326) (o := .cells #[.slice Ao12 t319.length co12, .slice Ao14 t322.length co14] 24 (0, 0)) (by (with_reducible repeat (first | refine kN_ ?_ _ | refine kD_ ?_ | refine kA_ ?_ _)); exact BK326.out) hb); have n7_ := aS_ (below_step (by repeat (first | (with_reducible first | exact HB.out | apply bA_ | apply pN_ | apply bD_ | refine bS_ ?_ GE326.out) | exact HB.out)) hb); clear HO318; clear HO321; clear HO324; clear HO329; clear BK326; clear HB; have HO318 := n0_; have HO321 := n1_; have HO324 := n2_; have HO329 := n3_; have HO332 := n4_; have HO335 := n5_; have BK326 := n6_; have HB := n7_; clear n0_ n1_ n2_ n3_ n4_ n5_ n6_ n7_; (try clear hb); (try clear hb2); (try clear hk); (try clear hi); (try clear ho0); (try clear ho1)) | ((with_reducible refine gate_dst (N := 6) rfl ?_); refine box_event ?hg (N := 6) ?hd (cs := #[.slice none 0 0, .slice none 0 0]) (t := 24) ?hr ?_; (case hd => rfl); (case hg => rfl); (case hr => first | (go_simp; done) | (go_simp; rfl)); intro gb337 hg w18 hbox hb; have n0_ := aS_ (Kd.R_below (by (with_reducible repeat (first | apply rA_ | apply rN_ | apply rD_)); exact HO318.out) hb); have n1_ := aS_ (Kd.R_below (by (with_reducible repeat (first | apply rA_ | apply rN_ | apply rD_)); exact HO321.out) hb); have n2_ := aS_ (Kd.R_below (by (with_reducible repeat (first | apply rA_ | apply rN_ | apply rD_)); exact HO324.out) hb); have n3_ := aS_ (Kd.R_below (by (with_reducible repeat (first | apply rA_ | apply rN_ | apply rD_)); exact HO329.out) hb); have n4_ := aS_ (Kd.R_below (by (with_reducible repeat (first | apply rA_ | apply rN_ | apply rD_)); exact HO332.out) hb); have n5_ := aS_ (Kd.R_below (by (with_reducible repeat (first | apply rA_ | apply rN_ | apply rD_)); exact HO335.out) hb); have n6_ := aS_ (blk_below (g := gb326) (o := .cells #[.slice Ao12 t319.length co12, .slice Ao14 t322.length co14] 24 (0, 0)) (by (with_reducible repeat (first | refine kN_ ?_ _ | refine kD_ ?_ | refine kA_ ?_ _)); exact BK326.out) hb); have n7_ := aS_ (below_step (by repeat (first | (with_reducible first | exact HB.out | apply bA_ | apply pN_ | apply bD_ | refine bS_ ?_ GE326.out) | exact HB.out)) hb); have n8_ := aS_ (hbox); have n9_ := aS_ ((by rw [hg]; exact (below_size (by repeat (first | (with_reducible first | exact HB.out | apply bA_ | apply pN_ | apply bD_ | refine bS_ ?_ GE326.out) | exact HB.out))) : w.heap.size ≤ gb337)); have n10_ := aS_ ((by rw [hg]; exact (below_size (by repeat (first | (with_reducible first | exact HB.out | apply bA_ | apply pN_ | apply bD_ | refine bS_ ?_ GE326.out) | exact HB.out))) : w.heap.size ≤ gb337)); have n11_ := aS_ ((by rw [hg]; exact Nat.ne_of_lt (blk_lt (g := gb326) (o := .cells #[.slice Ao12 t319.length co12, .slice Ao14 t322.length co14] 24 (0, 0)) (by (with_reducible repeat (first | refine kN_ ?_ _ | refine kD_ ?_ | refine kA_ ?_ _)); exact BK326.out)) : gb326 ≠ gb337)); have n12_ := aS_ ((by rw [hg]; exact Nat.ne_of_gt (blk_lt (g := gb326) (o := .cells #[.slice Ao12 t319.length co12, .slice Ao14 t322.length co14] 24 (0, 0)) (by (with_reducible repeat (first | refine kN_ ?_ _ | refine kD_ ?_ | refine kA_ ?_ _)); exact BK326.out)) : gb337 ≠ gb326)); clear HO318; clear HO321; clear HO324; clear HO329; clear HO332; clear HO335; clear BK326; clear HB; have HO318 := n0_; have HO321 := n1_; have HO324 := n2_; have HO329 := n3_; have HO332 := n4_; have HO335 := n5_; have BK326 := n6_; have HB := n7_; have BK337 := n8_; have GW337 := n9_; have GE337 := n10_; have NB326_337 := n11_; have NB337_326 := n12_; clear n0_ n1_ n2_ n3_ n4_ n5_ n6_ n7_ n8_ n9_ n10_ n11_ n12_; clear hb hbox hg; obtain ⟨Ao19, co19, eo19⟩ := Kd.R_slice HO332.out; subst eo19; have hnb20 := NB337_326.out; have hnc20 := NB326_337.out; have hcz21_0 : w18.cell? ⟨gb337, 0, none⟩ = some (.slice none 0 0) := (blk_cell BK337.out 0).trans rfl; have hcz21_1 : w18.cell? ⟨gb337, 1, none⟩ = some (.slice none 0 0) := (blk_cell BK337.out 1).trans rfl; have hfz21_0 := blk_frozen BK337.out 0; have hfz21_1 := blk_frozen BK337.out 1; obtain ⟨Ao22, co22, eo22⟩ := Kd.R_slice HO335.out; subst eo22))
  (try simp only [Act.put, List.setIfInBounds_toArray, List.set_cons_zero, List.set_cons_succ])
  go_cut [37] (fun v37 wc => ∃ (kq : Nat) (x37_6 : Bool), v37 = .bool x37_6 ∧ Aside0 (laws_FnExactRegionOfLabel.j0 kq l0 t325 t327 t336 x37_6 t319 t322 t330 t333 = some r) ∧ Aside0 (kq ≤ k) ∧ Aside0 (Kd.R (Kd.int .i64) 3 wc w.heap.size (fun k_ => some k_ ≠ ((.slice Ao12 t319.length co12) : Value).ownBlock ∧ some k_ ≠ ((.slice Ao14 t322.length co14) : Value).ownBlock ∧ some k_ ≠ ((.slice Ao19 t330.length co19) : Value).ownBlock ∧ some k_ ≠ ((.slice Ao22 t333.length co22) : Value).ownBlock) (.slice Ao16 t327.length co16) t327) ∧ Aside0 (Kd.R (Kd.int .i64) 3 wc w.heap.size (fun k_ => some k_ ≠ ((.slice Ao16 t327.length co16) : Value).ownBlock ∧ some k_ ≠ ((.slice Ao14 t322.length co14) : Value).ownBlock ∧ some k_ ≠ ((.slice Ao19 t330.length co19) : Value).ownBlock ∧ some k_ ≠ ((.slice Ao22 t333.length co22) : Value).ownBlock) (.slice Ao12 t319.length co12) t319) ∧ Aside0 (Kd.R (Kd.int .i64) 3 wc w.heap.size (fun k_ => some k_ ≠ ((.slice Ao16 t327.length co16) : Value).ownBlock ∧ some k_ ≠ ((.slice Ao12 t319.length co12) : Value).ownBlock ∧ some k_ ≠ ((.slice Ao19 t330.length co19) : Value).ownBlock ∧ some k_ ≠ ((.slice Ao22 t333.length co22) : Value).ownBlock) (.slice Ao14 t322.length co14) t322) ∧ Aside0 (Kd.R (Kd.int .i64) 3 wc w.heap.size (fun k_ => some k_ ≠ ((.slice Ao16 t327.length co16) : Value).ownBlock ∧ some k_ ≠ ((.slice Ao12 t319.length co12) : Value).ownBlock ∧ some k_ ≠ ((.slice Ao14 t322.length co14) : Value).ownBlock ∧ some k_ ≠ ((.slice Ao22 t333.length co22) : Value).ownBlock) (.slice Ao19 t330.length co19) t330) ∧ Aside0 (Kd.R (Kd.int .i64) 3 wc w.heap.size (fun k_ => some k_ ≠ ((.slice Ao16 t327.length co16) : Value).ownBlock ∧ some k_ ≠ ((.slice Ao12 t319.length co12) : Value).ownBlock ∧ some k_ ≠ ((.slice Ao14 t322.length co14) : Value).ownBlock ∧ some k_ ≠ ((.slice Ao19 t330.length co19) : Value).ownBlock) (.slice Ao22 t333.length co22) t333) ∧ Aside0 (wc.heap[gb326]? = some (.cells #[(.slice Ao12 t319.length co12), (.slice Ao14 t322.length co14)] 24 (0, 0))) ∧ Aside0 (wc.heap[gb337]? = some (.cells #[(.slice Ao19 t330.length co19), (.slice Ao22 t333.length co22)] 24 (0, 0))) ∧ Aside0 (Below w.heap.size w wc))
  case first =>
   have H := HC7.out
   clear HC7
   replace H := Option.bind_eq_some_iff.mp H
   obtain ⟨t338, A230, H⟩ := H
   have A23 := aS_ A230
   clear A230
   by_cases c24 : t338 = true
   ·subst c24
    rw [if_pos rfl] at H
    have H' := aS_ H
    clear H
    have hnb25 := NB337_326.out
    have hnc25 := NB326_337.out
    have hcz26_0 : w18.cell? ⟨gb337, 0, none⟩ = some (.slice none 0 0) := (blk_cell BK337.out 0).trans rfl
    have hcz26_1 : w18.cell? ⟨gb337, 1, none⟩ = some (.slice none 0 0) := (blk_cell BK337.out 1).trans rfl
    have hfz26_0 := blk_frozen BK337.out 0
    have hfz26_1 := blk_frozen BK337.out 1
    have hcz27_0 : w18.cell? ⟨gb326, 0, none⟩ = some (.slice Ao12 t319.length co12) := (blk_cell BK326.out 0).trans rfl
    have hcz27_1 : w18.cell? ⟨gb326, 1, none⟩ = some (.slice Ao14 t322.length co14) := (blk_cell BK326.out 1).trans rfl
    have hfz27_0 := blk_frozen BK326.out 0
    have hfz27_1 := blk_frozen BK326.out 1
    go_wp2_with (first | ((with_reducible refine gate_callee (f := 10) rfl ?_); refine goesL_ (some 31) rfl rfl Try.func10 (by kernel_rfl) rfl #[.agg #[.slice Ao19 t330.length co19, .slice Ao22 t333.length co22], .agg #[.slice Ao12 t319.length co12, .slice Ao14 t322.length co14]] rfl (by (try simp only [List.map_toArray, List.map_cons, List.map_nil]); first | done | rfl | (simp only [List.length_drop, List.length_take]; rfl)) ?_; (with_reducible refine (laws_eqRegion.calls k _ _ t330 _ _ t333 _ _ t319 _ _ t322 true _ ?side1 ?side2 ?side3 ?side4 ?side5 ?side6 ?side7 ?side8 A23.out).mono ?_); (case side1 => refine (Kd.R_reads' (e := 3) (base := w.heap.size) (ok := fun k_ => ((((some k_ ≠ (.slice Ao22 t333.length co22 : Value).ownBlock ∧ some k_ ≠ (.slice Ao9 t316.length co9 : Value).ownBlock) ∧ some k_ ≠ (.slice Ao12 t319.length co12 : Value).ownBlock) ∧ some k_ ≠ (.slice Ao14 t322.length co14 : Value).ownBlock) ∧ some k_ ≠ (.slice Ao16 t327.length co16 : Value).ownBlock)) (n := t330.length) (c := co19) ?_).2.2; exact (by (with_reducible repeat (first | apply rA_ | apply rN_ | apply rD_)); exact (Kd.R_mono (Kd.R_far (p := ⟨gb337, 1, none⟩) (Kd.R_far (p := ⟨gb337, 0, none⟩) (Kd.R_types HO332.out BK337.out (by decide)) (fun _ hk => hk.2) (.slice Ao19 t330.length co19)) (fun _ hk => hk.2) (.slice Ao22 t333.length co22)) (fun _ h_ => h_.1)))); (case side2 => exact (Kd.R_reads' HO332.out).2.1); (case side3 => refine (Kd.R_reads' (e := 3) (base := w.heap.size) (ok := fun k_ => ((((some k_ ≠ (.slice Ao19 t330.length co19 : Value).ownBlock ∧ some k_ ≠ (.slice Ao9 t316.length co9 : Value).ownBlock) ∧ some k_ ≠ (.slice Ao12 t319.length co12 : Value).ownBlock) ∧ some k_ ≠ (.slice Ao14 t322.length co14 : Value).ownBlock) ∧ some k_ ≠ (.slice Ao16 t327.length co16 : Value).ownBlock)) (n := t333.length) (c := co22) ?_).2.2; exact (by (with_reducible repeat (first | apply rA_ | apply rN_ | apply rD_)); exact (Kd.R_mono (Kd.R_far (p := ⟨gb337, 1, none⟩) (Kd.R_far (p := ⟨gb337, 0, none⟩) (Kd.R_types HO335.out BK337.out (by decide)) (fun _ hk => hk.2) (.slice Ao19 t330.length co19)) (fun _ hk => hk.2) (.slice Ao22 t333.length co22)) (fun _ h_ => h_.1)))); (case side4 => exact (Kd.R_reads' HO335.out).2.1); (case side5 => refine (Kd.R_reads' (e := 3) (base := w.heap.size) (ok := fun k_ => ((((some k_ ≠ (.slice Ao14 t322.length co14 : Value).ownBlock ∧ some k_ ≠ (.slice Ao9 t316.length co9 : Value).ownBlock) ∧ some k_ ≠ (.slice Ao16 t327.length co16 : Value).ownBlock) ∧ some k_ ≠ (.slice Ao19 t330.length co19 : Value).ownBlock) ∧ some k_ ≠ (.slice Ao22 t333.length co22 : Value).ownBlock)) (n := t319.length) (c := co12) ?_).2.2; exact (by (with_reducible repeat (first | apply rA_ | apply rN_ | apply rD_)); exact (Kd.R_mono (Kd.R_far (p := ⟨gb337, 1, none⟩) (Kd.R_far (p := ⟨gb337, 0, none⟩) (Kd.R_types HO321.out BK337.out (by decide)) (fun _ hk => hk.2) (.slice Ao19 t330.length co19)) (fun _ hk => hk.2) (.slice Ao22 t333.length co22)) (fun _ h_ => h_.1)))); (case side6 => exact (Kd.R_reads' HO321.out).2.1); (case side7 => refine (Kd.R_reads' (e := 3) (base := w.heap.size) (ok := fun k_ => ((((some k_ ≠ (.slice Ao12 t319.length co12 : Value).ownBlock ∧ some k_ ≠ (.slice Ao9 t316.length co9 : Value).ownBlock) ∧ some k_ ≠ (.slice Ao16 t327.length co16 : Value).ownBlock) ∧ some k_ ≠ (.slice Ao19 t330.length co19 : Value).ownBlock) ∧ some k_ ≠ (.slice Ao22 t333.length co22 : Value).ownBlock)) (n := t322.length) (c := co14) ?_).2.2; exact (by (with_reducible repeat (first | apply rA_ | apply rN_ | apply rD_)); exact (Kd.R_mono (Kd.R_far (p := ⟨gb337, 1, none⟩) (Kd.R_far (p := ⟨gb337, 0, none⟩) (Kd.R_types HO324.out BK337.out (by decide)) (fun _ hk => hk.2) (.slice Ao19 t330.length co19)) (fun _ hk => hk.2) (.slice Ao22 t333.length co22)) (fun _ h_ => h_.1)))); (case side8 => exact (Kd.R_reads' HO324.out).2.1); rintro e w28 ⟨rfl, hb⟩; refine ⟨_, rfl, ?_⟩; have n0_ := aS_ (Kd.R_below (by (with_reducible repeat (first | apply rA_ | apply rN_ | apply rD_)); exact (Kd.R_mono (Kd.R_far (p := ⟨gb337, 1, none⟩) (Kd.R_far (p := ⟨gb337, 0, none⟩) (Kd.R_types HO318.out BK337.out (by decide)) (fun _ hk => hk.2) (.slice Ao19 t330.length co19)) (fun _ hk => hk.2) (.slice Ao22 t333.length co22)) (fun _ h_ => h_.1))) hb); have n1_ := aS_ (Kd.R_below (by (with_reducible repeat (first | apply rA_ | apply rN_ | apply rD_)); exact (Kd.R_mono (Kd.R_far (p := ⟨gb337, 1, none⟩) (Kd.R_far (p := ⟨gb337, 0, none⟩) (Kd.R_types HO321.out BK337.out (by decide)) (fun _ hk => hk.2) (.slice Ao19 t330.length co19)) (fun _ hk => hk.2) (.slice Ao22 t333.length co22)) (fun _ h_ => h_.1))) hb); have n2_ := aS_ (Kd.R_below (by (with_reducible repeat (first | apply rA_ | apply rN_ | apply rD_)); exact (Kd.R_mono (Kd.R_far (p := ⟨gb337, 1, none⟩) (Kd.R_far (p := ⟨gb337, 0, none⟩) (Kd.R_types HO324.out BK337.out (by decide)) (fun _ hk => hk.2) (.slice Ao19 t330.length co19)) (fun _ hk => hk.2) (.slice Ao22 t333.length co22)) (fun _ h_ => h_.1))) hb); have n3_ := aS_ (Kd.R_below (by (with_reducible repeat (first | apply rA_ | apply rN_ | apply rD_)); exact (Kd.R_mono (Kd.R_far (p := ⟨gb337, 1, none⟩) (Kd.R_far (p := ⟨gb337, 0, none⟩) (Kd.R_types HO329.out BK337.out (by decide)) (fun _ hk => hk.2) (.slice Ao19 t330.length co19)) (fun _ hk => hk.2) (.slice Ao22 t333.length co22)) (fun _ h_ => h_.1))) hb); have n4_ := aS_ (Kd.R_below (by (with_reducible repeat (first | apply rA_ | apply rN_ | apply rD_)); exact (Kd.R_mono (Kd.R_far (p := ⟨gb337, 1, none⟩) (Kd.R_far (p := ⟨gb337, 0, none⟩) (Kd.R_types HO332.out BK337.out (by decide)) (fun _ hk => hk.2) (.slice Ao19 t330.length co19)) (fun _ hk => hk.2) (.slice Ao22 t333.length co22)) (fun _ h_ => h_.1))) hb); have n5_ := aS_ (Kd.R_below (by (with_reducible repeat (first | apply rA_ | apply rN_ | apply rD_)); exact (Kd.R_mono (Kd.R_far (p := ⟨gb337, 1, none⟩) (Kd.R_far (p := ⟨gb337, 0, none⟩) (Kd.R_types HO335.out BK337.out (by decide)) (fun _ hk => hk.2) (.slice Ao19 t330.length co19)) (fun _ hk => hk.2) (.slice Ao22 t333.length co22)) (fun _ h_ => h_.1))) hb); have n6_ := aS_ (blk_below (g := gb326) (o := .cells #[.slice Ao12 t319.length co12, .slice Ao14 t322.length co14] 24 (0, 0)) (by (with_reducible repeat (first | refine kN_ ?_ _ | refine kD_ ?_ | refine kA_ ?_ _)); refine blk_far ?_ NB326_337.out _; (with_reducible repeat (first | refine kN_ ?_ _ | refine kD_ ?_ | refine kA_ ?_ _)); refine blk_far ?_ NB326_337.out _; (with_reducible repeat (first | refine kN_ ?_ _ | refine kD_ ?_ | refine kA_ ?_ _)); exact BK326.out) hb); have n7_ := aS_ (blk_below (g := gb337) (o := .cells #[.slice Ao19 t330.length co19, .slice Ao22 t333.length co22] 24 (0, 0)) (by (with_reducible repeat (first | refine kN_ ?_ _ | refine kD_ ?_ | refine kA_ ?_ _)); refine blk_put (cs := #[.slice Ao19 t330.length co19, .slice none 0 0]) ?_ 1 _ rfl; (with_reducible repeat (first | refine kN_ ?_ _ | refine kD_ ?_ | refine kA_ ?_ _)); refine blk_put (cs := #[.slice none 0 0, .slice none 0 0]) ?_ 0 _ rfl; (with_reducible repeat (first | refine kN_ ?_ _ | refine kD_ ?_ | refine kA_ ?_ _)); exact BK337.out) hb); have n8_ := aS_ (below_step (by repeat (first | (with_reducible first | exact HB.out | apply bA_ | apply pN_ | apply bD_ | refine bS_ ?_ GE326.out | refine bS_ ?_ GE337.out) | exact HB.out)) hb); clear HO318; clear HO321; clear HO324; clear HO329; clear HO332; clear HO335; clear BK326; clear BK337; clear HB; have HO318 := n0_; have HO321 := n1_; have HO324 := n2_; have HO329 := n3_; have HO332 := n4_; have HO335 := n5_; have BK326 := n6_; have BK337 := n7_; have HB := n8_; clear n0_ n1_ n2_ n3_ n4_ n5_ n6_ n7_ n8_; (try clear hb); (try clear hb2); (try clear hk); (try clear hi)))
    go_meet
    case rel => exact ⟨_, ((t336 != t325)), (by first | rfl | (simp; done) | (simp [*]; done)), H', ⟨by first | omega | exact Nat.le_refl _⟩, ⟨by (with_reducible repeat (first | apply rA_ | apply rN_ | apply rD_)); exact Kd.R_mono HO329.out (fun _ hk => ⟨hk.1.1.1.2, ⟨hk.1.1.2, ⟨hk.1.2, hk.2⟩⟩⟩)⟩, ⟨by (with_reducible repeat (first | apply rA_ | apply rN_ | apply rD_)); exact Kd.R_mono HO321.out (fun _ hk => ⟨hk.1.1.2, ⟨hk.1.1.1.1, ⟨hk.1.2, hk.2⟩⟩⟩)⟩, ⟨by (with_reducible repeat (first | apply rA_ | apply rN_ | apply rD_)); exact Kd.R_mono HO324.out (fun _ hk => ⟨hk.1.1.2, ⟨hk.1.1.1.1, ⟨hk.1.2, hk.2⟩⟩⟩)⟩, ⟨by (with_reducible repeat (first | apply rA_ | apply rN_ | apply rD_)); exact Kd.R_mono HO332.out (fun _ hk => ⟨hk.2, ⟨hk.1.1.2, ⟨hk.1.2, hk.1.1.1.1⟩⟩⟩)⟩, ⟨by (with_reducible repeat (first | apply rA_ | apply rN_ | apply rD_)); exact Kd.R_mono HO335.out (fun _ hk => ⟨hk.2, ⟨hk.1.1.2, ⟨hk.1.2, hk.1.1.1.1⟩⟩⟩)⟩, ⟨by (with_reducible repeat (first | refine kN_ ?_ _ | refine kD_ ?_ | refine kA_ ?_ _)); exact BK326.out⟩, ⟨by (with_reducible repeat (first | refine kN_ ?_ _ | refine kD_ ?_ | refine kA_ ?_ _)); exact BK337.out⟩, ⟨by repeat (first | (with_reducible first | exact HB.out | apply bA_ | apply pN_ | apply bD_ | refine bS_ ?_ GE326.out | refine bS_ ?_ GE337.out) | exact HB.out)⟩⟩
   ·replace c24 := Bool.eq_false_iff.mpr c24
    subst c24
    rw [if_neg (show ¬ (false = true) by decide)] at H
    have H' := aS_ H
    clear H
    have hnb29 := NB337_326.out
    have hnc29 := NB326_337.out
    have hcz30_0 : w18.cell? ⟨gb337, 0, none⟩ = some (.slice none 0 0) := (blk_cell BK337.out 0).trans rfl
    have hcz30_1 : w18.cell? ⟨gb337, 1, none⟩ = some (.slice none 0 0) := (blk_cell BK337.out 1).trans rfl
    have hfz30_0 := blk_frozen BK337.out 0
    have hfz30_1 := blk_frozen BK337.out 1
    have hcz31_0 : w18.cell? ⟨gb326, 0, none⟩ = some (.slice Ao12 t319.length co12) := (blk_cell BK326.out 0).trans rfl
    have hcz31_1 : w18.cell? ⟨gb326, 1, none⟩ = some (.slice Ao14 t322.length co14) := (blk_cell BK326.out 1).trans rfl
    have hfz31_0 := blk_frozen BK326.out 0
    have hfz31_1 := blk_frozen BK326.out 1
    go_wp2_with (first | ((with_reducible refine gate_callee (f := 10) rfl ?_); refine goesL_ (some 31) rfl rfl Try.func10 (by kernel_rfl) rfl #[.agg #[.slice Ao19 t330.length co19, .slice Ao22 t333.length co22], .agg #[.slice Ao12 t319.length co12, .slice Ao14 t322.length co14]] rfl (by (try simp only [List.map_toArray, List.map_cons, List.map_nil]); first | done | rfl | (simp only [List.length_drop, List.length_take]; rfl)) ?_; (with_reducible refine (laws_eqRegion.calls k _ _ t330 _ _ t333 _ _ t319 _ _ t322 false _ ?side1 ?side2 ?side3 ?side4 ?side5 ?side6 ?side7 ?side8 A23.out).mono ?_); (case side1 => refine (Kd.R_reads' (e := 3) (base := w.heap.size) (ok := fun k_ => ((((some k_ ≠ (.slice Ao22 t333.length co22 : Value).ownBlock ∧ some k_ ≠ (.slice Ao9 t316.length co9 : Value).ownBlock) ∧ some k_ ≠ (.slice Ao12 t319.length co12 : Value).ownBlock) ∧ some k_ ≠ (.slice Ao14 t322.length co14 : Value).ownBlock) ∧ some k_ ≠ (.slice Ao16 t327.length co16 : Value).ownBlock)) (n := t330.length) (c := co19) ?_).2.2; exact (by (with_reducible repeat (first | apply rA_ | apply rN_ | apply rD_)); exact (Kd.R_mono (Kd.R_far (p := ⟨gb337, 1, none⟩) (Kd.R_far (p := ⟨gb337, 0, none⟩) (Kd.R_types HO332.out BK337.out (by decide)) (fun _ hk => hk.2) (.slice Ao19 t330.length co19)) (fun _ hk => hk.2) (.slice Ao22 t333.length co22)) (fun _ h_ => h_.1)))); (case side2 => exact (Kd.R_reads' HO332.out).2.1); (case side3 => refine (Kd.R_reads' (e := 3) (base := w.heap.size) (ok := fun k_ => ((((some k_ ≠ (.slice Ao19 t330.length co19 : Value).ownBlock ∧ some k_ ≠ (.slice Ao9 t316.length co9 : Value).ownBlock) ∧ some k_ ≠ (.slice Ao12 t319.length co12 : Value).ownBlock) ∧ some k_ ≠ (.slice Ao14 t322.length co14 : Value).ownBlock) ∧ some k_ ≠ (.slice Ao16 t327.length co16 : Value).ownBlock)) (n := t333.length) (c := co22) ?_).2.2; exact (by (with_reducible repeat (first | apply rA_ | apply rN_ | apply rD_)); exact (Kd.R_mono (Kd.R_far (p := ⟨gb337, 1, none⟩) (Kd.R_far (p := ⟨gb337, 0, none⟩) (Kd.R_types HO335.out BK337.out (by decide)) (fun _ hk => hk.2) (.slice Ao19 t330.length co19)) (fun _ hk => hk.2) (.slice Ao22 t333.length co22)) (fun _ h_ => h_.1)))); (case side4 => exact (Kd.R_reads' HO335.out).2.1); (case side5 => refine (Kd.R_reads' (e := 3) (base := w.heap.size) (ok := fun k_ => ((((some k_ ≠ (.slice Ao14 t322.length co14 : Value).ownBlock ∧ some k_ ≠ (.slice Ao9 t316.length co9 : Value).ownBlock) ∧ some k_ ≠ (.slice Ao16 t327.length co16 : Value).ownBlock) ∧ some k_ ≠ (.slice Ao19 t330.length co19 : Value).ownBlock) ∧ some k_ ≠ (.slice Ao22 t333.length co22 : Value).ownBlock)) (n := t319.length) (c := co12) ?_).2.2; exact (by (with_reducible repeat (first | apply rA_ | apply rN_ | apply rD_)); exact (Kd.R_mono (Kd.R_far (p := ⟨gb337, 1, none⟩) (Kd.R_far (p := ⟨gb337, 0, none⟩) (Kd.R_types HO321.out BK337.out (by decide)) (fun _ hk => hk.2) (.slice Ao19 t330.length co19)) (fun _ hk => hk.2) (.slice Ao22 t333.length co22)) (fun _ h_ => h_.1)))); (case side6 => exact (Kd.R_reads' HO321.out).2.1); (case side7 => refine (Kd.R_reads' (e := 3) (base := w.heap.size) (ok := fun k_ => ((((some k_ ≠ (.slice Ao12 t319.length co12 : Value).ownBlock ∧ some k_ ≠ (.slice Ao9 t316.length co9 : Value).ownBlock) ∧ some k_ ≠ (.slice Ao16 t327.length co16 : Value).ownBlock) ∧ some k_ ≠ (.slice Ao19 t330.length co19 : Value).ownBlock) ∧ some k_ ≠ (.slice Ao22 t333.length co22 : Value).ownBlock)) (n := t322.length) (c := co14) ?_).2.2; exact (by (with_reducible repeat (first | apply rA_ | apply rN_ | apply rD_)); exact (Kd.R_mono (Kd.R_far (p := ⟨gb337, 1, none⟩) (Kd.R_far (p := ⟨gb337, 0, none⟩) (Kd.R_types HO324.out BK337.out (by decide)) (fun _ hk => hk.2) (.slice Ao19 t330.length co19)) (fun _ hk => hk.2) (.slice Ao22 t333.length co22)) (fun _ h_ => h_.1)))); (case side8 => exact (Kd.R_reads' HO324.out).2.1); rintro e w32 ⟨rfl, hb⟩; refine ⟨_, rfl, ?_⟩; have n0_ := aS_ (Kd.R_below (by (with_reducible repeat (first | apply rA_ | apply rN_ | apply rD_)); exact (Kd.R_mono (Kd.R_far (p := ⟨gb337, 1, none⟩) (Kd.R_far (p := ⟨gb337, 0, none⟩) (Kd.R_types HO318.out BK337.out (by decide)) (fun _ hk => hk.2) (.slice Ao19 t330.length co19)) (fun _ hk => hk.2) (.slice Ao22 t333.length co22)) (fun _ h_ => h_.1))) hb); have n1_ := aS_ (Kd.R_below (by (with_reducible repeat (first | apply rA_ | apply rN_ | apply rD_)); exact (Kd.R_mono (Kd.R_far (p := ⟨gb337, 1, none⟩) (Kd.R_far (p := ⟨gb337, 0, none⟩) (Kd.R_types HO321.out BK337.out (by decide)) (fun _ hk => hk.2) (.slice Ao19 t330.length co19)) (fun _ hk => hk.2) (.slice Ao22 t333.length co22)) (fun _ h_ => h_.1))) hb); have n2_ := aS_ (Kd.R_below (by (with_reducible repeat (first | apply rA_ | apply rN_ | apply rD_)); exact (Kd.R_mono (Kd.R_far (p := ⟨gb337, 1, none⟩) (Kd.R_far (p := ⟨gb337, 0, none⟩) (Kd.R_types HO324.out BK337.out (by decide)) (fun _ hk => hk.2) (.slice Ao19 t330.length co19)) (fun _ hk => hk.2) (.slice Ao22 t333.length co22)) (fun _ h_ => h_.1))) hb); have n3_ := aS_ (Kd.R_below (by (with_reducible repeat (first | apply rA_ | apply rN_ | apply rD_)); exact (Kd.R_mono (Kd.R_far (p := ⟨gb337, 1, none⟩) (Kd.R_far (p := ⟨gb337, 0, none⟩) (Kd.R_types HO329.out BK337.out (by decide)) (fun _ hk => hk.2) (.slice Ao19 t330.length co19)) (fun _ hk => hk.2) (.slice Ao22 t333.length co22)) (fun _ h_ => h_.1))) hb); have n4_ := aS_ (Kd.R_below (by (with_reducible repeat (first | apply rA_ | apply rN_ | apply rD_)); exact (Kd.R_mono (Kd.R_far (p := ⟨gb337, 1, none⟩) (Kd.R_far (p := ⟨gb337, 0, none⟩) (Kd.R_types HO332.out BK337.out (by decide)) (fun _ hk => hk.2) (.slice Ao19 t330.length co19)) (fun _ hk => hk.2) (.slice Ao22 t333.length co22)) (fun _ h_ => h_.1))) hb); have n5_ := aS_ (Kd.R_below (by (with_reducible repeat (first | apply rA_ | apply rN_ | apply rD_)); exact (Kd.R_mono (Kd.R_far (p := ⟨gb337, 1, none⟩) (Kd.R_far (p := ⟨gb337, 0, none⟩) (Kd.R_types HO335.out BK337.out (by decide)) (fun _ hk => hk.2) (.slice Ao19 t330.length co19)) (fun _ hk => hk.2) (.slice Ao22 t333.length co22)) (fun _ h_ => h_.1))) hb); have n6_ := aS_ (blk_below (g := gb326) (o := .cells #[.slice Ao12 t319.length co12, .slice Ao14 t322.length co14] 24 (0, 0)) (by (with_reducible repeat (first | refine kN_ ?_ _ | refine kD_ ?_ | refine kA_ ?_ _)); refine blk_far ?_ NB326_337.out _; (with_reducible repeat (first | refine kN_ ?_ _ | refine kD_ ?_ | refine kA_ ?_ _)); refine blk_far ?_ NB326_337.out _; (with_reducible repeat (first | refine kN_ ?_ _ | refine kD_ ?_ | refine kA_ ?_ _)); exact BK326.out) hb); have n7_ := aS_ (blk_below (g := gb337) (o := .cells #[.slice Ao19 t330.length co19, .slice Ao22 t333.length co22] 24 (0, 0)) (by (with_reducible repeat (first | refine kN_ ?_ _ | refine kD_ ?_ | refine kA_ ?_ _)); refine blk_put (cs := #[.slice Ao19 t330.length co19, .slice none 0 0]) ?_ 1 _ rfl; (with_reducible repeat (first | refine kN_ ?_ _ | refine kD_ ?_ | refine kA_ ?_ _)); refine blk_put (cs := #[.slice none 0 0, .slice none 0 0]) ?_ 0 _ rfl; (with_reducible repeat (first | refine kN_ ?_ _ | refine kD_ ?_ | refine kA_ ?_ _)); exact BK337.out) hb); have n8_ := aS_ (below_step (by repeat (first | (with_reducible first | exact HB.out | apply bA_ | apply pN_ | apply bD_ | refine bS_ ?_ GE326.out | refine bS_ ?_ GE337.out) | exact HB.out)) hb); clear HO318; clear HO321; clear HO324; clear HO329; clear HO332; clear HO335; clear BK326; clear BK337; clear HB; have HO318 := n0_; have HO321 := n1_; have HO324 := n2_; have HO329 := n3_; have HO332 := n4_; have HO335 := n5_; have BK326 := n6_; have BK337 := n7_; have HB := n8_; clear n0_ n1_ n2_ n3_ n4_ n5_ n6_ n7_ n8_; (try clear hb); (try clear hb2); (try clear hk); (try clear hi)))
    go_meet
    case rel => exact ⟨_, (true), (by first | rfl | (simp; done) | (simp [*]; done)), H', ⟨by first | omega | exact Nat.le_refl _⟩, ⟨by (with_reducible repeat (first | apply rA_ | apply rN_ | apply rD_)); exact Kd.R_mono HO329.out (fun _ hk => ⟨hk.1.1.1.2, ⟨hk.1.1.2, ⟨hk.1.2, hk.2⟩⟩⟩)⟩, ⟨by (with_reducible repeat (first | apply rA_ | apply rN_ | apply rD_)); exact Kd.R_mono HO321.out (fun _ hk => ⟨hk.1.1.2, ⟨hk.1.1.1.1, ⟨hk.1.2, hk.2⟩⟩⟩)⟩, ⟨by (with_reducible repeat (first | apply rA_ | apply rN_ | apply rD_)); exact Kd.R_mono HO324.out (fun _ hk => ⟨hk.1.1.2, ⟨hk.1.1.1.1, ⟨hk.1.2, hk.2⟩⟩⟩)⟩, ⟨by (with_reducible repeat (first | apply rA_ | apply rN_ | apply rD_)); exact Kd.R_mono HO332.out (fun _ hk => ⟨hk.2, ⟨hk.1.1.2, ⟨hk.1.2, hk.1.1.1.1⟩⟩⟩)⟩, ⟨by (with_reducible repeat (first | apply rA_ | apply rN_ | apply rD_)); exact Kd.R_mono HO335.out (fun _ hk => ⟨hk.2, ⟨hk.1.1.2, ⟨hk.1.2, hk.1.1.1.1⟩⟩⟩)⟩, ⟨by (with_reducible repeat (first | refine kN_ ?_ _ | refine kD_ ?_ | refine kA_ ?_ _)); exact BK326.out⟩, ⟨by (with_reducible repeat (first | refine kN_ ?_ _ | refine kD_ ?_ | refine kA_ ?_ _)); exact BK337.out⟩, ⟨by repeat (first | (with_reducible first | exact HB.out | apply bA_ | apply pN_ | apply bD_ | refine bS_ ?_ GE326.out | refine bS_ ?_ GE337.out) | exact HB.out)⟩⟩
  case rest =>
   clear HC7
   try clear c1
   try clear c2
   try clear c2b0
   try clear c2b1
   try clear p2
   try clear c4
   try clear c10
   try clear c13
   try clear c14
   try clear c15
   try clear c20
   try clear c24
   try clear c25
   try clear c29
   try clear hcz13_0
   try clear hcz13_1
   try clear hcz21_0
   try clear hcz21_1
   try clear hcz26_0
   try clear hcz26_1
   try clear hcz27_0
   try clear hcz27_1
   try clear hcz30_0
   try clear hcz30_1
   try clear hcz31_0
   try clear hcz31_1
   try clear hfz13_0
   try clear hfz13_1
   try clear hfz21_0
   try clear hfz21_1
   try clear hfz26_0
   try clear hfz26_1
   try clear hfz27_0
   try clear hfz27_1
   try clear hfz30_0
   try clear hfz30_1
   try clear hfz31_0
   try clear hfz31_1
   obtain ⟨kq, x37_6, rfl, HA, HJ6, HO_5, HO_327000, HO_327001, HO_338000, HO_338001, BK326, BK337, HB⟩ := hcut
   cases kq with
   | zero => exact absurd HA.out (by simp [laws_FnExactRegionOfLabel.j0])
   | succ kj6 =>
    have H := HA.out
    clear HA
    simp only [laws_FnExactRegionOfLabel.j0] at H
    by_cases c33 : x37_6 = true
    ·subst c33
     rw [if_pos rfl] at H
     obtain rfl := Option.some.inj H
     go_wp2
     go_ret
     exact ⟨by first | rfl | (simp [errW_none, errW_some] <;> rfl) | (simp [*, errW_none, errW_some] <;> rfl), by repeat (first | (with_reducible first | exact HB.out | apply bA_ | apply pN_ | apply bD_ | refine bS_ ?_ GE326.out | refine bS_ ?_ GE337.out) | exact HB.out)⟩
    ·replace c33 := Bool.eq_false_iff.mpr c33
     subst c33
     rw [if_neg (show ¬ (false = true) by decide)] at H
     replace H := Option.bind_eq_some_iff.mp H
     obtain ⟨t339, A340, H⟩ := H
     have A34 := aS_ A340
     clear A340
     replace H := Option.bind_eq_some_iff.mp H
     obtain ⟨t342, A350, H⟩ := H
     have A35 := aS_ A350
     clear A350
     by_cases c36 : t342 = true
     ·subst c36
      rw [if_pos rfl] at H
      replace H := Option.bind_eq_some_iff.mp H
      obtain ⟨⟨t343, t344⟩, A370, H⟩ := H
      have A37 := aS_ A370
      clear A370
      have HC38 := aS_ H
      clear H
      go_upto_region 12 with (first | ((with_reducible refine gate_callee (f := 14) rfl ?_); refine goesL_ (some 40) rfl rfl Try.func14 (by kernel_rfl) rfl #[.slice A0 l0.length c0] rfl (by (try simp only [List.map_toArray, List.map_cons, List.map_nil]); first | done | rfl | (simp only [List.length_drop, List.length_take]; rfl)) ?_; (with_reducible refine (laws_toIntS.calls kj6 _ _ l0 t339 _ ?side1 ?side2 A34.out).mono ?_); (case side1 => repeat (first | exact (Kd.C_below HR0.out HB.out) | (with_reducible refine Kd.C_alloc ?_ _) | (with_reducible refine Kd.C_drewN ?_ _) | (with_reducible refine Kd.C_drew ?_))); (case side2 => exact HC0.out); rintro e w39 ⟨v340, rfl, ho0, hb⟩; refine ⟨_, rfl, ?_⟩; have n0_ := aS_ (Kd.R_elder' (by (with_reducible repeat (first | apply rA_ | apply rN_ | apply rD_)); exact HO_5.out) (Kd.R_base ho0) hb); have n1_ := aS_ (Kd.R_elder' (by (with_reducible repeat (first | apply rA_ | apply rN_ | apply rD_)); exact HO_327000.out) (Kd.R_base ho0) hb); have n2_ := aS_ (Kd.R_elder' (by (with_reducible repeat (first | apply rA_ | apply rN_ | apply rD_)); exact HO_327001.out) (Kd.R_base ho0) hb); have n3_ := aS_ (Kd.R_elder' (by (with_reducible repeat (first | apply rA_ | apply rN_ | apply rD_)); exact HO_338000.out) (Kd.R_base ho0) hb); have n4_ := aS_ (Kd.R_elder' (by (with_reducible repeat (first | apply rA_ | apply rN_ | apply rD_)); exact HO_338001.out) (Kd.R_base ho0) hb); have n5_ := aS_ (Kd.R_lower (Kd.R_new' (Kd.R_new' (Kd.R_new' (Kd.R_new' (Kd.R_new' ho0 (Kd.R_lt (by (with_reducible repeat (first | apply rA_ | apply rN_ | apply rD_)); exact HO_5.out))) (Kd.R_lt (by (with_reducible repeat (first | apply rA_ | apply rN_ | apply rD_)); exact HO_327000.out))) (Kd.R_lt (by (with_reducible repeat (first | apply rA_ | apply rN_ | apply rD_)); exact HO_327001.out))) (Kd.R_lt (by (with_reducible repeat (first | apply rA_ | apply rN_ | apply rD_)); exact HO_338000.out))) (Kd.R_lt (by (with_reducible repeat (first | apply rA_ | apply rN_ | apply rD_)); exact HO_338001.out))) (below_size (by repeat (first | (with_reducible first | exact HB.out | apply bA_ | apply pN_ | apply bD_ | refine bS_ ?_ GE326.out | refine bS_ ?_ GE337.out) | exact HB.out)))); have n6_ := aS_ (blk_below (g := gb326) (o := .cells #[.slice Ao12 t319.length co12, .slice Ao14 t322.length co14] 24 (0, 0)) (by (with_reducible repeat (first | refine kN_ ?_ _ | refine kD_ ?_ | refine kA_ ?_ _)); exact BK326.out) hb); have n7_ := aS_ (blk_below (g := gb337) (o := .cells #[.slice Ao19 t330.length co19, .slice Ao22 t333.length co22] 24 (0, 0)) (by (with_reducible repeat (first | refine kN_ ?_ _ | refine kD_ ?_ | refine kA_ ?_ _)); exact BK337.out) hb); have n8_ := aS_ (below_step (by repeat (first | (with_reducible first | exact HB.out | apply bA_ | apply pN_ | apply bD_ | refine bS_ ?_ GE326.out | refine bS_ ?_ GE337.out) | exact HB.out)) hb); clear HO_5; clear HO_327000; clear HO_327001; clear HO_338000; clear HO_338001; clear BK326; clear BK337; clear HB; have HO_5 := n0_; have HO_327000 := n1_; have HO_327001 := n2_; have HO_338000 := n3_; have HO_338001 := n4_; have HO341 := n5_; have BK326 := n6_; have BK337 := n7_; have HB := n8_; clear n0_ n1_ n2_ n3_ n4_ n5_ n6_ n7_ n8_; (try clear hb); (try clear hb2); (try clear hk); (try clear hi); (try clear ho0); obtain ⟨Ao40, co40, eo40⟩ := Kd.R_slice HO341.out; subst eo40) | ((with_reducible refine gate_callee (f := 16) rfl ?_); refine goesL_ (some 41) rfl rfl Try.func16 (by kernel_rfl) rfl #[.slice Ao16 t327.length co16, .slice Ao40 t339.length co40] rfl (by (try simp only [List.map_toArray, List.map_cons, List.map_nil]); first | done | rfl | (simp only [List.length_drop, List.length_take]; rfl)) ?_; (with_reducible refine (laws_eqIntS.calls kj6 _ _ t327 _ _ t339 true _ ?side1 ?side2 ?side3 ?side4 A35.out).mono ?_); (case side1 => repeat (first | exact (Kd.R_reads' HO_5.out).2.2 | (with_reducible refine Kd.C_alloc ?_ _) | (with_reducible refine Kd.C_drewN ?_ _) | (with_reducible refine Kd.C_drew ?_))); (case side2 => exact (Kd.R_reads' HO_5.out).2.1); (case side3 => repeat (first | exact (Kd.R_reads' HO341.out).2.2 | (with_reducible refine Kd.C_alloc ?_ _) | (with_reducible refine Kd.C_drewN ?_ _) | (with_reducible refine Kd.C_drew ?_))); (case side4 => exact (Kd.R_reads' HO341.out).2.1); rintro e w' ⟨rfl, ⟨nd, rfl⟩⟩; refine ⟨_, rfl, ?_⟩) | ((with_reducible refine gate_callee (f := 17) rfl ?_); refine goesL_ (some 45) rfl rfl Try.func17 (by kernel_rfl) rfl #[.slice Ao16 t327.length co16, .int .i64 1] rfl (by (try simp only [List.map_toArray, List.map_cons, List.map_nil]); first | done | rfl | (simp only [List.length_drop, List.length_take]; rfl)) ?_; (with_reducible refine (laws_markIntS.calls kj6 (fun k_ => some k_ = (.slice Ao16 t327.length co16 : Value).ownBlock) (.slice Ao16 t327.length co16) t327 1 t343 t344 w _ ?side1 ?side2 A37.out).mono ?_); (case side1 => repeat (first | (with_reducible first | exact HB.out | apply bA_ | apply pN_ | apply bD_ | refine bS_ ?_ GE326.out | refine bS_ ?_ GE337.out) | exact HB.out)); (case side2 => exact Kd.R_tight rfl HO_5.out); rintro e w41 ⟨rfl, hy0, hb, hkp⟩; refine ⟨_, rfl, ?_⟩; have n0_ := aS_ (Kd.R_reok rfl hy0 (fun k_ e_ => HO_5.out.1 k_ e_)); have n1_ := aS_ (Kd.R_mono (ok' := fun k_ => some k_ ≠ (.slice Ao16 t327.length co16 : Value).ownBlock ∧ some k_ ≠ (.slice Ao14 t322.length co14 : Value).ownBlock ∧ some k_ ≠ (.slice Ao19 t330.length co19 : Value).ownBlock ∧ some k_ ≠ (.slice Ao22 t333.length co22 : Value).ownBlock ∧ some k_ ≠ (.slice Ao40 t339.length co40 : Value).ownBlock) (Kd.R_keptB (HO_327000.out) hkp (fun k_ hk_ hs_ => (hk_.1.1) hs_)) (fun k_ hk_ => ⟨hk_.1.1.1, hk_.1.1.2.1, hk_.1.1.2.2.1, hk_.1.1.2.2.2, hk_.1.2⟩)); have n2_ := aS_ (Kd.R_mono (ok' := fun k_ => some k_ ≠ (.slice Ao16 t327.length co16 : Value).ownBlock ∧ some k_ ≠ (.slice Ao12 t319.length co12 : Value).ownBlock ∧ some k_ ≠ (.slice Ao19 t330.length co19 : Value).ownBlock ∧ some k_ ≠ (.slice Ao22 t333.length co22 : Value).ownBlock ∧ some k_ ≠ (.slice Ao40 t339.length co40 : Value).ownBlock) (Kd.R_keptB (HO_327001.out) hkp (fun k_ hk_ hs_ => (hk_.1.1) hs_)) (fun k_ hk_ => ⟨hk_.1.1.1, hk_.1.1.2.1, hk_.1.1.2.2.1, hk_.1.1.2.2.2, hk_.1.2⟩)); have n3_ := aS_ (Kd.R_mono (ok' := fun k_ => some k_ ≠ (.slice Ao16 t327.length co16 : Value).ownBlock ∧ some k_ ≠ (.slice Ao12 t319.length co12 : Value).ownBlock ∧ some k_ ≠ (.slice Ao14 t322.length co14 : Value).ownBlock ∧ some k_ ≠ (.slice Ao22 t333.length co22 : Value).ownBlock ∧ some k_ ≠ (.slice Ao40 t339.length co40 : Value).ownBlock) (Kd.R_keptB (HO_338000.out) hkp (fun k_ hk_ hs_ => (hk_.1.1) hs_)) (fun k_ hk_ => ⟨hk_.1.1.1, hk_.1.1.2.1, hk_.1.1.2.2.1, hk_.1.1.2.2.2, hk_.1.2⟩)); have n4_ := aS_ (Kd.R_mono (ok' := fun k_ => some k_ ≠ (.slice Ao16 t327.length co16 : Value).ownBlock ∧ some k_ ≠ (.slice Ao12 t319.length co12 : Value).ownBlock ∧ some k_ ≠ (.slice Ao14 t322.length co14 : Value).ownBlock ∧ some k_ ≠ (.slice Ao19 t330.length co19 : Value).ownBlock ∧ some k_ ≠ (.slice Ao40 t339.length co40 : Value).ownBlock) (Kd.R_keptB (HO_338001.out) hkp (fun k_ hk_ hs_ => (hk_.1.1) hs_)) (fun k_ hk_ => ⟨hk_.1.1.1, hk_.1.1.2.1, hk_.1.1.2.2.1, hk_.1.1.2.2.2, hk_.1.2⟩)); have n5_ := aS_ (blk_kept (by (with_reducible repeat (first | refine kN_ ?_ _ | refine kD_ ?_ | refine kA_ ?_ _)); exact BK326.out) hkp (fun hs_ => (fun e_ => (Kd.R_ne HO_5.out BK326.out (by decide)) e_) hs_)); have n6_ := aS_ (blk_kept (by (with_reducible repeat (first | refine kN_ ?_ _ | refine kD_ ?_ | refine kA_ ?_ _)); exact BK337.out) hkp (fun hs_ => (fun e_ => (Kd.R_ne HO_5.out BK337.out (by decide)) e_) hs_)); have n7_ := aS_ (Kd.R_mono (ok' := fun k_ => some k_ ≠ (.slice Ao16 t327.length co16 : Value).ownBlock ∧ some k_ ≠ (.slice Ao12 t319.length co12 : Value).ownBlock ∧ some k_ ≠ (.slice Ao14 t322.length co14 : Value).ownBlock ∧ some k_ ≠ (.slice Ao19 t330.length co19 : Value).ownBlock ∧ some k_ ≠ (.slice Ao22 t333.length co22 : Value).ownBlock) (Kd.R_keptB (HO341.out) hkp (fun k_ hk_ hs_ => (hk_.1.1.1.1.2) hs_)) (fun k_ hk_ => ⟨hk_.1.1.1.1.1.2, hk_.1.1.1.1.2, hk_.1.1.1.2, hk_.1.1.2, hk_.1.2⟩)); have n8_ := aS_ (hb); clear HO_5; clear HO_327000; clear HO_327001; clear HO_338000; clear HO_338001; clear BK326; clear BK337; clear HO341; clear HB; have HO_5 := n0_; have HO_327000 := n1_; have HO_327001 := n2_; have HO_338000 := n3_; have HO_338001 := n4_; have BK326 := n5_; have BK337 := n6_; have HO341 := n7_; have HB := n8_; clear n0_ n1_ n2_ n3_ n4_ n5_ n6_ n7_ n8_; (try clear hb); (try clear hkp); (try clear hy0)))
      (try simp only [Act.put, List.setIfInBounds_toArray, List.set_cons_zero, List.set_cons_succ])
      go_cut [58] (fun v58 wc => ∃ (kq : Nat) (x58_37 : Bool), v58 = .bool x58_37 ∧ Aside0 (laws_FnExactRegionOfLabel.j1 kq l0 t325 x58_37 t319 t322 t330 t333 = some r) ∧ Aside0 (kq ≤ kj6) ∧ Aside0 (Kd.R (Kd.int .i64) 3 wc w.heap.size (fun k_ => some k_ ≠ ((.slice Ao14 t322.length co14) : Value).ownBlock ∧ some k_ ≠ ((.slice Ao19 t330.length co19) : Value).ownBlock ∧ some k_ ≠ ((.slice Ao22 t333.length co22) : Value).ownBlock) (.slice Ao12 t319.length co12) t319) ∧ Aside0 (Kd.R (Kd.int .i64) 3 wc w.heap.size (fun k_ => some k_ ≠ ((.slice Ao12 t319.length co12) : Value).ownBlock ∧ some k_ ≠ ((.slice Ao19 t330.length co19) : Value).ownBlock ∧ some k_ ≠ ((.slice Ao22 t333.length co22) : Value).ownBlock) (.slice Ao14 t322.length co14) t322) ∧ Aside0 (Kd.R (Kd.int .i64) 3 wc w.heap.size (fun k_ => some k_ ≠ ((.slice Ao12 t319.length co12) : Value).ownBlock ∧ some k_ ≠ ((.slice Ao14 t322.length co14) : Value).ownBlock ∧ some k_ ≠ ((.slice Ao22 t333.length co22) : Value).ownBlock) (.slice Ao19 t330.length co19) t330) ∧ Aside0 (Kd.R (Kd.int .i64) 3 wc w.heap.size (fun k_ => some k_ ≠ ((.slice Ao12 t319.length co12) : Value).ownBlock ∧ some k_ ≠ ((.slice Ao14 t322.length co14) : Value).ownBlock ∧ some k_ ≠ ((.slice Ao19 t330.length co19) : Value).ownBlock) (.slice Ao22 t333.length co22) t333) ∧ Aside0 (wc.heap[gb326]? = some (.cells #[(.slice Ao12 t319.length co12), (.slice Ao14 t322.length co14)] 24 (0, 0))) ∧ Aside0 (wc.heap[gb337]? = some (.cells #[(.slice Ao19 t330.length co19), (.slice Ao22 t333.length co22)] 24 (0, 0))) ∧ Aside0 (Below w.heap.size w wc))
      case first =>
       have H := HC38.out
       clear HC38
       by_cases c42 : t343 < 0
       ·rw [if_pos c42] at H
        have c42b0 : decide (t343 < 0) = true := decide_eq_true c42
        clear c42
        (first | rw [c42b0] | (simp only [i64_w, i32_w]; rw [c42b0]) | skip)
        have H' := aS_ H
        clear H
        go_wp2
        go_meet
        case rel => exact ⟨_, (true), (by first | rfl | (simp; done) | (simp [*]; done)), H', ⟨by have := HJ6.out; first | omega | exact Nat.le_refl _⟩, ⟨by (with_reducible repeat (first | apply rA_ | apply rN_ | apply rD_)); exact Kd.R_mono HO_327000.out (fun _ hk => ⟨hk.2.1, ⟨hk.2.2.1, hk.2.2.2.1⟩⟩)⟩, ⟨by (with_reducible repeat (first | apply rA_ | apply rN_ | apply rD_)); exact Kd.R_mono HO_327001.out (fun _ hk => ⟨hk.2.1, ⟨hk.2.2.1, hk.2.2.2.1⟩⟩)⟩, ⟨by (with_reducible repeat (first | apply rA_ | apply rN_ | apply rD_)); exact Kd.R_mono HO_338000.out (fun _ hk => ⟨hk.2.1, ⟨hk.2.2.1, hk.2.2.2.1⟩⟩)⟩, ⟨by (with_reducible repeat (first | apply rA_ | apply rN_ | apply rD_)); exact Kd.R_mono HO_338001.out (fun _ hk => ⟨hk.2.1, ⟨hk.2.2.1, hk.2.2.2.1⟩⟩)⟩, ⟨by (with_reducible repeat (first | refine kN_ ?_ _ | refine kD_ ?_ | refine kA_ ?_ _)); exact BK326.out⟩, ⟨by (with_reducible repeat (first | refine kN_ ?_ _ | refine kD_ ?_ | refine kA_ ?_ _)); exact BK337.out⟩, ⟨by repeat (first | (with_reducible first | exact HB.out | apply bA_ | apply pN_ | apply bD_ | refine bS_ ?_ GE326.out | refine bS_ ?_ GE337.out) | exact HB.out)⟩⟩
       ·rw [if_neg c42] at H
        have c42b0 : decide (t343 < 0) = false := decide_eq_false c42
        clear c42
        (first | rw [c42b0] | (simp only [i64_w, i32_w]; rw [c42b0]) | skip)
        replace H := Option.bind_eq_some_iff.mp H
        obtain ⟨t345, A430, H⟩ := H
        have A43 := aS_ A430
        clear A430
        by_cases c44 : t345 = true
        ·subst c44
         rw [if_pos rfl] at H
         have H' := aS_ H
         clear H
         have hnb45 := NB337_326.out
         have hnc45 := NB326_337.out
         have hcz46_0 : w41.cell? ⟨gb337, 0, none⟩ = some (.slice Ao19 t330.length co19) := (blk_cell BK337.out 0).trans rfl
         have hcz46_1 : w41.cell? ⟨gb337, 1, none⟩ = some (.slice Ao22 t333.length co22) := (blk_cell BK337.out 1).trans rfl
         have hfz46_0 := blk_frozen BK337.out 0
         have hfz46_1 := blk_frozen BK337.out 1
         have hcz47_0 : w41.cell? ⟨gb326, 0, none⟩ = some (.slice Ao12 t319.length co12) := (blk_cell BK326.out 0).trans rfl
         have hcz47_1 : w41.cell? ⟨gb326, 1, none⟩ = some (.slice Ao14 t322.length co14) := (blk_cell BK326.out 1).trans rfl
         have hfz47_0 := blk_frozen BK326.out 0
         have hfz47_1 := blk_frozen BK326.out 1
         go_wp2_with (first | (go_at_call 10; (with_reducible refine (laws_eqRegion.calls kj6 _ _ t330 _ _ t333 _ _ t319 _ _ t322 true _ ?side1 ?side2 ?side3 ?side4 ?side5 ?side6 ?side7 ?side8 A43.out).mono ?_); (case side1 => repeat (first | exact (Kd.R_reads' HO_338000.out).2.2 | (with_reducible refine Kd.C_alloc ?_ _) | (with_reducible refine Kd.C_drewN ?_ _) | (with_reducible refine Kd.C_drew ?_))); (case side2 => exact (Kd.R_reads' HO_338000.out).2.1); (case side3 => repeat (first | exact (Kd.R_reads' HO_338001.out).2.2 | (with_reducible refine Kd.C_alloc ?_ _) | (with_reducible refine Kd.C_drewN ?_ _) | (with_reducible refine Kd.C_drew ?_))); (case side4 => exact (Kd.R_reads' HO_338001.out).2.1); (case side5 => repeat (first | exact (Kd.R_reads' HO_327000.out).2.2 | (with_reducible refine Kd.C_alloc ?_ _) | (with_reducible refine Kd.C_drewN ?_ _) | (with_reducible refine Kd.C_drew ?_))); (case side6 => exact (Kd.R_reads' HO_327000.out).2.1); (case side7 => repeat (first | exact (Kd.R_reads' HO_327001.out).2.2 | (with_reducible refine Kd.C_alloc ?_ _) | (with_reducible refine Kd.C_drewN ?_ _) | (with_reducible refine Kd.C_drew ?_))); (case side8 => exact (Kd.R_reads' HO_327001.out).2.1); rintro e w48 ⟨rfl, hb⟩; have n0_ := aS_ (Kd.R_below (by (with_reducible repeat (first | apply rA_ | apply rN_ | apply rD_)); exact HO_5.out) hb); have n1_ := aS_ (Kd.R_below (by (with_reducible repeat (first | apply rA_ | apply rN_ | apply rD_)); exact HO_327000.out) hb); have n2_ := aS_ (Kd.R_below (by (with_reducible repeat (first | apply rA_ | apply rN_ | apply rD_)); exact HO_327001.out) hb); have n3_ := aS_ (Kd.R_below (by (with_reducible repeat (first | apply rA_ | apply rN_ | apply rD_)); exact HO_338000.out) hb); have n4_ := aS_ (Kd.R_below (by (with_reducible repeat (first | apply rA_ | apply rN_ | apply rD_)); exact HO_338001.out) hb); have n5_ := aS_ (Kd.R_below (by (with_reducible repeat (first | apply rA_ | apply rN_ | apply rD_)); exact HO341.out) hb); have n6_ := aS_ (blk_below (g := gb326) (o := .cells #[.slice Ao12 t319.length co12, .slice Ao14 t322.length co14] 24 (0, 0)) (by (with_reducible repeat (first | refine kN_ ?_ _ | refine kD_ ?_ | refine kA_ ?_ _)); exact BK326.out) hb); have n7_ := aS_ (blk_below (g := gb337) (o := .cells #[.slice Ao19 t330.length co19, .slice Ao22 t333.length co22] 24 (0, 0)) (by (with_reducible repeat (first | refine kN_ ?_ _ | refine kD_ ?_ | refine kA_ ?_ _)); exact BK337.out) hb); have n8_ := aS_ (below_step (by repeat (first | (with_reducible first | exact HB.out | apply bA_ | apply pN_ | apply bD_ | refine bS_ ?_ GE326.out | refine bS_ ?_ GE337.out) | exact HB.out)) hb); clear HO_5; clear HO_327000; clear HO_327001; clear HO_338000; clear HO_338001; clear HO341; clear BK326; clear BK337; clear HB; have HO_5 := n0_; have HO_327000 := n1_; have HO_327001 := n2_; have HO_338000 := n3_; have HO_338001 := n4_; have HO341 := n5_; have BK326 := n6_; have BK337 := n7_; have HB := n8_; clear n0_ n1_ n2_ n3_ n4_ n5_ n6_ n7_ n8_; (try clear hb); (try clear hb2); (try clear hk); (try clear hi)))
         go_meet
         case rel => exact ⟨_, ((t336 != t325)), (by first | rfl | (simp; done) | (simp [*]; done)), H', ⟨by have := HJ6.out; first | omega | exact Nat.le_refl _⟩, ⟨by (with_reducible repeat (first | apply rA_ | apply rN_ | apply rD_)); exact Kd.R_mono HO_327000.out (fun _ hk => ⟨hk.2.1, ⟨hk.2.2.1, hk.2.2.2.1⟩⟩)⟩, ⟨by (with_reducible repeat (first | apply rA_ | apply rN_ | apply rD_)); exact Kd.R_mono HO_327001.out (fun _ hk => ⟨hk.2.1, ⟨hk.2.2.1, hk.2.2.2.1⟩⟩)⟩, ⟨by (with_reducible repeat (first | apply rA_ | apply rN_ | apply rD_)); exact Kd.R_mono HO_338000.out (fun _ hk => ⟨hk.2.1, ⟨hk.2.2.1, hk.2.2.2.1⟩⟩)⟩, ⟨by (with_reducible repeat (first | apply rA_ | apply rN_ | apply rD_)); exact Kd.R_mono HO_338001.out (fun _ hk => ⟨hk.2.1, ⟨hk.2.2.1, hk.2.2.2.1⟩⟩)⟩, ⟨by (with_reducible repeat (first | refine kN_ ?_ _ | refine kD_ ?_ | refine kA_ ?_ _)); exact BK326.out⟩, ⟨by (with_reducible repeat (first | refine kN_ ?_ _ | refine kD_ ?_ | refine kA_ ?_ _)); exact BK337.out⟩, ⟨by repeat (first | (with_reducible first | exact HB.out | apply bA_ | apply pN_ | apply bD_ | refine bS_ ?_ GE326.out | refine bS_ ?_ GE337.out) | exact HB.out)⟩⟩
        ·replace c44 := Bool.eq_false_iff.mpr c44
         subst c44
         rw [if_neg (show ¬ (false = true) by decide)] at H
         have H' := aS_ H
         clear H
         have hnb49 := NB337_326.out
         have hnc49 := NB326_337.out
         have hcz50_0 : w41.cell? ⟨gb337, 0, none⟩ = some (.slice Ao19 t330.length co19) := (blk_cell BK337.out 0).trans rfl
         have hcz50_1 : w41.cell? ⟨gb337, 1, none⟩ = some (.slice Ao22 t333.length co22) := (blk_cell BK337.out 1).trans rfl
         have hfz50_0 := blk_frozen BK337.out 0
         have hfz50_1 := blk_frozen BK337.out 1
         have hcz51_0 : w41.cell? ⟨gb326, 0, none⟩ = some (.slice Ao12 t319.length co12) := (blk_cell BK326.out 0).trans rfl
         have hcz51_1 : w41.cell? ⟨gb326, 1, none⟩ = some (.slice Ao14 t322.length co14) := (blk_cell BK326.out 1).trans rfl
         have hfz51_0 := blk_frozen BK326.out 0
         have hfz51_1 := blk_frozen BK326.out 1
         go_wp2_with (first | (go_at_call 10; (with_reducible refine (laws_eqRegion.calls kj6 _ _ t330 _ _ t333 _ _ t319 _ _ t322 false _ ?side1 ?side2 ?side3 ?side4 ?side5 ?side6 ?side7 ?side8 A43.out).mono ?_); (case side1 => repeat (first | exact (Kd.R_reads' HO_338000.out).2.2 | (with_reducible refine Kd.C_alloc ?_ _) | (with_reducible refine Kd.C_drewN ?_ _) | (with_reducible refine Kd.C_drew ?_))); (case side2 => exact (Kd.R_reads' HO_338000.out).2.1); (case side3 => repeat (first | exact (Kd.R_reads' HO_338001.out).2.2 | (with_reducible refine Kd.C_alloc ?_ _) | (with_reducible refine Kd.C_drewN ?_ _) | (with_reducible refine Kd.C_drew ?_))); (case side4 => exact (Kd.R_reads' HO_338001.out).2.1); (case side5 => repeat (first | exact (Kd.R_reads' HO_327000.out).2.2 | (with_reducible refine Kd.C_alloc ?_ _) | (with_reducible refine Kd.C_drewN ?_ _) | (with_reducible refine Kd.C_drew ?_))); (case side6 => exact (Kd.R_reads' HO_327000.out).2.1); (case side7 => repeat (first | exact (Kd.R_reads' HO_327001.out).2.2 | (with_reducible refine Kd.C_alloc ?_ _) | (with_reducible refine Kd.C_drewN ?_ _) | (with_reducible refine Kd.C_drew ?_))); (case side8 => exact (Kd.R_reads' HO_327001.out).2.1); rintro e w52 ⟨rfl, hb⟩; have n0_ := aS_ (Kd.R_below (by (with_reducible repeat (first | apply rA_ | apply rN_ | apply rD_)); exact HO_5.out) hb); have n1_ := aS_ (Kd.R_below (by (with_reducible repeat (first | apply rA_ | apply rN_ | apply rD_)); exact HO_327000.out) hb); have n2_ := aS_ (Kd.R_below (by (with_reducible repeat (first | apply rA_ | apply rN_ | apply rD_)); exact HO_327001.out) hb); have n3_ := aS_ (Kd.R_below (by (with_reducible repeat (first | apply rA_ | apply rN_ | apply rD_)); exact HO_338000.out) hb); have n4_ := aS_ (Kd.R_below (by (with_reducible repeat (first | apply rA_ | apply rN_ | apply rD_)); exact HO_338001.out) hb); have n5_ := aS_ (Kd.R_below (by (with_reducible repeat (first | apply rA_ | apply rN_ | apply rD_)); exact HO341.out) hb); have n6_ := aS_ (blk_below (g := gb326) (o := .cells #[.slice Ao12 t319.length co12, .slice Ao14 t322.length co14] 24 (0, 0)) (by (with_reducible repeat (first | refine kN_ ?_ _ | refine kD_ ?_ | refine kA_ ?_ _)); exact BK326.out) hb); have n7_ := aS_ (blk_below (g := gb337) (o := .cells #[.slice Ao19 t330.length co19, .slice Ao22 t333.length co22] 24 (0, 0)) (by (with_reducible repeat (first | refine kN_ ?_ _ | refine kD_ ?_ | refine kA_ ?_ _)); exact BK337.out) hb); have n8_ := aS_ (below_step (by repeat (first | (with_reducible first | exact HB.out | apply bA_ | apply pN_ | apply bD_ | refine bS_ ?_ GE326.out | refine bS_ ?_ GE337.out) | exact HB.out)) hb); clear HO_5; clear HO_327000; clear HO_327001; clear HO_338000; clear HO_338001; clear HO341; clear BK326; clear BK337; clear HB; have HO_5 := n0_; have HO_327000 := n1_; have HO_327001 := n2_; have HO_338000 := n3_; have HO_338001 := n4_; have HO341 := n5_; have BK326 := n6_; have BK337 := n7_; have HB := n8_; clear n0_ n1_ n2_ n3_ n4_ n5_ n6_ n7_ n8_; (try clear hb); (try clear hb2); (try clear hk); (try clear hi)))
         go_meet
         case rel => exact ⟨_, (true), (by first | rfl | (simp; done) | (simp [*]; done)), H', ⟨by have := HJ6.out; first | omega | exact Nat.le_refl _⟩, ⟨by (with_reducible repeat (first | apply rA_ | apply rN_ | apply rD_)); exact Kd.R_mono HO_327000.out (fun _ hk => ⟨hk.2.1, ⟨hk.2.2.1, hk.2.2.2.1⟩⟩)⟩, ⟨by (with_reducible repeat (first | apply rA_ | apply rN_ | apply rD_)); exact Kd.R_mono HO_327001.out (fun _ hk => ⟨hk.2.1, ⟨hk.2.2.1, hk.2.2.2.1⟩⟩)⟩, ⟨by (with_reducible repeat (first | apply rA_ | apply rN_ | apply rD_)); exact Kd.R_mono HO_338000.out (fun _ hk => ⟨hk.2.1, ⟨hk.2.2.1, hk.2.2.2.1⟩⟩)⟩, ⟨by (with_reducible repeat (first | apply rA_ | apply rN_ | apply rD_)); exact Kd.R_mono HO_338001.out (fun _ hk => ⟨hk.2.1, ⟨hk.2.2.1, hk.2.2.2.1⟩⟩)⟩, ⟨by (with_reducible repeat (first | refine kN_ ?_ _ | refine kD_ ?_ | refine kA_ ?_ _)); exact BK326.out⟩, ⟨by (with_reducible repeat (first | refine kN_ ?_ _ | refine kD_ ?_ | refine kA_ ?_ _)); exact BK337.out⟩, ⟨by repeat (first | (with_reducible first | exact HB.out | apply bA_ | apply pN_ | apply bD_ | refine bS_ ?_ GE326.out | refine bS_ ?_ GE337.out) | exact HB.out)⟩⟩
      case rest =>
       clear HC38
       try clear c1
       try clear c2
       try clear c2b0
       try clear c2b1
       try clear p2
       try clear c3
       try clear c4
       try clear c10
       try clear c13
       try clear c14
       try clear c15
       try clear c16
       try clear c17
       try clear c20
       try clear c24
       try clear c25
       try clear c29
       try clear c33
       try clear c36
       try clear c42
       try clear c42b0
       try clear c44
       try clear c45
       try clear c49
       try clear hcz13_0
       try clear hcz13_1
       try clear hcz21_0
       try clear hcz21_1
       try clear hcz26_0
       try clear hcz26_1
       try clear hcz27_0
       try clear hcz27_1
       try clear hcz30_0
       try clear hcz30_1
       try clear hcz31_0
       try clear hcz31_1
       try clear hcz46_0
       try clear hcz46_1
       try clear hcz47_0
       try clear hcz47_1
       try clear hcz50_0
       try clear hcz50_1
       try clear hcz51_0
       try clear hcz51_1
       try clear hfz13_0
       try clear hfz13_1
       try clear hfz21_0
       try clear hfz21_1
       try clear hfz26_0
       try clear hfz26_1
       try clear hfz27_0
       try clear hfz27_1
       try clear hfz30_0
       try clear hfz30_1
       try clear hfz31_0
       try clear hfz31_1
       try clear hfz46_0
       try clear hfz46_1
       try clear hfz47_0
       try clear hfz47_1
       try clear hfz50_0
       try clear hfz50_1
       try clear hfz51_0
       try clear hfz51_1
       try clear p2
       obtain ⟨kq, x58_37, rfl, HA, HJ37, HO_327000, HO_327001, HO_338000, HO_338001, BK326, BK337, HB⟩ := hcut
       cases kq with
       | zero => exact absurd HA.out (by simp [laws_FnExactRegionOfLabel.j1])
       | succ kj37 =>
        have H := HA.out
        clear HA
        simp only [laws_FnExactRegionOfLabel.j1] at H
        by_cases c53 : x58_37 = true
        ·subst c53
         rw [if_pos rfl] at H
         obtain rfl := Option.some.inj H
         go_wp2
         go_ret
         exact ⟨by first | rfl | (simp [errW_none, errW_some] <;> rfl) | (simp [*, errW_none, errW_some] <;> rfl), by repeat (first | (with_reducible first | exact HB.out | apply bA_ | apply pN_ | apply bD_ | refine bS_ ?_ GE326.out | refine bS_ ?_ GE337.out) | exact HB.out)⟩
        ·replace c53 := Bool.eq_false_iff.mpr c53
         subst c53
         rw [if_neg (show ¬ (false = true) by decide)] at H
         replace H := Option.bind_eq_some_iff.mp H
         obtain ⟨⟨t346, t347, t348⟩, A540, H⟩ := H
         have A54 := aS_ A540
         clear A540
         replace H := Option.bind_eq_some_iff.mp H
         obtain ⟨t349, A550, H⟩ := H
         have A55 := aS_ A550
         clear A550
         by_cases c56 : t349 < 0
         ·rw [if_pos c56] at H
          have c56b0 : decide (t349 < 0) = true := decide_eq_true c56
          clear c56
          obtain rfl := Option.some.inj H
          have hnb57 := NB337_326.out
          have hnc57 := NB326_337.out
          have hcz58_0 : wc.cell? ⟨gb337, 0, none⟩ = some (.slice Ao19 t330.length co19) := (blk_cell BK337.out 0).trans rfl
          have hcz58_1 : wc.cell? ⟨gb337, 1, none⟩ = some (.slice Ao22 t333.length co22) := (blk_cell BK337.out 1).trans rfl
          have hfz58_0 := blk_frozen BK337.out 0
          have hfz58_1 := blk_frozen BK337.out 1
          go_wp2_with (first | ((with_reducible refine gate_callee (f := 11) rfl ?_); refine goesL_ (some 61) rfl rfl Try.func11 (by kernel_rfl) rfl #[.agg #[.slice Ao19 t330.length co19, .slice Ao22 t333.length co22], .int .i64 1] rfl (by (try simp only [List.map_toArray, List.map_cons, List.map_nil]); first | done | rfl | (simp only [List.length_drop, List.length_take]; rfl)) ?_; (with_reducible refine (laws_markRegion.calls kj37 (fun k_ => some k_ = (.slice Ao19 t330.length co19 : Value).ownBlock) (.slice Ao19 t330.length co19) t330 (fun k_ => some k_ = (.slice Ao22 t333.length co22 : Value).ownBlock) (.slice Ao22 t333.length co22) t333 1 t346 t347 t348 w _ ?side1 ?side2 ?side3 ?side4 ?side5 A54.out).mono ?_); (case side1 => repeat (first | (with_reducible first | exact HB.out | apply bA_ | apply pN_ | apply bD_ | refine bS_ ?_ GE326.out | refine bS_ ?_ GE337.out) | exact HB.out)); (case side2 => exact Kd.R_tight rfl HO_338000.out); (case side3 => exact fun k_ e_ => (HO_338000.out.1 k_ e_.symm).2.2); (case side4 => exact Kd.R_tight rfl HO_338001.out); (case side5 => exact fun k_ e_ => (HO_338001.out.1 k_ e_.symm).2.2); rintro e w59 ⟨rfl, hy0, hy1, hb, hkp⟩; refine ⟨_, rfl, ?_⟩; have n0_ := aS_ (Kd.R_mono (ok' := fun k_ => some k_ ≠ (.slice Ao14 t322.length co14 : Value).ownBlock ∧ some k_ ≠ (.slice Ao19 t330.length co19 : Value).ownBlock ∧ some k_ ≠ (.slice Ao22 t333.length co22 : Value).ownBlock) (Kd.R_keptB (HO_327000.out) hkp (fun k_ hk_ hs_ => Or.elim hs_ (fun e_ => (hk_.2.1) e_) (fun e_ => (hk_.2.2) e_))) (fun k_ hk_ => ⟨hk_.1.1, hk_.1.2.1, hk_.1.2.2⟩)); have n1_ := aS_ (Kd.R_mono (ok' := fun k_ => some k_ ≠ (.slice Ao12 t319.length co12 : Value).ownBlock ∧ some k_ ≠ (.slice Ao19 t330.length co19 : Value).ownBlock ∧ some k_ ≠ (.slice Ao22 t333.length co22 : Value).ownBlock) (Kd.R_keptB (HO_327001.out) hkp (fun k_ hk_ hs_ => Or.elim hs_ (fun e_ => (hk_.2.1) e_) (fun e_ => (hk_.2.2) e_))) (fun k_ hk_ => ⟨hk_.1.1, hk_.1.2.1, hk_.1.2.2⟩)); have n2_ := aS_ (Kd.R_reok rfl hy0 (fun k_ e_ => HO_338000.out.1 k_ e_)); have n3_ := aS_ (Kd.R_reok rfl hy1 (fun k_ e_ => HO_338001.out.1 k_ e_)); have n4_ := aS_ (blk_kept (by (with_reducible repeat (first | refine kN_ ?_ _ | refine kD_ ?_ | refine kA_ ?_ _)); exact BK326.out) hkp (fun hs_ => Or.elim hs_ (fun e_ => (fun e_ => (Kd.R_ne HO_338000.out BK326.out (by decide)) e_) e_) (fun e_ => (fun e_ => (Kd.R_ne HO_338001.out BK326.out (by decide)) e_) e_))); have n5_ := aS_ (blk_kept (by (with_reducible repeat (first | refine kN_ ?_ _ | refine kD_ ?_ | refine kA_ ?_ _)); exact BK337.out) hkp (fun hs_ => Or.elim hs_ (fun e_ => (fun e_ => (Kd.R_ne HO_338000.out BK337.out (by decide)) e_) e_) (fun e_ => (fun e_ => (Kd.R_ne HO_338001.out BK337.out (by decide)) e_) e_))); have n6_ := aS_ (hb); clear HO_327000; clear HO_327001; clear HO_338000; clear HO_338001; clear BK326; clear BK337; clear HB; have HO_327000 := n0_; have HO_327001 := n1_; have HO_338000 := n2_; have HO_338001 := n3_; have BK326 := n4_; have BK337 := n5_; have HB := n6_; clear n0_ n1_ n2_ n3_ n4_ n5_ n6_; (try clear hb); (try clear hkp); (try clear hy0); (try clear hy1); have hcz60_0 : w59.cell? ⟨gb337, 0, none⟩ = some (.slice Ao19 t330.length co19) := (blk_cell BK337.out 0).trans rfl; have hcz60_1 : w59.cell? ⟨gb337, 1, none⟩ = some (.slice Ao22 t333.length co22) := (blk_cell BK337.out 1).trans rfl; have hfz60_0 := blk_frozen BK337.out 0; have hfz60_1 := blk_frozen BK337.out 1) | ((with_reducible refine gate_callee (f := 12) rfl ?_); refine goesL_ (some 64) rfl rfl Try.func12 (by kernel_rfl) rfl #[.agg #[.slice Ao19 t347.length co19, .slice Ao22 t348.length co22], .int .i64 1] rfl (by (try simp only [List.map_toArray, List.map_cons, List.map_nil]); first | done | (rw [show t347.length = t330.length from (Kd.R_reads' HO_338000.out).1.symm, show t348.length = t333.length from (Kd.R_reads' HO_338001.out).1.symm] <;> rfl) | rfl | (simp only [List.length_drop, List.length_take]; rfl)) ?_; (with_reducible refine (laws_heldRegion.calls kj37 _ _ t347 _ _ t348 1 t349 _ ?side1 ?side2 ?side3 ?side4 A55.out).mono ?_); (case side1 => repeat (first | exact (Kd.R_reads' HO_338000.out).2.2 | (with_reducible refine Kd.C_alloc ?_ _) | (with_reducible refine Kd.C_drewN ?_ _) | (with_reducible refine Kd.C_drew ?_))); (case side2 => rw [show t347.length = t330.length from (Kd.R_reads' HO_338000.out).1.symm]; exact (Kd.R_reads' HO_338000.out).2.1); (case side3 => repeat (first | exact (Kd.R_reads' HO_338001.out).2.2 | (with_reducible refine Kd.C_alloc ?_ _) | (with_reducible refine Kd.C_drewN ?_ _) | (with_reducible refine Kd.C_drew ?_))); (case side4 => rw [show t348.length = t333.length from (Kd.R_reads' HO_338001.out).1.symm]; exact (Kd.R_reads' HO_338001.out).2.1); rintro e w61 ⟨rfl, hb⟩; refine ⟨_, rfl, ?_⟩; have n0_ := aS_ (Kd.R_below (by (with_reducible repeat (first | apply rA_ | apply rN_ | apply rD_)); exact HO_327000.out) hb); have n1_ := aS_ (Kd.R_below (by (with_reducible repeat (first | apply rA_ | apply rN_ | apply rD_)); exact HO_327001.out) hb); have n2_ := aS_ (Kd.R_below (by (with_reducible repeat (first | apply rA_ | apply rN_ | apply rD_)); exact HO_338000.out) hb); have n3_ := aS_ (Kd.R_below (by (with_reducible repeat (first | apply rA_ | apply rN_ | apply rD_)); exact HO_338001.out) hb); have n4_ := aS_ (blk_below (g := gb326) (o := .cells #[.slice Ao12 t319.length co12, .slice Ao14 t322.length co14] 24 (0, 0)) (by (with_reducible repeat (first | refine kN_ ?_ _ | refine kD_ ?_ | refine kA_ ?_ _)); exact BK326.out) hb); have n5_ := aS_ (blk_below (g := gb337) (o := .cells #[.slice Ao19 t330.length co19, .slice Ao22 t333.length co22] 24 (0, 0)) (by (with_reducible repeat (first | refine kN_ ?_ _ | refine kD_ ?_ | refine kA_ ?_ _)); exact BK337.out) hb); have n6_ := aS_ (below_step (by repeat (first | (with_reducible first | exact HB.out | apply bA_ | apply pN_ | apply bD_ | refine bS_ ?_ GE326.out | refine bS_ ?_ GE337.out) | exact HB.out)) hb); clear HO_327000; clear HO_327001; clear HO_338000; clear HO_338001; clear BK326; clear BK337; clear HB; have HO_327000 := n0_; have HO_327001 := n1_; have HO_338000 := n2_; have HO_338001 := n3_; have BK326 := n4_; have BK337 := n5_; have HB := n6_; clear n0_ n1_ n2_ n3_ n4_ n5_ n6_; (try clear hb); (try clear hb2); (try clear hk); (try clear hi)))
          go_ret
          exact ⟨by first | rfl | (simp [errW_none, errW_some] <;> rfl) | (simp [*, errW_none, errW_some] <;> rfl), by repeat (first | (with_reducible first | exact HB.out | apply bA_ | apply pN_ | apply bD_ | refine bS_ ?_ GE326.out | refine bS_ ?_ GE337.out) | exact HB.out)⟩
         ·rw [if_neg c56] at H
          have c56b0 : decide (t349 < 0) = false := decide_eq_false c56
          clear c56
          by_cases c62 : t349 = t346
          ·rw [if_pos c62] at H
           have c62b0 : (t349 == t346) = true := beq_iff_eq.mpr c62
           have c62b1 : (t349 != t346) = false := bne_eq_false_iff_eq.mpr c62
           clear c62
           replace H := Option.bind_eq_some_iff.mp H
           obtain ⟨t350, A630, H⟩ := H
           have A63 := aS_ A630
           clear A630
           replace H := Option.bind_eq_some_iff.mp H
           obtain ⟨⟨t353, t356, t359⟩, A640, H⟩ := H
           have A64 := aS_ A640
           clear A640
           have HC65 := aS_ H
           clear H
           have hnb66 := NB337_326.out
           have hnc66 := NB326_337.out
           have hcz67_0 : wc.cell? ⟨gb337, 0, none⟩ = some (.slice Ao19 t330.length co19) := (blk_cell BK337.out 0).trans rfl
           have hcz67_1 : wc.cell? ⟨gb337, 1, none⟩ = some (.slice Ao22 t333.length co22) := (blk_cell BK337.out 1).trans rfl
           have hfz67_0 := blk_frozen BK337.out 0
           have hfz67_1 := blk_frozen BK337.out 1
           go_upto_region 23 with (first | ((with_reducible refine gate_callee (f := 11) rfl ?_); refine goesL_ (some 61) rfl rfl Try.func11 (by kernel_rfl) rfl #[.agg #[.slice Ao19 t330.length co19, .slice Ao22 t333.length co22], .int .i64 1] rfl (by (try simp only [List.map_toArray, List.map_cons, List.map_nil]); first | done | rfl | (simp only [List.length_drop, List.length_take]; rfl)) ?_; (with_reducible refine (laws_markRegion.calls kj37 (fun k_ => some k_ = (.slice Ao19 t330.length co19 : Value).ownBlock) (.slice Ao19 t330.length co19) t330 (fun k_ => some k_ = (.slice Ao22 t333.length co22 : Value).ownBlock) (.slice Ao22 t333.length co22) t333 1 t346 t347 t348 w _ ?side1 ?side2 ?side3 ?side4 ?side5 A54.out).mono ?_); (case side1 => repeat (first | (with_reducible first | exact HB.out | apply bA_ | apply pN_ | apply bD_ | refine bS_ ?_ GE326.out | refine bS_ ?_ GE337.out) | exact HB.out)); (case side2 => exact Kd.R_tight rfl HO_338000.out); (case side3 => exact fun k_ e_ => (HO_338000.out.1 k_ e_.symm).2.2); (case side4 => exact Kd.R_tight rfl HO_338001.out); (case side5 => exact fun k_ e_ => (HO_338001.out.1 k_ e_.symm).2.2); rintro e w68 ⟨rfl, hy0, hy1, hb, hkp⟩; refine ⟨_, rfl, ?_⟩; have n0_ := aS_ (Kd.R_mono (ok' := fun k_ => some k_ ≠ (.slice Ao14 t322.length co14 : Value).ownBlock ∧ some k_ ≠ (.slice Ao19 t330.length co19 : Value).ownBlock ∧ some k_ ≠ (.slice Ao22 t333.length co22 : Value).ownBlock) (Kd.R_keptB (HO_327000.out) hkp (fun k_ hk_ hs_ => Or.elim hs_ (fun e_ => (hk_.2.1) e_) (fun e_ => (hk_.2.2) e_))) (fun k_ hk_ => ⟨hk_.1.1, hk_.1.2.1, hk_.1.2.2⟩)); have n1_ := aS_ (Kd.R_mono (ok' := fun k_ => some k_ ≠ (.slice Ao12 t319.length co12 : Value).ownBlock ∧ some k_ ≠ (.slice Ao19 t330.length co19 : Value).ownBlock ∧ some k_ ≠ (.slice Ao22 t333.length co22 : Value).ownBlock) (Kd.R_keptB (HO_327001.out) hkp (fun k_ hk_ hs_ => Or.elim hs_ (fun e_ => (hk_.2.1) e_) (fun e_ => (hk_.2.2) e_))) (fun k_ hk_ => ⟨hk_.1.1, hk_.1.2.1, hk_.1.2.2⟩)); have n2_ := aS_ (Kd.R_reok rfl hy0 (fun k_ e_ => HO_338000.out.1 k_ e_)); have n3_ := aS_ (Kd.R_reok rfl hy1 (fun k_ e_ => HO_338001.out.1 k_ e_)); have n4_ := aS_ (blk_kept (by (with_reducible repeat (first | refine kN_ ?_ _ | refine kD_ ?_ | refine kA_ ?_ _)); exact BK326.out) hkp (fun hs_ => Or.elim hs_ (fun e_ => (fun e_ => (Kd.R_ne HO_338000.out BK326.out (by decide)) e_) e_) (fun e_ => (fun e_ => (Kd.R_ne HO_338001.out BK326.out (by decide)) e_) e_))); have n5_ := aS_ (blk_kept (by (with_reducible repeat (first | refine kN_ ?_ _ | refine kD_ ?_ | refine kA_ ?_ _)); exact BK337.out) hkp (fun hs_ => Or.elim hs_ (fun e_ => (fun e_ => (Kd.R_ne HO_338000.out BK337.out (by decide)) e_) e_) (fun e_ => (fun e_ => (Kd.R_ne HO_338001.out BK337.out (by decide)) e_) e_))); have n6_ := aS_ (hb); clear HO_327000; clear HO_327001; clear HO_338000; clear HO_338001; clear BK326; clear BK337; clear HB; have HO_327000 := n0_; have HO_327001 := n1_; have HO_338000 := n2_; have HO_338001 := n3_; have BK326 := n4_; have BK337 := n5_; have HB := n6_; clear n0_ n1_ n2_ n3_ n4_ n5_ n6_; (try clear hb); (try clear hkp); (try clear hy0); (try clear hy1); have hcz69_0 : w68.cell? ⟨gb337, 0, none⟩ = some (.slice Ao19 t330.length co19) := (blk_cell BK337.out 0).trans rfl; have hcz69_1 : w68.cell? ⟨gb337, 1, none⟩ = some (.slice Ao22 t333.length co22) := (blk_cell BK337.out 1).trans rfl; have hfz69_0 := blk_frozen BK337.out 0; have hfz69_1 := blk_frozen BK337.out 1) | ((with_reducible refine gate_callee (f := 12) rfl ?_); refine goesL_ (some 64) rfl rfl Try.func12 (by kernel_rfl) rfl #[.agg #[.slice Ao19 t347.length co19, .slice Ao22 t348.length co22], .int .i64 1] rfl (by (try simp only [List.map_toArray, List.map_cons, List.map_nil]); first | done | (rw [show t347.length = t330.length from (Kd.R_reads' HO_338000.out).1.symm, show t348.length = t333.length from (Kd.R_reads' HO_338001.out).1.symm] <;> rfl) | rfl | (simp only [List.length_drop, List.length_take]; rfl)) ?_; (with_reducible refine (laws_heldRegion.calls kj37 _ _ t347 _ _ t348 1 t349 _ ?side1 ?side2 ?side3 ?side4 A55.out).mono ?_); (case side1 => repeat (first | exact (Kd.R_reads' HO_338000.out).2.2 | (with_reducible refine Kd.C_alloc ?_ _) | (with_reducible refine Kd.C_drewN ?_ _) | (with_reducible refine Kd.C_drew ?_))); (case side2 => rw [show t347.length = t330.length from (Kd.R_reads' HO_338000.out).1.symm]; exact (Kd.R_reads' HO_338000.out).2.1); (case side3 => repeat (first | exact (Kd.R_reads' HO_338001.out).2.2 | (with_reducible refine Kd.C_alloc ?_ _) | (with_reducible refine Kd.C_drewN ?_ _) | (with_reducible refine Kd.C_drew ?_))); (case side4 => rw [show t348.length = t333.length from (Kd.R_reads' HO_338001.out).1.symm]; exact (Kd.R_reads' HO_338001.out).2.1); rintro e w70 ⟨rfl, hb⟩; refine ⟨_, rfl, ?_⟩; have n0_ := aS_ (Kd.R_below (by (with_reducible repeat (first | apply rA_ | apply rN_ | apply rD_)); exact HO_327000.out) hb); have n1_ := aS_ (Kd.R_below (by (with_reducible repeat (first | apply rA_ | apply rN_ | apply rD_)); exact HO_327001.out) hb); have n2_ := aS_ (Kd.R_below (by (with_reducible repeat (first | apply rA_ | apply rN_ | apply rD_)); exact HO_338000.out) hb); have n3_ := aS_ (Kd.R_below (by (with_reducible repeat (first | apply rA_ | apply rN_ | apply rD_)); exact HO_338001.out) hb); have n4_ := aS_ (blk_below (g := gb326) (o := .cells #[.slice Ao12 t319.length co12, .slice Ao14 t322.length co14] 24 (0, 0)) (by (with_reducible repeat (first | refine kN_ ?_ _ | refine kD_ ?_ | refine kA_ ?_ _)); exact BK326.out) hb); have n5_ := aS_ (blk_below (g := gb337) (o := .cells #[.slice Ao19 t330.length co19, .slice Ao22 t333.length co22] 24 (0, 0)) (by (with_reducible repeat (first | refine kN_ ?_ _ | refine kD_ ?_ | refine kA_ ?_ _)); exact BK337.out) hb); have n6_ := aS_ (below_step (by repeat (first | (with_reducible first | exact HB.out | apply bA_ | apply pN_ | apply bD_ | refine bS_ ?_ GE326.out | refine bS_ ?_ GE337.out) | exact HB.out)) hb); clear HO_327000; clear HO_327001; clear HO_338000; clear HO_338001; clear BK326; clear BK337; clear HB; have HO_327000 := n0_; have HO_327001 := n1_; have HO_338000 := n2_; have HO_338001 := n3_; have BK326 := n4_; have BK337 := n5_; have HB := n6_; clear n0_ n1_ n2_ n3_ n4_ n5_ n6_; (try clear hb); (try clear hb2); (try clear hk); (try clear hi)) | ((with_reducible refine gate_callee (f := 14) rfl ?_); refine goesL_ (some 72) rfl rfl Try.func14 (by kernel_rfl) rfl #[.slice A0 l0.length c0] rfl (by (try simp only [List.map_toArray, List.map_cons, List.map_nil]); first | done | rfl | (simp only [List.length_drop, List.length_take]; rfl)) ?_; (with_reducible refine (laws_toIntS.calls kj37 _ _ l0 t350 _ ?side1 ?side2 A63.out).mono ?_); (case side1 => repeat (first | exact (Kd.C_below HR0.out HB.out) | (with_reducible refine Kd.C_alloc ?_ _) | (with_reducible refine Kd.C_drewN ?_ _) | (with_reducible refine Kd.C_drew ?_))); (case side2 => exact HC0.out); rintro e w71 ⟨v351, rfl, ho0, hb⟩; refine ⟨_, rfl, ?_⟩; have n0_ := aS_ (Kd.R_elder' (by (with_reducible repeat (first | apply rA_ | apply rN_ | apply rD_)); exact HO_327000.out) (Kd.R_base ho0) hb); have n1_ := aS_ (Kd.R_elder' (by (with_reducible repeat (first | apply rA_ | apply rN_ | apply rD_)); exact HO_327001.out) (Kd.R_base ho0) hb); have n2_ := aS_ (Kd.R_elder' (by (with_reducible repeat (first | apply rA_ | apply rN_ | apply rD_)); exact HO_338000.out) (Kd.R_base ho0) hb); have n3_ := aS_ (Kd.R_elder' (by (with_reducible repeat (first | apply rA_ | apply rN_ | apply rD_)); exact HO_338001.out) (Kd.R_base ho0) hb); have n4_ := aS_ (Kd.R_lower (Kd.R_new' (Kd.R_new' (Kd.R_new' (Kd.R_new' ho0 (Kd.R_lt (by (with_reducible repeat (first | apply rA_ | apply rN_ | apply rD_)); exact HO_327000.out))) (Kd.R_lt (by (with_reducible repeat (first | apply rA_ | apply rN_ | apply rD_)); exact HO_327001.out))) (Kd.R_lt (by (with_reducible repeat (first | apply rA_ | apply rN_ | apply rD_)); exact HO_338000.out))) (Kd.R_lt (by (with_reducible repeat (first | apply rA_ | apply rN_ | apply rD_)); exact HO_338001.out))) (below_size (by repeat (first | (with_reducible first | exact HB.out | apply bA_ | apply pN_ | apply bD_ | refine bS_ ?_ GE326.out | refine bS_ ?_ GE337.out) | exact HB.out)))); have n5_ := aS_ (blk_below (g := gb326) (o := .cells #[.slice Ao12 t319.length co12, .slice Ao14 t322.length co14] 24 (0, 0)) (by (with_reducible repeat (first | refine kN_ ?_ _ | refine kD_ ?_ | refine kA_ ?_ _)); exact BK326.out) hb); have n6_ := aS_ (blk_below (g := gb337) (o := .cells #[.slice Ao19 t330.length co19, .slice Ao22 t333.length co22] 24 (0, 0)) (by (with_reducible repeat (first | refine kN_ ?_ _ | refine kD_ ?_ | refine kA_ ?_ _)); exact BK337.out) hb); have n7_ := aS_ (below_step (by repeat (first | (with_reducible first | exact HB.out | apply bA_ | apply pN_ | apply bD_ | refine bS_ ?_ GE326.out | refine bS_ ?_ GE337.out) | exact HB.out)) hb); clear HO_327000; clear HO_327001; clear HO_338000; clear HO_338001; clear BK326; clear BK337; clear HB; have HO_327000 := n0_; have HO_327001 := n1_; have HO_338000 := n2_; have HO_338001 := n3_; have HO352 := n4_; have BK326 := n5_; have BK337 := n6_; have HB := n7_; clear n0_ n1_ n2_ n3_ n4_ n5_ n6_ n7_; (try clear hb); (try clear hb2); (try clear hk); (try clear hi); (try clear ho0); obtain ⟨Ao72, co72, eo72⟩ := Kd.R_slice HO352.out; subst eo72) | ((with_reducible refine gate_callee (f := 15) rfl ?_); refine goesL_ (some 73) rfl rfl Try.func15 (by kernel_rfl) rfl #[.slice Ao72 t350.length co72] rfl (by (try simp only [List.map_toArray, List.map_cons, List.map_nil]); first | done | rfl | (simp only [List.length_drop, List.length_take]; rfl)) ?_; (with_reducible refine (impl_RegionOfLabel.calls kj37 _ _ t350 t353 t356 t359 _ ?side1 ?side2 A64.out).mono ?_); (case side1 => repeat (first | exact (Kd.R_reads' HO352.out).2.2 | (with_reducible refine Kd.C_alloc ?_ _) | (with_reducible refine Kd.C_drewN ?_ _) | (with_reducible refine Kd.C_drew ?_))); (case side2 => exact (Kd.R_reads' HO352.out).2.1); rintro e w73 ⟨v354, v357, rfl, ho0, ho1, hb⟩; refine ⟨_, rfl, ?_⟩; have n0_ := aS_ (Kd.R_mono (Kd.R_told (Kd.R_told (Kd.R_old (by (with_reducible repeat (first | apply rA_ | apply rN_ | apply rD_)); exact HO_327000.out) hb) (Kd.R_base ho0)) (Kd.R_base ho1)) (fun _ h_ => h_.1)); have n1_ := aS_ (Kd.R_mono (Kd.R_told (Kd.R_told (Kd.R_old (by (with_reducible repeat (first | apply rA_ | apply rN_ | apply rD_)); exact HO_327001.out) hb) (Kd.R_base ho0)) (Kd.R_base ho1)) (fun _ h_ => h_.1)); have n2_ := aS_ (Kd.R_mono (Kd.R_told (Kd.R_told (Kd.R_old (by (with_reducible repeat (first | apply rA_ | apply rN_ | apply rD_)); exact HO_338000.out) hb) (Kd.R_base ho0)) (Kd.R_base ho1)) (fun _ h_ => h_.1)); have n3_ := aS_ (Kd.R_mono (Kd.R_told (Kd.R_told (Kd.R_old (by (with_reducible repeat (first | apply rA_ | apply rN_ | apply rD_)); exact HO_338001.out) hb) (Kd.R_base ho0)) (Kd.R_base ho1)) (fun _ h_ => h_.1)); have n4_ := aS_ (Kd.R_mono (Kd.R_told (Kd.R_told (Kd.R_old (by (with_reducible repeat (first | apply rA_ | apply rN_ | apply rD_)); exact HO352.out) hb) (Kd.R_base ho0)) (Kd.R_base ho1)) (fun _ h_ => h_.1)); have n5_ := aS_ (Kd.R_lower (Kd.R_new' (Kd.R_new' (Kd.R_new' (Kd.R_new' (Kd.R_new' ho0 (Kd.R_lt (by (with_reducible repeat (first | apply rA_ | apply rN_ | apply rD_)); exact HO_327000.out))) (Kd.R_lt (by (with_reducible repeat (first | apply rA_ | apply rN_ | apply rD_)); exact HO_327001.out))) (Kd.R_lt (by (with_reducible repeat (first | apply rA_ | apply rN_ | apply rD_)); exact HO_338000.out))) (Kd.R_lt (by (with_reducible repeat (first | apply rA_ | apply rN_ | apply rD_)); exact HO_338001.out))) (Kd.R_lt (by (with_reducible repeat (first | apply rA_ | apply rN_ | apply rD_)); exact HO352.out))) (below_size (by repeat (first | (with_reducible first | exact HB.out | apply bA_ | apply pN_ | apply bD_ | refine bS_ ?_ GE326.out | refine bS_ ?_ GE337.out) | exact HB.out)))); have n6_ := aS_ (Kd.R_lower (Kd.R_new' (Kd.R_new' (Kd.R_new' (Kd.R_new' (Kd.R_new' ho1 (Kd.R_lt (by (with_reducible repeat (first | apply rA_ | apply rN_ | apply rD_)); exact HO_327000.out))) (Kd.R_lt (by (with_reducible repeat (first | apply rA_ | apply rN_ | apply rD_)); exact HO_327001.out))) (Kd.R_lt (by (with_reducible repeat (first | apply rA_ | apply rN_ | apply rD_)); exact HO_338000.out))) (Kd.R_lt (by (with_reducible repeat (first | apply rA_ | apply rN_ | apply rD_)); exact HO_338001.out))) (Kd.R_lt (by (with_reducible repeat (first | apply rA_ | apply rN_ | apply rD_)); exact HO352.out))) (below_size (by repeat (first | (with_reducible first | exact HB.out | apply bA_ | apply pN_ | apply bD_ | refine bS_ ?_ GE326.out | refine bS_ ?_ GE337.out) | exact HB.out)))); have n7_ := aS_ (blk_below (g := gb326) (o := .cells #[.slice Ao12 t319.length co12, .slice Ao14 t322.length co14] 24 (0, 0)) (by (with_reducible repeat (first | refine kN_ ?_ _ | refine kD_ ?_ | refine kA_ ?_ _)); exact BK326.out) hb); have n8_ := aS_ (blk_below (g := gb337) (o := .cells #[.slice Ao19 t330.length co19, .slice Ao22 t333.length co22] 24 (0, 0)) (by (with_reducible repeat (first | refine kN_ ?_ _ | refine kD_ ?_ | refine kA_ ?_ _)); exact BK337.out) hb); have n9_ := aS_ (below_step (by repeat (first | (with_reducible first | exact HB.out | apply bA_ | apply pN_ | apply bD_ | refine bS_ ?_ GE326.out | refine bS_ ?_ GE337.out) | exact HB.out)) hb); clear HO_327000; clear HO_327001; clear HO_338000; clear HO_338001; clear HO352; clear BK326; clear BK337; clear HB; have HO_327000 := n0_; have HO_327001 := n1_; have HO_338000 := n2_; have HO_338001 := n3_; have HO352 := n4_; have HO355 := n5_; have HO358 := n6_; have BK326 := n7_; have BK337 := n8_; have HB := n9_; clear n0_ n1_ n2_ n3_ n4_ n5_ n6_ n7_ n8_ n9_; (try clear hb); (try clear hb2); (try clear hk); (try clear hi); (try clear ho0); (try clear ho1)) | ((with_reducible refine gate_dst (N := 11) rfl ?_); refine box_event ?hg (N := 11) ?hd (cs := #[.slice none 0 0, .slice none 0 0]) (t := 24) ?hr ?_; (case hd => rfl); (case hg => rfl); (case hr => first | (go_simp; done) | (go_simp; rfl)); intro gb360 hg w74 hbox hb; have n0_ := aS_ (Kd.R_below (by (with_reducible repeat (first | apply rA_ | apply rN_ | apply rD_)); exact HO_327000.out) hb); have n1_ := aS_ (Kd.R_below (by (with_reducible repeat (first | apply rA_ | apply rN_ | apply rD_)); exact HO_327001.out) hb); have n2_ := aS_ (Kd.R_below (by (with_reducible repeat (first | apply rA_ | apply rN_ | apply rD_)); exact HO_338000.out) hb); have n3_ := aS_ (Kd.R_below (by (with_reducible repeat (first | apply rA_ | apply rN_ | apply rD_)); exact HO_338001.out) hb); have n4_ := aS_ (Kd.R_below (by (with_reducible repeat (first | apply rA_ | apply rN_ | apply rD_)); exact HO352.out) hb); have n5_ := aS_ (Kd.R_below (by (with_reducible repeat (first | apply rA_ | apply rN_ | apply rD_)); exact HO355.out) hb); have n6_ := aS_ (Kd.R_below (by (with_reducible repeat (first | apply rA_ | apply rN_ | apply rD_)); exact HO358.out) hb); have n7_ := aS_ (blk_below (g := gb326) (o := .cells #[.slice Ao12 t319.length co12, .slice Ao14 t322.length co14] 24 (0, 0)) (by (with_reducible repeat (first | refine kN_ ?_ _ | refine kD_ ?_ | refine kA_ ?_ _)); exact BK326.out) hb); have n8_ := aS_ (blk_below (g := gb337) (o := .cells #[.slice Ao19 t330.length co19, .slice Ao22 t333.length co22] 24 (0, 0)) (by (with_reducible repeat (first | refine kN_ ?_ _ | refine kD_ ?_ | refine kA_ ?_ _)); exact BK337.out) hb); have n9_ := aS_ (below_step (by repeat (first | (with_reducible first | exact HB.out | apply bA_ | apply pN_ | apply bD_ | refine bS_ ?_ GE326.out | refine bS_ ?_ GE337.out) | exact HB.out)) hb); have n10_ := aS_ (hbox); have n11_ := aS_ ((by rw [hg]; exact (below_size (by repeat (first | (with_reducible first | exact HB.out | apply bA_ | apply pN_ | apply bD_ | refine bS_ ?_ GE326.out | refine bS_ ?_ GE337.out) | exact HB.out))) : w.heap.size ≤ gb360)); have n12_ := aS_ ((by rw [hg]; exact (below_size (by repeat (first | (with_reducible first | exact HB.out | apply bA_ | apply pN_ | apply bD_ | refine bS_ ?_ GE326.out | refine bS_ ?_ GE337.out) | exact HB.out))) : w.heap.size ≤ gb360)); have n13_ := aS_ ((by rw [hg]; exact Nat.ne_of_lt (blk_lt (g := gb326) (o := .cells #[.slice Ao12 t319.length co12, .slice Ao14 t322.length co14] 24 (0, 0)) (by (with_reducible repeat (first | refine kN_ ?_ _ | refine kD_ ?_ | refine kA_ ?_ _)); exact BK326.out)) : gb326 ≠ gb360)); have n14_ := aS_ ((by rw [hg]; exact Nat.ne_of_gt (blk_lt (g := gb326) (o := .cells #[.slice Ao12 t319.length co12, .slice Ao14 t322.length co14] 24 (0, 0)) (by (with_reducible repeat (first | refine kN_ ?_ _ | refine kD_ ?_ | refine kA_ ?_ _)); exact BK326.out)) : gb360 ≠ gb326)); have n15_ := aS_ ((by rw [hg]; exact Nat.ne_of_lt (blk_lt (g := gb337) (o := .cells #[.slice Ao19 t330.length co19, .slice Ao22 t333.length co22] 24 (0, 0)) (by (with_reducible repeat (first | refine kN_ ?_ _ | refine kD_ ?_ | refine kA_ ?_ _)); exact BK337.out)) : gb337 ≠ gb360)); have n16_ := aS_ ((by rw [hg]; exact Nat.ne_of_gt (blk_lt (g := gb337) (o := .cells #[.slice Ao19 t330.length co19, .slice Ao22 t333.length co22] 24 (0, 0)) (by (with_reducible repeat (first | refine kN_ ?_ _ | refine kD_ ?_ | refine kA_ ?_ _)); exact BK337.out)) : gb360 ≠ gb337)); clear HO_327000; clear HO_327001; clear HO_338000; clear HO_338001; clear HO352; clear HO355; clear HO358; clear BK326; clear BK337; clear HB; have HO_327000 := n0_; have HO_327001 := n1_; have HO_338000 := n2_; have HO_338001 := n3_; have HO352 := n4_; have HO355 := n5_; have HO358 := n6_; have BK326 := n7_; have BK337 := n8_; have HB := n9_; have BK360 := n10_; have GW360 := n11_; have GE360 := n12_; have NB326_360 := n13_; have NB360_326 := n14_; have NB337_360 := n15_; have NB360_337 := n16_; clear n0_ n1_ n2_ n3_ n4_ n5_ n6_ n7_ n8_ n9_ n10_ n11_ n12_ n13_ n14_ n15_ n16_; clear hb hbox hg; obtain ⟨Ao75, co75, eo75⟩ := Kd.R_slice HO355.out; subst eo75; have hnb76 := NB360_326.out; have hnc76 := NB326_360.out; have hnb77 := NB360_337.out; have hnc77 := NB337_360.out; have hcz78_0 : w74.cell? ⟨gb360, 0, none⟩ = some (.slice none 0 0) := (blk_cell BK360.out 0).trans rfl; have hcz78_1 : w74.cell? ⟨gb360, 1, none⟩ = some (.slice none 0 0) := (blk_cell BK360.out 1).trans rfl; have hfz78_0 := blk_frozen BK360.out 0; have hfz78_1 := blk_frozen BK360.out 1; obtain ⟨Ao79, co79, eo79⟩ := Kd.R_slice HO358.out; subst eo79))
           (try simp only [Act.put, List.setIfInBounds_toArray, List.set_cons_zero, List.set_cons_succ])
           go_cut [84] (fun v84 wc => ∃ (kq : Nat) (x84_64 : Bool), v84 = .bool x84_64 ∧ Aside0 (laws_FnExactRegionOfLabel.j2 kq t346 x84_64 t347 t348 = some r) ∧ Aside0 (kq ≤ kj37) ∧ Aside0 (Kd.R (Kd.int .i64) 3 wc w.heap.size (fun k_ => some k_ ≠ ((.slice Ao14 t322.length co14) : Value).ownBlock ∧ some k_ ≠ ((.slice Ao19 t330.length co19) : Value).ownBlock ∧ some k_ ≠ ((.slice Ao22 t333.length co22) : Value).ownBlock ∧ some k_ ≠ ((.slice Ao75 t353.length co75) : Value).ownBlock ∧ some k_ ≠ ((.slice Ao79 t356.length co79) : Value).ownBlock) (.slice Ao12 t319.length co12) t319) ∧ Aside0 (Kd.R (Kd.int .i64) 3 wc w.heap.size (fun k_ => some k_ ≠ ((.slice Ao12 t319.length co12) : Value).ownBlock ∧ some k_ ≠ ((.slice Ao19 t330.length co19) : Value).ownBlock ∧ some k_ ≠ ((.slice Ao22 t333.length co22) : Value).ownBlock ∧ some k_ ≠ ((.slice Ao75 t353.length co75) : Value).ownBlock ∧ some k_ ≠ ((.slice Ao79 t356.length co79) : Value).ownBlock) (.slice Ao14 t322.length co14) t322) ∧ Aside0 (Kd.R (Kd.int .i64) 3 wc w.heap.size (fun k_ => some k_ ≠ ((.slice Ao12 t319.length co12) : Value).ownBlock ∧ some k_ ≠ ((.slice Ao14 t322.length co14) : Value).ownBlock ∧ some k_ ≠ ((.slice Ao22 t333.length co22) : Value).ownBlock ∧ some k_ ≠ ((.slice Ao75 t353.length co75) : Value).ownBlock ∧ some k_ ≠ ((.slice Ao79 t356.length co79) : Value).ownBlock) (.slice Ao19 t330.length co19) t347) ∧ Aside0 (Kd.R (Kd.int .i64) 3 wc w.heap.size (fun k_ => some k_ ≠ ((.slice Ao12 t319.length co12) : Value).ownBlock ∧ some k_ ≠ ((.slice Ao14 t322.length co14) : Value).ownBlock ∧ some k_ ≠ ((.slice Ao19 t330.length co19) : Value).ownBlock ∧ some k_ ≠ ((.slice Ao75 t353.length co75) : Value).ownBlock ∧ some k_ ≠ ((.slice Ao79 t356.length co79) : Value).ownBlock) (.slice Ao22 t333.length co22) t348) ∧ Aside0 (Kd.R (Kd.int .i64) 3 wc w.heap.size (fun k_ => some k_ ≠ ((.slice Ao12 t319.length co12) : Value).ownBlock ∧ some k_ ≠ ((.slice Ao14 t322.length co14) : Value).ownBlock ∧ some k_ ≠ ((.slice Ao19 t330.length co19) : Value).ownBlock ∧ some k_ ≠ ((.slice Ao22 t333.length co22) : Value).ownBlock ∧ some k_ ≠ ((.slice Ao79 t356.length co79) : Value).ownBlock) (.slice Ao75 t353.length co75) t353) ∧ Aside0 (Kd.R (Kd.int .i64) 3 wc w.heap.size (fun k_ => some k_ ≠ ((.slice Ao12 t319.length co12) : Value).ownBlock ∧ some k_ ≠ ((.slice Ao14 t322.length co14) : Value).ownBlock ∧ some k_ ≠ ((.slice Ao19 t330.length co19) : Value).ownBlock ∧ some k_ ≠ ((.slice Ao22 t333.length co22) : Value).ownBlock ∧ some k_ ≠ ((.slice Ao75 t353.length co75) : Value).ownBlock) (.slice Ao79 t356.length co79) t356) ∧ Aside0 (wc.heap[gb326]? = some (.cells #[(.slice Ao12 t319.length co12), (.slice Ao14 t322.length co14)] 24 (0, 0))) ∧ Aside0 (wc.heap[gb337]? = some (.cells #[(.slice Ao19 t330.length co19), (.slice Ao22 t333.length co22)] 24 (0, 0))) ∧ Aside0 (wc.heap[gb360]? = some (.cells #[(.slice Ao75 t353.length co75), (.slice Ao79 t356.length co79)] 24 (0, 0))) ∧ Aside0 (Below w.heap.size w wc))
           case first =>
            have H := HC65.out
            clear HC65
            replace H := Option.bind_eq_some_iff.mp H
            obtain ⟨t361, A800, H⟩ := H
            have A80 := aS_ A800
            clear A800
            by_cases c81 : t361 = true
            ·subst c81
             rw [if_pos rfl] at H
             have H' := aS_ H
             clear H
             have hnb82 := NB360_326.out
             have hnc82 := NB326_360.out
             have hnb83 := NB360_337.out
             have hnc83 := NB337_360.out
             have hcz84_0 : w74.cell? ⟨gb360, 0, none⟩ = some (.slice none 0 0) := (blk_cell BK360.out 0).trans rfl
             have hcz84_1 : w74.cell? ⟨gb360, 1, none⟩ = some (.slice none 0 0) := (blk_cell BK360.out 1).trans rfl
             have hfz84_0 := blk_frozen BK360.out 0
             have hfz84_1 := blk_frozen BK360.out 1
             have hnb85 := NB326_337.out
             have hnc85 := NB337_326.out
             have hcz86_0 : w74.cell? ⟨gb326, 0, none⟩ = some (.slice Ao12 t319.length co12) := (blk_cell BK326.out 0).trans rfl
             have hcz86_1 : w74.cell? ⟨gb326, 1, none⟩ = some (.slice Ao14 t322.length co14) := (blk_cell BK326.out 1).trans rfl
             have hfz86_0 := blk_frozen BK326.out 0
             have hfz86_1 := blk_frozen BK326.out 1
             go_wp2_with (first | ((with_reducible refine gate_callee (f := 10) rfl ?_); refine goesL_ (some 78) rfl rfl Try.func10 (by kernel_rfl) rfl #[.agg #[.slice Ao75 t353.length co75, .slice Ao79 t356.length co79], .agg #[.slice Ao12 t319.length co12, .slice Ao14 t322.length co14]] rfl (by (try simp only [List.map_toArray, List.map_cons, List.map_nil]); first | done | rfl | (simp only [List.length_drop, List.length_take]; rfl)) ?_; (with_reducible refine (laws_eqRegion.calls kj37 _ _ t353 _ _ t356 _ _ t319 _ _ t322 true _ ?side1 ?side2 ?side3 ?side4 ?side5 ?side6 ?side7 ?side8 A80.out).mono ?_); (case side1 => refine (Kd.R_reads' (e := 3) (base := w.heap.size) (ok := fun k_ => (((((some k_ ≠ (.slice Ao79 t356.length co79 : Value).ownBlock ∧ some k_ ≠ (.slice Ao12 t319.length co12 : Value).ownBlock) ∧ some k_ ≠ (.slice Ao14 t322.length co14 : Value).ownBlock) ∧ some k_ ≠ (.slice Ao19 t330.length co19 : Value).ownBlock) ∧ some k_ ≠ (.slice Ao22 t333.length co22 : Value).ownBlock) ∧ some k_ ≠ (.slice Ao72 t350.length co72 : Value).ownBlock)) (n := t353.length) (c := co75) ?_).2.2; exact (by (with_reducible repeat (first | apply rA_ | apply rN_ | apply rD_)); exact (Kd.R_mono (Kd.R_far (p := ⟨gb360, 1, none⟩) (Kd.R_far (p := ⟨gb360, 0, none⟩) (Kd.R_types HO355.out BK360.out (by decide)) (fun _ hk => hk.2) (.slice Ao75 t353.length co75)) (fun _ hk => hk.2) (.slice Ao79 t356.length co79)) (fun _ h_ => h_.1)))); (case side2 => exact (Kd.R_reads' HO355.out).2.1); (case side3 => refine (Kd.R_reads' (e := 3) (base := w.heap.size) (ok := fun k_ => (((((some k_ ≠ (.slice Ao75 t353.length co75 : Value).ownBlock ∧ some k_ ≠ (.slice Ao12 t319.length co12 : Value).ownBlock) ∧ some k_ ≠ (.slice Ao14 t322.length co14 : Value).ownBlock) ∧ some k_ ≠ (.slice Ao19 t330.length co19 : Value).ownBlock) ∧ some k_ ≠ (.slice Ao22 t333.length co22 : Value).ownBlock) ∧ some k_ ≠ (.slice Ao72 t350.length co72 : Value).ownBlock)) (n := t356.length) (c := co79) ?_).2.2; exact (by (with_reducible repeat (first | apply rA_ | apply rN_ | apply rD_)); exact (Kd.R_mono (Kd.R_far (p := ⟨gb360, 1, none⟩) (Kd.R_far (p := ⟨gb360, 0, none⟩) (Kd.R_types HO358.out BK360.out (by decide)) (fun _ hk => hk.2) (.slice Ao75 t353.length co75)) (fun _ hk => hk.2) (.slice Ao79 t356.length co79)) (fun _ h_ => h_.1)))); (case side4 => exact (Kd.R_reads' HO358.out).2.1); (case side5 => refine (Kd.R_reads' (e := 3) (base := w.heap.size) (ok := fun k_ => ((((some k_ ≠ (.slice Ao14 t322.length co14 : Value).ownBlock ∧ (some k_ ≠ (.slice Ao19 t330.length co19 : Value).ownBlock ∧ some k_ ≠ (.slice Ao22 t333.length co22 : Value).ownBlock)) ∧ some k_ ≠ (.slice Ao72 t350.length co72 : Value).ownBlock) ∧ some k_ ≠ (.slice Ao75 t353.length co75 : Value).ownBlock) ∧ some k_ ≠ (.slice Ao79 t356.length co79 : Value).ownBlock)) (n := t319.length) (c := co12) ?_).2.2; exact (by (with_reducible repeat (first | apply rA_ | apply rN_ | apply rD_)); exact (Kd.R_mono (Kd.R_far (p := ⟨gb360, 1, none⟩) (Kd.R_far (p := ⟨gb360, 0, none⟩) (Kd.R_types HO_327000.out BK360.out (by decide)) (fun _ hk => hk.2) (.slice Ao75 t353.length co75)) (fun _ hk => hk.2) (.slice Ao79 t356.length co79)) (fun _ h_ => h_.1)))); (case side6 => exact (Kd.R_reads' HO_327000.out).2.1); (case side7 => refine (Kd.R_reads' (e := 3) (base := w.heap.size) (ok := fun k_ => ((((some k_ ≠ (.slice Ao12 t319.length co12 : Value).ownBlock ∧ (some k_ ≠ (.slice Ao19 t330.length co19 : Value).ownBlock ∧ some k_ ≠ (.slice Ao22 t333.length co22 : Value).ownBlock)) ∧ some k_ ≠ (.slice Ao72 t350.length co72 : Value).ownBlock) ∧ some k_ ≠ (.slice Ao75 t353.length co75 : Value).ownBlock) ∧ some k_ ≠ (.slice Ao79 t356.length co79 : Value).ownBlock)) (n := t322.length) (c := co14) ?_).2.2; exact (by (with_reducible repeat (first | apply rA_ | apply rN_ | apply rD_)); exact (Kd.R_mono (Kd.R_far (p := ⟨gb360, 1, none⟩) (Kd.R_far (p := ⟨gb360, 0, none⟩) (Kd.R_types HO_327001.out BK360.out (by decide)) (fun _ hk => hk.2) (.slice Ao75 t353.length co75)) (fun _ hk => hk.2) (.slice Ao79 t356.length co79)) (fun _ h_ => h_.1)))); (case side8 => exact (Kd.R_reads' HO_327001.out).2.1); rintro e w87 ⟨rfl, hb⟩; refine ⟨_, rfl, ?_⟩; have n0_ := aS_ (Kd.R_below (by (with_reducible repeat (first | apply rA_ | apply rN_ | apply rD_)); exact (Kd.R_mono (Kd.R_far (p := ⟨gb360, 1, none⟩) (Kd.R_far (p := ⟨gb360, 0, none⟩) (Kd.R_types HO_327000.out BK360.out (by decide)) (fun _ hk => hk.2) (.slice Ao75 t353.length co75)) (fun _ hk => hk.2) (.slice Ao79 t356.length co79)) (fun _ h_ => h_.1))) hb); have n1_ := aS_ (Kd.R_below (by (with_reducible repeat (first | apply rA_ | apply rN_ | apply rD_)); exact (Kd.R_mono (Kd.R_far (p := ⟨gb360, 1, none⟩) (Kd.R_far (p := ⟨gb360, 0, none⟩) (Kd.R_types HO_327001.out BK360.out (by decide)) (fun _ hk => hk.2) (.slice Ao75 t353.length co75)) (fun _ hk => hk.2) (.slice Ao79 t356.length co79)) (fun _ h_ => h_.1))) hb); have n2_ := aS_ (Kd.R_below (by (with_reducible repeat (first | apply rA_ | apply rN_ | apply rD_)); exact (Kd.R_mono (Kd.R_far (p := ⟨gb360, 1, none⟩) (Kd.R_far (p := ⟨gb360, 0, none⟩) (Kd.R_types HO_338000.out BK360.out (by decide)) (fun _ hk => hk.2) (.slice Ao75 t353.length co75)) (fun _ hk => hk.2) (.slice Ao79 t356.length co79)) (fun _ h_ => h_.1))) hb); have n3_ := aS_ (Kd.R_below (by (with_reducible repeat (first | apply rA_ | apply rN_ | apply rD_)); exact (Kd.R_mono (Kd.R_far (p := ⟨gb360, 1, none⟩) (Kd.R_far (p := ⟨gb360, 0, none⟩) (Kd.R_types HO_338001.out BK360.out (by decide)) (fun _ hk => hk.2) (.slice Ao75 t353.length co75)) (fun _ hk => hk.2) (.slice Ao79 t356.length co79)) (fun _ h_ => h_.1))) hb); have n4_ := aS_ (Kd.R_below (by (with_reducible repeat (first | apply rA_ | apply rN_ | apply rD_)); exact (Kd.R_mono (Kd.R_far (p := ⟨gb360, 1, none⟩) (Kd.R_far (p := ⟨gb360, 0, none⟩) (Kd.R_types HO352.out BK360.out (by decide)) (fun _ hk => hk.2) (.slice Ao75 t353.length co75)) (fun _ hk => hk.2) (.slice Ao79 t356.length co79)) (fun _ h_ => h_.1))) hb); have n5_ := aS_ (Kd.R_below (by (with_reducible repeat (first | apply rA_ | apply rN_ | apply rD_)); exact (Kd.R_mono (Kd.R_far (p := ⟨gb360, 1, none⟩) (Kd.R_far (p := ⟨gb360, 0, none⟩) (Kd.R_types HO355.out BK360.out (by decide)) (fun _ hk => hk.2) (.slice Ao75 t353.length co75)) (fun _ hk => hk.2) (.slice Ao79 t356.length co79)) (fun _ h_ => h_.1))) hb); have n6_ := aS_ (Kd.R_below (by (with_reducible repeat (first | apply rA_ | apply rN_ | apply rD_)); exact (Kd.R_mono (Kd.R_far (p := ⟨gb360, 1, none⟩) (Kd.R_far (p := ⟨gb360, 0, none⟩) (Kd.R_types HO358.out BK360.out (by decide)) (fun _ hk => hk.2) (.slice Ao75 t353.length co75)) (fun _ hk => hk.2) (.slice Ao79 t356.length co79)) (fun _ h_ => h_.1))) hb); have n7_ := aS_ (blk_below (g := gb326) (o := .cells #[.slice Ao12 t319.length co12, .slice Ao14 t322.length co14] 24 (0, 0)) (by (with_reducible repeat (first | refine kN_ ?_ _ | refine kD_ ?_ | refine kA_ ?_ _)); refine blk_far ?_ NB326_360.out _; (with_reducible repeat (first | refine kN_ ?_ _ | refine kD_ ?_ | refine kA_ ?_ _)); refine blk_far ?_ NB326_360.out _; (with_reducible repeat (first | refine kN_ ?_ _ | refine kD_ ?_ | refine kA_ ?_ _)); exact BK326.out) hb); have n8_ := aS_ (blk_below (g := gb337) (o := .cells #[.slice Ao19 t330.length co19, .slice Ao22 t333.length co22] 24 (0, 0)) (by (with_reducible repeat (first | refine kN_ ?_ _ | refine kD_ ?_ | refine kA_ ?_ _)); refine blk_far ?_ NB337_360.out _; (with_reducible repeat (first | refine kN_ ?_ _ | refine kD_ ?_ | refine kA_ ?_ _)); refine blk_far ?_ NB337_360.out _; (with_reducible repeat (first | refine kN_ ?_ _ | refine kD_ ?_ | refine kA_ ?_ _)); exact BK337.out) hb); have n9_ := aS_ (blk_below (g := gb360) (o := .cells #[.slice Ao75 t353.length co75, .slice Ao79 t356.length co79] 24 (0, 0)) (by (with_reducible repeat (first | refine kN_ ?_ _ | refine kD_ ?_ | refine kA_ ?_ _)); refine blk_put (cs := #[.slice Ao75 t353.length co75, .slice none 0 0]) ?_ 1 _ rfl; (with_reducible repeat (first | refine kN_ ?_ _ | refine kD_ ?_ | refine kA_ ?_ _)); refine blk_put (cs := #[.slice none 0 0, .slice none 0 0]) ?_ 0 _ rfl; (with_reducible repeat (first | refine kN_ ?_ _ | refine kD_ ?_ | refine kA_ ?_ _)); exact BK360.out) hb); have n10_ := aS_ (below_step (by repeat (first | (with_reducible first | exact HB.out | apply bA_ | apply pN_ | apply bD_ | refine bS_ ?_ GE326.out | refine bS_ ?_ GE337.out | refine bS_ ?_ GE360.out) | exact HB.out)) hb); clear HO_327000; clear HO_327001; clear HO_338000; clear HO_338001; clear HO352; clear HO355; clear HO358; clear BK326; clear BK337; clear BK360; clear HB; have HO_327000 := n0_; have HO_327001 := n1_; have HO_338000 := n2_; have HO_338001 := n3_; have HO352 := n4_; have HO355 := n5_; have HO358 := n6_; have BK326 := n7_; have BK337 := n8_; have BK360 := n9_; have HB := n10_; clear n0_ n1_ n2_ n3_ n4_ n5_ n6_ n7_ n8_ n9_ n10_; (try clear hb); (try clear hb2); (try clear hk); (try clear hi)))
             go_meet
             case rel => exact ⟨_, ((t359 != t325)), (by first | rfl | (simp; done) | (simp [*]; done)), H', ⟨by have := HJ6.out; have := HJ37.out; first | omega | exact Nat.le_refl _⟩, ⟨by (with_reducible repeat (first | apply rA_ | apply rN_ | apply rD_)); exact Kd.R_mono HO_327000.out (fun _ hk => ⟨hk.1.1.1.1, ⟨hk.1.1.1.2.1, ⟨hk.1.1.1.2.2, ⟨hk.1.2, hk.2⟩⟩⟩⟩)⟩, ⟨by (with_reducible repeat (first | apply rA_ | apply rN_ | apply rD_)); exact Kd.R_mono HO_327001.out (fun _ hk => ⟨hk.1.1.1.1, ⟨hk.1.1.1.2.1, ⟨hk.1.1.1.2.2, ⟨hk.1.2, hk.2⟩⟩⟩⟩)⟩, ⟨by (with_reducible repeat (first | apply rA_ | apply rN_ | apply rD_)); exact Kd.R_mono HO_338000.out (fun _ hk => ⟨hk.1.1.1.1, ⟨hk.1.1.1.2.1, ⟨hk.1.1.1.2.2, ⟨hk.1.2, hk.2⟩⟩⟩⟩)⟩, ⟨by (with_reducible repeat (first | apply rA_ | apply rN_ | apply rD_)); exact Kd.R_mono HO_338001.out (fun _ hk => ⟨hk.1.1.1.1, ⟨hk.1.1.1.2.1, ⟨hk.1.1.1.2.2, ⟨hk.1.2, hk.2⟩⟩⟩⟩)⟩, ⟨by (with_reducible repeat (first | apply rA_ | apply rN_ | apply rD_)); exact Kd.R_mono HO355.out (fun _ hk => ⟨hk.1.1.1.1.2, ⟨hk.1.1.1.2, ⟨hk.1.1.2, ⟨hk.1.2, hk.1.1.1.1.1⟩⟩⟩⟩)⟩, ⟨by (with_reducible repeat (first | apply rA_ | apply rN_ | apply rD_)); exact Kd.R_mono HO358.out (fun _ hk => ⟨hk.1.1.1.1.2, ⟨hk.1.1.1.2, ⟨hk.1.1.2, ⟨hk.1.2, hk.1.1.1.1.1⟩⟩⟩⟩)⟩, ⟨by (with_reducible repeat (first | refine kN_ ?_ _ | refine kD_ ?_ | refine kA_ ?_ _)); exact BK326.out⟩, ⟨by (with_reducible repeat (first | refine kN_ ?_ _ | refine kD_ ?_ | refine kA_ ?_ _)); exact BK337.out⟩, ⟨by (with_reducible repeat (first | refine kN_ ?_ _ | refine kD_ ?_ | refine kA_ ?_ _)); exact BK360.out⟩, ⟨by repeat (first | (with_reducible first | exact HB.out | apply bA_ | apply pN_ | apply bD_ | refine bS_ ?_ GE326.out | refine bS_ ?_ GE337.out | refine bS_ ?_ GE360.out) | exact HB.out)⟩⟩
            ·replace c81 := Bool.eq_false_iff.mpr c81
             subst c81
             rw [if_neg (show ¬ (false = true) by decide)] at H
             have H' := aS_ H
             clear H
             have hnb88 := NB360_326.out
             have hnc88 := NB326_360.out
             have hnb89 := NB360_337.out
             have hnc89 := NB337_360.out
             have hcz90_0 : w74.cell? ⟨gb360, 0, none⟩ = some (.slice none 0 0) := (blk_cell BK360.out 0).trans rfl
             have hcz90_1 : w74.cell? ⟨gb360, 1, none⟩ = some (.slice none 0 0) := (blk_cell BK360.out 1).trans rfl
             have hfz90_0 := blk_frozen BK360.out 0
             have hfz90_1 := blk_frozen BK360.out 1
             have hnb91 := NB326_337.out
             have hnc91 := NB337_326.out
             have hcz92_0 : w74.cell? ⟨gb326, 0, none⟩ = some (.slice Ao12 t319.length co12) := (blk_cell BK326.out 0).trans rfl
             have hcz92_1 : w74.cell? ⟨gb326, 1, none⟩ = some (.slice Ao14 t322.length co14) := (blk_cell BK326.out 1).trans rfl
             have hfz92_0 := blk_frozen BK326.out 0
             have hfz92_1 := blk_frozen BK326.out 1
             go_wp2_with (first | ((with_reducible refine gate_callee (f := 10) rfl ?_); refine goesL_ (some 78) rfl rfl Try.func10 (by kernel_rfl) rfl #[.agg #[.slice Ao75 t353.length co75, .slice Ao79 t356.length co79], .agg #[.slice Ao12 t319.length co12, .slice Ao14 t322.length co14]] rfl (by (try simp only [List.map_toArray, List.map_cons, List.map_nil]); first | done | rfl | (simp only [List.length_drop, List.length_take]; rfl)) ?_; (with_reducible refine (laws_eqRegion.calls kj37 _ _ t353 _ _ t356 _ _ t319 _ _ t322 false _ ?side1 ?side2 ?side3 ?side4 ?side5 ?side6 ?side7 ?side8 A80.out).mono ?_); (case side1 => refine (Kd.R_reads' (e := 3) (base := w.heap.size) (ok := fun k_ => (((((some k_ ≠ (.slice Ao79 t356.length co79 : Value).ownBlock ∧ some k_ ≠ (.slice Ao12 t319.length co12 : Value).ownBlock) ∧ some k_ ≠ (.slice Ao14 t322.length co14 : Value).ownBlock) ∧ some k_ ≠ (.slice Ao19 t330.length co19 : Value).ownBlock) ∧ some k_ ≠ (.slice Ao22 t333.length co22 : Value).ownBlock) ∧ some k_ ≠ (.slice Ao72 t350.length co72 : Value).ownBlock)) (n := t353.length) (c := co75) ?_).2.2; exact (by (with_reducible repeat (first | apply rA_ | apply rN_ | apply rD_)); exact (Kd.R_mono (Kd.R_far (p := ⟨gb360, 1, none⟩) (Kd.R_far (p := ⟨gb360, 0, none⟩) (Kd.R_types HO355.out BK360.out (by decide)) (fun _ hk => hk.2) (.slice Ao75 t353.length co75)) (fun _ hk => hk.2) (.slice Ao79 t356.length co79)) (fun _ h_ => h_.1)))); (case side2 => exact (Kd.R_reads' HO355.out).2.1); (case side3 => refine (Kd.R_reads' (e := 3) (base := w.heap.size) (ok := fun k_ => (((((some k_ ≠ (.slice Ao75 t353.length co75 : Value).ownBlock ∧ some k_ ≠ (.slice Ao12 t319.length co12 : Value).ownBlock) ∧ some k_ ≠ (.slice Ao14 t322.length co14 : Value).ownBlock) ∧ some k_ ≠ (.slice Ao19 t330.length co19 : Value).ownBlock) ∧ some k_ ≠ (.slice Ao22 t333.length co22 : Value).ownBlock) ∧ some k_ ≠ (.slice Ao72 t350.length co72 : Value).ownBlock)) (n := t356.length) (c := co79) ?_).2.2; exact (by (with_reducible repeat (first | apply rA_ | apply rN_ | apply rD_)); exact (Kd.R_mono (Kd.R_far (p := ⟨gb360, 1, none⟩) (Kd.R_far (p := ⟨gb360, 0, none⟩) (Kd.R_types HO358.out BK360.out (by decide)) (fun _ hk => hk.2) (.slice Ao75 t353.length co75)) (fun _ hk => hk.2) (.slice Ao79 t356.length co79)) (fun _ h_ => h_.1)))); (case side4 => exact (Kd.R_reads' HO358.out).2.1); (case side5 => refine (Kd.R_reads' (e := 3) (base := w.heap.size) (ok := fun k_ => ((((some k_ ≠ (.slice Ao14 t322.length co14 : Value).ownBlock ∧ (some k_ ≠ (.slice Ao19 t330.length co19 : Value).ownBlock ∧ some k_ ≠ (.slice Ao22 t333.length co22 : Value).ownBlock)) ∧ some k_ ≠ (.slice Ao72 t350.length co72 : Value).ownBlock) ∧ some k_ ≠ (.slice Ao75 t353.length co75 : Value).ownBlock) ∧ some k_ ≠ (.slice Ao79 t356.length co79 : Value).ownBlock)) (n := t319.length) (c := co12) ?_).2.2; exact (by (with_reducible repeat (first | apply rA_ | apply rN_ | apply rD_)); exact (Kd.R_mono (Kd.R_far (p := ⟨gb360, 1, none⟩) (Kd.R_far (p := ⟨gb360, 0, none⟩) (Kd.R_types HO_327000.out BK360.out (by decide)) (fun _ hk => hk.2) (.slice Ao75 t353.length co75)) (fun _ hk => hk.2) (.slice Ao79 t356.length co79)) (fun _ h_ => h_.1)))); (case side6 => exact (Kd.R_reads' HO_327000.out).2.1); (case side7 => refine (Kd.R_reads' (e := 3) (base := w.heap.size) (ok := fun k_ => ((((some k_ ≠ (.slice Ao12 t319.length co12 : Value).ownBlock ∧ (some k_ ≠ (.slice Ao19 t330.length co19 : Value).ownBlock ∧ some k_ ≠ (.slice Ao22 t333.length co22 : Value).ownBlock)) ∧ some k_ ≠ (.slice Ao72 t350.length co72 : Value).ownBlock) ∧ some k_ ≠ (.slice Ao75 t353.length co75 : Value).ownBlock) ∧ some k_ ≠ (.slice Ao79 t356.length co79 : Value).ownBlock)) (n := t322.length) (c := co14) ?_).2.2; exact (by (with_reducible repeat (first | apply rA_ | apply rN_ | apply rD_)); exact (Kd.R_mono (Kd.R_far (p := ⟨gb360, 1, none⟩) (Kd.R_far (p := ⟨gb360, 0, none⟩) (Kd.R_types HO_327001.out BK360.out (by decide)) (fun _ hk => hk.2) (.slice Ao75 t353.length co75)) (fun _ hk => hk.2) (.slice Ao79 t356.length co79)) (fun _ h_ => h_.1)))); (case side8 => exact (Kd.R_reads' HO_327001.out).2.1); rintro e w93 ⟨rfl, hb⟩; refine ⟨_, rfl, ?_⟩; have n0_ := aS_ (Kd.R_below (by (with_reducible repeat (first | apply rA_ | apply rN_ | apply rD_)); exact (Kd.R_mono (Kd.R_far (p := ⟨gb360, 1, none⟩) (Kd.R_far (p := ⟨gb360, 0, none⟩) (Kd.R_types HO_327000.out BK360.out (by decide)) (fun _ hk => hk.2) (.slice Ao75 t353.length co75)) (fun _ hk => hk.2) (.slice Ao79 t356.length co79)) (fun _ h_ => h_.1))) hb); have n1_ := aS_ (Kd.R_below (by (with_reducible repeat (first | apply rA_ | apply rN_ | apply rD_)); exact (Kd.R_mono (Kd.R_far (p := ⟨gb360, 1, none⟩) (Kd.R_far (p := ⟨gb360, 0, none⟩) (Kd.R_types HO_327001.out BK360.out (by decide)) (fun _ hk => hk.2) (.slice Ao75 t353.length co75)) (fun _ hk => hk.2) (.slice Ao79 t356.length co79)) (fun _ h_ => h_.1))) hb); have n2_ := aS_ (Kd.R_below (by (with_reducible repeat (first | apply rA_ | apply rN_ | apply rD_)); exact (Kd.R_mono (Kd.R_far (p := ⟨gb360, 1, none⟩) (Kd.R_far (p := ⟨gb360, 0, none⟩) (Kd.R_types HO_338000.out BK360.out (by decide)) (fun _ hk => hk.2) (.slice Ao75 t353.length co75)) (fun _ hk => hk.2) (.slice Ao79 t356.length co79)) (fun _ h_ => h_.1))) hb); have n3_ := aS_ (Kd.R_below (by (with_reducible repeat (first | apply rA_ | apply rN_ | apply rD_)); exact (Kd.R_mono (Kd.R_far (p := ⟨gb360, 1, none⟩) (Kd.R_far (p := ⟨gb360, 0, none⟩) (Kd.R_types HO_338001.out BK360.out (by decide)) (fun _ hk => hk.2) (.slice Ao75 t353.length co75)) (fun _ hk => hk.2) (.slice Ao79 t356.length co79)) (fun _ h_ => h_.1))) hb); have n4_ := aS_ (Kd.R_below (by (with_reducible repeat (first | apply rA_ | apply rN_ | apply rD_)); exact (Kd.R_mono (Kd.R_far (p := ⟨gb360, 1, none⟩) (Kd.R_far (p := ⟨gb360, 0, none⟩) (Kd.R_types HO352.out BK360.out (by decide)) (fun _ hk => hk.2) (.slice Ao75 t353.length co75)) (fun _ hk => hk.2) (.slice Ao79 t356.length co79)) (fun _ h_ => h_.1))) hb); have n5_ := aS_ (Kd.R_below (by (with_reducible repeat (first | apply rA_ | apply rN_ | apply rD_)); exact (Kd.R_mono (Kd.R_far (p := ⟨gb360, 1, none⟩) (Kd.R_far (p := ⟨gb360, 0, none⟩) (Kd.R_types HO355.out BK360.out (by decide)) (fun _ hk => hk.2) (.slice Ao75 t353.length co75)) (fun _ hk => hk.2) (.slice Ao79 t356.length co79)) (fun _ h_ => h_.1))) hb); have n6_ := aS_ (Kd.R_below (by (with_reducible repeat (first | apply rA_ | apply rN_ | apply rD_)); exact (Kd.R_mono (Kd.R_far (p := ⟨gb360, 1, none⟩) (Kd.R_far (p := ⟨gb360, 0, none⟩) (Kd.R_types HO358.out BK360.out (by decide)) (fun _ hk => hk.2) (.slice Ao75 t353.length co75)) (fun _ hk => hk.2) (.slice Ao79 t356.length co79)) (fun _ h_ => h_.1))) hb); have n7_ := aS_ (blk_below (g := gb326) (o := .cells #[.slice Ao12 t319.length co12, .slice Ao14 t322.length co14] 24 (0, 0)) (by (with_reducible repeat (first | refine kN_ ?_ _ | refine kD_ ?_ | refine kA_ ?_ _)); refine blk_far ?_ NB326_360.out _; (with_reducible repeat (first | refine kN_ ?_ _ | refine kD_ ?_ | refine kA_ ?_ _)); refine blk_far ?_ NB326_360.out _; (with_reducible repeat (first | refine kN_ ?_ _ | refine kD_ ?_ | refine kA_ ?_ _)); exact BK326.out) hb); have n8_ := aS_ (blk_below (g := gb337) (o := .cells #[.slice Ao19 t330.length co19, .slice Ao22 t333.length co22] 24 (0, 0)) (by (with_reducible repeat (first | refine kN_ ?_ _ | refine kD_ ?_ | refine kA_ ?_ _)); refine blk_far ?_ NB337_360.out _; (with_reducible repeat (first | refine kN_ ?_ _ | refine kD_ ?_ | refine kA_ ?_ _)); refine blk_far ?_ NB337_360.out _; (with_reducible repeat (first | refine kN_ ?_ _ | refine kD_ ?_ | refine kA_ ?_ _)); exact BK337.out) hb); have n9_ := aS_ (blk_below (g := gb360) (o := .cells #[.slice Ao75 t353.length co75, .slice Ao79 t356.length co79] 24 (0, 0)) (by (with_reducible repeat (first | refine kN_ ?_ _ | refine kD_ ?_ | refine kA_ ?_ _)); refine blk_put (cs := #[.slice Ao75 t353.length co75, .slice none 0 0]) ?_ 1 _ rfl; (with_reducible repeat (first | refine kN_ ?_ _ | refine kD_ ?_ | refine kA_ ?_ _)); refine blk_put (cs := #[.slice none 0 0, .slice none 0 0]) ?_ 0 _ rfl; (with_reducible repeat (first | refine kN_ ?_ _ | refine kD_ ?_ | refine kA_ ?_ _)); exact BK360.out) hb); have n10_ := aS_ (below_step (by repeat (first | (with_reducible first | exact HB.out | apply bA_ | apply pN_ | apply bD_ | refine bS_ ?_ GE326.out | refine bS_ ?_ GE337.out | refine bS_ ?_ GE360.out) | exact HB.out)) hb); clear HO_327000; clear HO_327001; clear HO_338000; clear HO_338001; clear HO352; clear HO355; clear HO358; clear BK326; clear BK337; clear BK360; clear HB; have HO_327000 := n0_; have HO_327001 := n1_; have HO_338000 := n2_; have HO_338001 := n3_; have HO352 := n4_; have HO355 := n5_; have HO358 := n6_; have BK326 := n7_; have BK337 := n8_; have BK360 := n9_; have HB := n10_; clear n0_ n1_ n2_ n3_ n4_ n5_ n6_ n7_ n8_ n9_ n10_; (try clear hb); (try clear hb2); (try clear hk); (try clear hi)))
             go_meet
             case rel => exact ⟨_, (true), (by first | rfl | (simp; done) | (simp [*]; done)), H', ⟨by have := HJ6.out; have := HJ37.out; first | omega | exact Nat.le_refl _⟩, ⟨by (with_reducible repeat (first | apply rA_ | apply rN_ | apply rD_)); exact Kd.R_mono HO_327000.out (fun _ hk => ⟨hk.1.1.1.1, ⟨hk.1.1.1.2.1, ⟨hk.1.1.1.2.2, ⟨hk.1.2, hk.2⟩⟩⟩⟩)⟩, ⟨by (with_reducible repeat (first | apply rA_ | apply rN_ | apply rD_)); exact Kd.R_mono HO_327001.out (fun _ hk => ⟨hk.1.1.1.1, ⟨hk.1.1.1.2.1, ⟨hk.1.1.1.2.2, ⟨hk.1.2, hk.2⟩⟩⟩⟩)⟩, ⟨by (with_reducible repeat (first | apply rA_ | apply rN_ | apply rD_)); exact Kd.R_mono HO_338000.out (fun _ hk => ⟨hk.1.1.1.1, ⟨hk.1.1.1.2.1, ⟨hk.1.1.1.2.2, ⟨hk.1.2, hk.2⟩⟩⟩⟩)⟩, ⟨by (with_reducible repeat (first | apply rA_ | apply rN_ | apply rD_)); exact Kd.R_mono HO_338001.out (fun _ hk => ⟨hk.1.1.1.1, ⟨hk.1.1.1.2.1, ⟨hk.1.1.1.2.2, ⟨hk.1.2, hk.2⟩⟩⟩⟩)⟩, ⟨by (with_reducible repeat (first | apply rA_ | apply rN_ | apply rD_)); exact Kd.R_mono HO355.out (fun _ hk => ⟨hk.1.1.1.1.2, ⟨hk.1.1.1.2, ⟨hk.1.1.2, ⟨hk.1.2, hk.1.1.1.1.1⟩⟩⟩⟩)⟩, ⟨by (with_reducible repeat (first | apply rA_ | apply rN_ | apply rD_)); exact Kd.R_mono HO358.out (fun _ hk => ⟨hk.1.1.1.1.2, ⟨hk.1.1.1.2, ⟨hk.1.1.2, ⟨hk.1.2, hk.1.1.1.1.1⟩⟩⟩⟩)⟩, ⟨by (with_reducible repeat (first | refine kN_ ?_ _ | refine kD_ ?_ | refine kA_ ?_ _)); exact BK326.out⟩, ⟨by (with_reducible repeat (first | refine kN_ ?_ _ | refine kD_ ?_ | refine kA_ ?_ _)); exact BK337.out⟩, ⟨by (with_reducible repeat (first | refine kN_ ?_ _ | refine kD_ ?_ | refine kA_ ?_ _)); exact BK360.out⟩, ⟨by repeat (first | (with_reducible first | exact HB.out | apply bA_ | apply pN_ | apply bD_ | refine bS_ ?_ GE326.out | refine bS_ ?_ GE337.out | refine bS_ ?_ GE360.out) | exact HB.out)⟩⟩
           case rest =>
            clear HC65
            try clear c1
            try clear c2
            try clear c2b0
            try clear c2b1
            try clear p2
            try clear c3
            try clear c4
            try clear c5
            try clear c6
            try clear c7
            try clear c8
            try clear c9
            try clear c10
            try clear c11
            try clear c12
            try clear c13
            try clear c14
            try clear c15
            try clear c16
            try clear c17
            try clear c20
            try clear c24
            try clear c25
            try clear c29
            try clear c33
            try clear c36
            try clear c42
            try clear c42b0
            try clear c44
            try clear c45
            try clear c49
            try clear c53
            try clear c56
            try clear c56b0
            try clear c57
            try clear c62
            try clear c62b0
            try clear c62b1
            try clear c66
            try clear c76
            try clear c77
            try clear c81
            try clear c82
            try clear c83
            try clear c85
            try clear c88
            try clear c89
            try clear c91
            try clear hcz13_0
            try clear hcz13_1
            try clear hcz21_0
            try clear hcz21_1
            try clear hcz26_0
            try clear hcz26_1
            try clear hcz27_0
            try clear hcz27_1
            try clear hcz30_0
            try clear hcz30_1
            try clear hcz31_0
            try clear hcz31_1
            try clear hcz46_0
            try clear hcz46_1
            try clear hcz47_0
            try clear hcz47_1
            try clear hcz50_0
            try clear hcz50_1
            try clear hcz51_0
            try clear hcz51_1
            try clear hcz58_0
            try clear hcz58_1
            try clear hcz60_0
            try clear hcz60_1
            try clear hcz67_0
            try clear hcz67_1
            try clear hcz69_0
            try clear hcz69_1
            try clear hcz78_0
            try clear hcz78_1
            try clear hcz84_0
            try clear hcz84_1
            try clear hcz86_0
            try clear hcz86_1
            try clear hcz90_0
            try clear hcz90_1
            try clear hcz92_0
            try clear hcz92_1
            try clear hfz13_0
            try clear hfz13_1
            try clear hfz21_0
            try clear hfz21_1
            try clear hfz26_0
            try clear hfz26_1
            try clear hfz27_0
            try clear hfz27_1
            try clear hfz30_0
            try clear hfz30_1
            try clear hfz31_0
            try clear hfz31_1
            try clear hfz46_0
            try clear hfz46_1
            try clear hfz47_0
            try clear hfz47_1
            try clear hfz50_0
            try clear hfz50_1
            try clear hfz51_0
            try clear hfz51_1
            try clear hfz58_0
            try clear hfz58_1
            try clear hfz60_0
            try clear hfz60_1
            try clear hfz67_0
            try clear hfz67_1
            try clear hfz69_0
            try clear hfz69_1
            try clear hfz78_0
            try clear hfz78_1
            try clear hfz84_0
            try clear hfz84_1
            try clear hfz86_0
            try clear hfz86_1
            try clear hfz90_0
            try clear hfz90_1
            try clear hfz92_0
            try clear hfz92_1
            try clear p2
            obtain ⟨kq, x84_64, rfl, HA, HJ64, HO_327000, HO_327001, HO_338000, HO_338001, HO_361000, HO_361001, BK326, BK337, BK360, HB⟩ := hcut
            have hl338000_64 := (Kd.R_reads' HO_338000.out).1
            rw [hl338000_64] at HO_338000
            (try simp only [hl338000_64])
            (try simp only [hl338000_64] at BK326)
            (try simp only [hl338000_64] at BK337)
            (try simp only [hl338000_64] at BK360)
            (try simp only [hl338000_64] at HO_327000)
            (try simp only [hl338000_64] at HO_327001)
            (try simp only [hl338000_64] at HO_338001)
            (try simp only [hl338000_64] at HO_361000)
            (try simp only [hl338000_64] at HO_361001)
            have hl338001_64 := (Kd.R_reads' HO_338001.out).1
            rw [hl338001_64] at HO_338001
            (try simp only [hl338001_64])
            (try simp only [hl338001_64] at BK326)
            (try simp only [hl338001_64] at BK337)
            (try simp only [hl338001_64] at BK360)
            (try simp only [hl338001_64] at HO_327000)
            (try simp only [hl338001_64] at HO_327001)
            (try simp only [hl338001_64] at HO_338000)
            (try simp only [hl338001_64] at HO_361000)
            (try simp only [hl338001_64] at HO_361001)
            cases kq with
            | zero => exact absurd HA.out (by simp [laws_FnExactRegionOfLabel.j2])
            | succ kj64 =>
             have H := HA.out
             clear HA
             simp only [laws_FnExactRegionOfLabel.j2] at H
             by_cases c94 : x84_64 = true
             ·subst c94
              rw [if_pos rfl] at H
              obtain rfl := Option.some.inj H
              go_wp2
              go_ret
              exact ⟨by first | rfl | (simp [errW_none, errW_some] <;> rfl) | (simp [*, errW_none, errW_some] <;> rfl), by repeat (first | (with_reducible first | exact HB.out | apply bA_ | apply pN_ | apply bD_ | refine bS_ ?_ GE326.out | refine bS_ ?_ GE337.out | refine bS_ ?_ GE360.out) | exact HB.out)⟩
             ·replace c94 := Bool.eq_false_iff.mpr c94
              subst c94
              rw [if_neg (show ¬ (false = true) by decide)] at H
              replace H := Option.bind_eq_some_iff.mp H
              obtain ⟨t362, A950, H⟩ := H
              have A95 := aS_ A950
              clear A950
              by_cases c96 : t362 < 0
              ·rw [if_pos c96] at H
               have c96b0 : decide (t362 < 0) = true := decide_eq_true c96
               clear c96
               obtain rfl := Option.some.inj H
               have hnb97 := NB337_326.out
               have hnc97 := NB326_337.out
               have hnb98 := NB337_360.out
               have hnc98 := NB360_337.out
               have hcz99_0 : wc.cell? ⟨gb337, 0, none⟩ = some (.slice Ao19 t347.length co19) := (blk_cell BK337.out 0).trans rfl
               have hcz99_1 : wc.cell? ⟨gb337, 1, none⟩ = some (.slice Ao22 t348.length co22) := (blk_cell BK337.out 1).trans rfl
               have hfz99_0 := blk_frozen BK337.out 0
               have hfz99_1 := blk_frozen BK337.out 1
               go_wp2_with (first | ((with_reducible refine gate_callee (f := 12) rfl ?_); refine goesL_ (some 87) rfl rfl Try.func12 (by kernel_rfl) rfl #[.agg #[.slice Ao19 t347.length co19, .slice Ao22 t348.length co22], .int .i64 1] rfl (by (try simp only [List.map_toArray, List.map_cons, List.map_nil]); first | done | rfl | (simp only [List.length_drop, List.length_take]; rfl)) ?_; (with_reducible refine (laws_heldRegion.calls kj64 _ _ t347 _ _ t348 1 t362 _ ?side1 ?side2 ?side3 ?side4 A95.out).mono ?_); (case side1 => repeat (first | exact (Kd.R_reads' HO_338000.out).2.2 | (with_reducible refine Kd.C_alloc ?_ _) | (with_reducible refine Kd.C_drewN ?_ _) | (with_reducible refine Kd.C_drew ?_))); (case side2 => exact (Kd.R_reads' HO_338000.out).2.1); (case side3 => repeat (first | exact (Kd.R_reads' HO_338001.out).2.2 | (with_reducible refine Kd.C_alloc ?_ _) | (with_reducible refine Kd.C_drewN ?_ _) | (with_reducible refine Kd.C_drew ?_))); (case side4 => exact (Kd.R_reads' HO_338001.out).2.1); rintro e w100 ⟨rfl, hb⟩; refine ⟨_, rfl, ?_⟩; have n0_ := aS_ (Kd.R_below (by (with_reducible repeat (first | apply rA_ | apply rN_ | apply rD_)); exact HO_327000.out) hb); have n1_ := aS_ (Kd.R_below (by (with_reducible repeat (first | apply rA_ | apply rN_ | apply rD_)); exact HO_327001.out) hb); have n2_ := aS_ (Kd.R_below (by (with_reducible repeat (first | apply rA_ | apply rN_ | apply rD_)); exact HO_338000.out) hb); have n3_ := aS_ (Kd.R_below (by (with_reducible repeat (first | apply rA_ | apply rN_ | apply rD_)); exact HO_338001.out) hb); have n4_ := aS_ (Kd.R_below (by (with_reducible repeat (first | apply rA_ | apply rN_ | apply rD_)); exact HO_361000.out) hb); have n5_ := aS_ (Kd.R_below (by (with_reducible repeat (first | apply rA_ | apply rN_ | apply rD_)); exact HO_361001.out) hb); have n6_ := aS_ (blk_below (g := gb326) (o := .cells #[.slice Ao12 t319.length co12, .slice Ao14 t322.length co14] 24 (0, 0)) (by (with_reducible repeat (first | refine kN_ ?_ _ | refine kD_ ?_ | refine kA_ ?_ _)); exact BK326.out) hb); have n7_ := aS_ (blk_below (g := gb337) (o := .cells #[.slice Ao19 t347.length co19, .slice Ao22 t348.length co22] 24 (0, 0)) (by (with_reducible repeat (first | refine kN_ ?_ _ | refine kD_ ?_ | refine kA_ ?_ _)); exact BK337.out) hb); have n8_ := aS_ (blk_below (g := gb360) (o := .cells #[.slice Ao75 t353.length co75, .slice Ao79 t356.length co79] 24 (0, 0)) (by (with_reducible repeat (first | refine kN_ ?_ _ | refine kD_ ?_ | refine kA_ ?_ _)); exact BK360.out) hb); have n9_ := aS_ (below_step (by repeat (first | (with_reducible first | exact HB.out | apply bA_ | apply pN_ | apply bD_ | refine bS_ ?_ GE326.out | refine bS_ ?_ GE337.out | refine bS_ ?_ GE360.out) | exact HB.out)) hb); clear HO_327000; clear HO_327001; clear HO_338000; clear HO_338001; clear HO_361000; clear HO_361001; clear BK326; clear BK337; clear BK360; clear HB; have HO_327000 := n0_; have HO_327001 := n1_; have HO_338000 := n2_; have HO_338001 := n3_; have HO_361000 := n4_; have HO_361001 := n5_; have BK326 := n6_; have BK337 := n7_; have BK360 := n8_; have HB := n9_; clear n0_ n1_ n2_ n3_ n4_ n5_ n6_ n7_ n8_ n9_; (try clear hb); (try clear hb2); (try clear hk); (try clear hi)))
               go_ret
               exact ⟨by first | rfl | (simp [errW_none, errW_some] <;> rfl) | (simp [*, errW_none, errW_some] <;> rfl), by repeat (first | (with_reducible first | exact HB.out | apply bA_ | apply pN_ | apply bD_ | refine bS_ ?_ GE326.out | refine bS_ ?_ GE337.out | refine bS_ ?_ GE360.out) | exact HB.out)⟩
              ·rw [if_neg c96] at H
               have c96b0 : decide (t362 < 0) = false := decide_eq_false c96
               clear c96
               by_cases c101 : t362 = t346
               ·rw [if_pos c101] at H
                have c101b0 : (t362 == t346) = true := beq_iff_eq.mpr c101
                have c101b1 : (t362 != t346) = false := bne_eq_false_iff_eq.mpr c101
                clear c101
                obtain rfl := Option.some.inj H
                have hnb102 := NB337_326.out
                have hnc102 := NB326_337.out
                have hnb103 := NB337_360.out
                have hnc103 := NB360_337.out
                have hcz104_0 : wc.cell? ⟨gb337, 0, none⟩ = some (.slice Ao19 t347.length co19) := (blk_cell BK337.out 0).trans rfl
                have hcz104_1 : wc.cell? ⟨gb337, 1, none⟩ = some (.slice Ao22 t348.length co22) := (blk_cell BK337.out 1).trans rfl
                have hfz104_0 := blk_frozen BK337.out 0
                have hfz104_1 := blk_frozen BK337.out 1
                go_wp2_with (first | ((with_reducible refine gate_callee (f := 12) rfl ?_); refine goesL_ (some 87) rfl rfl Try.func12 (by kernel_rfl) rfl #[.agg #[.slice Ao19 t347.length co19, .slice Ao22 t348.length co22], .int .i64 1] rfl (by (try simp only [List.map_toArray, List.map_cons, List.map_nil]); first | done | rfl | (simp only [List.length_drop, List.length_take]; rfl)) ?_; (with_reducible refine (laws_heldRegion.calls kj64 _ _ t347 _ _ t348 1 t362 _ ?side1 ?side2 ?side3 ?side4 A95.out).mono ?_); (case side1 => repeat (first | exact (Kd.R_reads' HO_338000.out).2.2 | (with_reducible refine Kd.C_alloc ?_ _) | (with_reducible refine Kd.C_drewN ?_ _) | (with_reducible refine Kd.C_drew ?_))); (case side2 => exact (Kd.R_reads' HO_338000.out).2.1); (case side3 => repeat (first | exact (Kd.R_reads' HO_338001.out).2.2 | (with_reducible refine Kd.C_alloc ?_ _) | (with_reducible refine Kd.C_drewN ?_ _) | (with_reducible refine Kd.C_drew ?_))); (case side4 => exact (Kd.R_reads' HO_338001.out).2.1); rintro e w105 ⟨rfl, hb⟩; refine ⟨_, rfl, ?_⟩; have n0_ := aS_ (Kd.R_below (by (with_reducible repeat (first | apply rA_ | apply rN_ | apply rD_)); exact HO_327000.out) hb); have n1_ := aS_ (Kd.R_below (by (with_reducible repeat (first | apply rA_ | apply rN_ | apply rD_)); exact HO_327001.out) hb); have n2_ := aS_ (Kd.R_below (by (with_reducible repeat (first | apply rA_ | apply rN_ | apply rD_)); exact HO_338000.out) hb); have n3_ := aS_ (Kd.R_below (by (with_reducible repeat (first | apply rA_ | apply rN_ | apply rD_)); exact HO_338001.out) hb); have n4_ := aS_ (Kd.R_below (by (with_reducible repeat (first | apply rA_ | apply rN_ | apply rD_)); exact HO_361000.out) hb); have n5_ := aS_ (Kd.R_below (by (with_reducible repeat (first | apply rA_ | apply rN_ | apply rD_)); exact HO_361001.out) hb); have n6_ := aS_ (blk_below (g := gb326) (o := .cells #[.slice Ao12 t319.length co12, .slice Ao14 t322.length co14] 24 (0, 0)) (by (with_reducible repeat (first | refine kN_ ?_ _ | refine kD_ ?_ | refine kA_ ?_ _)); exact BK326.out) hb); have n7_ := aS_ (blk_below (g := gb337) (o := .cells #[.slice Ao19 t347.length co19, .slice Ao22 t348.length co22] 24 (0, 0)) (by (with_reducible repeat (first | refine kN_ ?_ _ | refine kD_ ?_ | refine kA_ ?_ _)); exact BK337.out) hb); have n8_ := aS_ (blk_below (g := gb360) (o := .cells #[.slice Ao75 t353.length co75, .slice Ao79 t356.length co79] 24 (0, 0)) (by (with_reducible repeat (first | refine kN_ ?_ _ | refine kD_ ?_ | refine kA_ ?_ _)); exact BK360.out) hb); have n9_ := aS_ (below_step (by repeat (first | (with_reducible first | exact HB.out | apply bA_ | apply pN_ | apply bD_ | refine bS_ ?_ GE326.out | refine bS_ ?_ GE337.out | refine bS_ ?_ GE360.out) | exact HB.out)) hb); clear HO_327000; clear HO_327001; clear HO_338000; clear HO_338001; clear HO_361000; clear HO_361001; clear BK326; clear BK337; clear BK360; clear HB; have HO_327000 := n0_; have HO_327001 := n1_; have HO_338000 := n2_; have HO_338001 := n3_; have HO_361000 := n4_; have HO_361001 := n5_; have BK326 := n6_; have BK337 := n7_; have BK360 := n8_; have HB := n9_; clear n0_ n1_ n2_ n3_ n4_ n5_ n6_ n7_ n8_ n9_; (try clear hb); (try clear hb2); (try clear hk); (try clear hi)))
                go_ret
                exact ⟨by first | rfl | (simp [errW_none, errW_some] <;> rfl) | (simp [*, errW_none, errW_some] <;> rfl), by repeat (first | (with_reducible first | exact HB.out | apply bA_ | apply pN_ | apply bD_ | refine bS_ ?_ GE326.out | refine bS_ ?_ GE337.out | refine bS_ ?_ GE360.out) | exact HB.out)⟩
               ·rw [if_neg c101] at H
                have c101b0 : (t362 == t346) = false := beq_eq_false_iff_ne.mpr c101
                have c101b1 : (t362 != t346) = true := bne_iff_ne.mpr c101
                obtain rfl := Option.some.inj H
                have hnb106 := NB337_326.out
                have hnc106 := NB326_337.out
                have hnb107 := NB337_360.out
                have hnc107 := NB360_337.out
                have hcz108_0 : wc.cell? ⟨gb337, 0, none⟩ = some (.slice Ao19 t347.length co19) := (blk_cell BK337.out 0).trans rfl
                have hcz108_1 : wc.cell? ⟨gb337, 1, none⟩ = some (.slice Ao22 t348.length co22) := (blk_cell BK337.out 1).trans rfl
                have hfz108_0 := blk_frozen BK337.out 0
                have hfz108_1 := blk_frozen BK337.out 1
                go_wp2_with (first | ((with_reducible refine gate_callee (f := 12) rfl ?_); refine goesL_ (some 87) rfl rfl Try.func12 (by kernel_rfl) rfl #[.agg #[.slice Ao19 t347.length co19, .slice Ao22 t348.length co22], .int .i64 1] rfl (by (try simp only [List.map_toArray, List.map_cons, List.map_nil]); first | done | rfl | (simp only [List.length_drop, List.length_take]; rfl)) ?_; (with_reducible refine (laws_heldRegion.calls kj64 _ _ t347 _ _ t348 1 t362 _ ?side1 ?side2 ?side3 ?side4 A95.out).mono ?_); (case side1 => repeat (first | exact (Kd.R_reads' HO_338000.out).2.2 | (with_reducible refine Kd.C_alloc ?_ _) | (with_reducible refine Kd.C_drewN ?_ _) | (with_reducible refine Kd.C_drew ?_))); (case side2 => exact (Kd.R_reads' HO_338000.out).2.1); (case side3 => repeat (first | exact (Kd.R_reads' HO_338001.out).2.2 | (with_reducible refine Kd.C_alloc ?_ _) | (with_reducible refine Kd.C_drewN ?_ _) | (with_reducible refine Kd.C_drew ?_))); (case side4 => exact (Kd.R_reads' HO_338001.out).2.1); rintro e w109 ⟨rfl, hb⟩; refine ⟨_, rfl, ?_⟩; have n0_ := aS_ (Kd.R_below (by (with_reducible repeat (first | apply rA_ | apply rN_ | apply rD_)); exact HO_327000.out) hb); have n1_ := aS_ (Kd.R_below (by (with_reducible repeat (first | apply rA_ | apply rN_ | apply rD_)); exact HO_327001.out) hb); have n2_ := aS_ (Kd.R_below (by (with_reducible repeat (first | apply rA_ | apply rN_ | apply rD_)); exact HO_338000.out) hb); have n3_ := aS_ (Kd.R_below (by (with_reducible repeat (first | apply rA_ | apply rN_ | apply rD_)); exact HO_338001.out) hb); have n4_ := aS_ (Kd.R_below (by (with_reducible repeat (first | apply rA_ | apply rN_ | apply rD_)); exact HO_361000.out) hb); have n5_ := aS_ (Kd.R_below (by (with_reducible repeat (first | apply rA_ | apply rN_ | apply rD_)); exact HO_361001.out) hb); have n6_ := aS_ (blk_below (g := gb326) (o := .cells #[.slice Ao12 t319.length co12, .slice Ao14 t322.length co14] 24 (0, 0)) (by (with_reducible repeat (first | refine kN_ ?_ _ | refine kD_ ?_ | refine kA_ ?_ _)); exact BK326.out) hb); have n7_ := aS_ (blk_below (g := gb337) (o := .cells #[.slice Ao19 t347.length co19, .slice Ao22 t348.length co22] 24 (0, 0)) (by (with_reducible repeat (first | refine kN_ ?_ _ | refine kD_ ?_ | refine kA_ ?_ _)); exact BK337.out) hb); have n8_ := aS_ (blk_below (g := gb360) (o := .cells #[.slice Ao75 t353.length co75, .slice Ao79 t356.length co79] 24 (0, 0)) (by (with_reducible repeat (first | refine kN_ ?_ _ | refine kD_ ?_ | refine kA_ ?_ _)); exact BK360.out) hb); have n9_ := aS_ (below_step (by repeat (first | (with_reducible first | exact HB.out | apply bA_ | apply pN_ | apply bD_ | refine bS_ ?_ GE326.out | refine bS_ ?_ GE337.out | refine bS_ ?_ GE360.out) | exact HB.out)) hb); clear HO_327000; clear HO_327001; clear HO_338000; clear HO_338001; clear HO_361000; clear HO_361001; clear BK326; clear BK337; clear BK360; clear HB; have HO_327000 := n0_; have HO_327001 := n1_; have HO_338000 := n2_; have HO_338001 := n3_; have HO_361000 := n4_; have HO_361001 := n5_; have BK326 := n6_; have BK337 := n7_; have BK360 := n8_; have HB := n9_; clear n0_ n1_ n2_ n3_ n4_ n5_ n6_ n7_ n8_ n9_; (try clear hb); (try clear hb2); (try clear hk); (try clear hi)))
                go_ret
                exact ⟨by first | rfl | (simp [errW_none, errW_some] <;> rfl) | (simp [*, errW_none, errW_some] <;> rfl), by repeat (first | (with_reducible first | exact HB.out | apply bA_ | apply pN_ | apply bD_ | refine bS_ ?_ GE326.out | refine bS_ ?_ GE337.out | refine bS_ ?_ GE360.out) | exact HB.out)⟩
          ·rw [if_neg c62] at H
           have c62b0 : (t349 == t346) = false := beq_eq_false_iff_ne.mpr c62
           have c62b1 : (t349 != t346) = true := bne_iff_ne.mpr c62
           obtain rfl := Option.some.inj H
           have hnb110 := NB337_326.out
           have hnc110 := NB326_337.out
           have hcz111_0 : wc.cell? ⟨gb337, 0, none⟩ = some (.slice Ao19 t330.length co19) := (blk_cell BK337.out 0).trans rfl
           have hcz111_1 : wc.cell? ⟨gb337, 1, none⟩ = some (.slice Ao22 t333.length co22) := (blk_cell BK337.out 1).trans rfl
           have hfz111_0 := blk_frozen BK337.out 0
           have hfz111_1 := blk_frozen BK337.out 1
           go_wp2_with (first | ((with_reducible refine gate_callee (f := 11) rfl ?_); refine goesL_ (some 61) rfl rfl Try.func11 (by kernel_rfl) rfl #[.agg #[.slice Ao19 t330.length co19, .slice Ao22 t333.length co22], .int .i64 1] rfl (by (try simp only [List.map_toArray, List.map_cons, List.map_nil]); first | done | rfl | (simp only [List.length_drop, List.length_take]; rfl)) ?_; (with_reducible refine (laws_markRegion.calls kj37 (fun k_ => some k_ = (.slice Ao19 t330.length co19 : Value).ownBlock) (.slice Ao19 t330.length co19) t330 (fun k_ => some k_ = (.slice Ao22 t333.length co22 : Value).ownBlock) (.slice Ao22 t333.length co22) t333 1 t346 t347 t348 w _ ?side1 ?side2 ?side3 ?side4 ?side5 A54.out).mono ?_); (case side1 => repeat (first | (with_reducible first | exact HB.out | apply bA_ | apply pN_ | apply bD_ | refine bS_ ?_ GE326.out | refine bS_ ?_ GE337.out) | exact HB.out)); (case side2 => exact Kd.R_tight rfl HO_338000.out); (case side3 => exact fun k_ e_ => (HO_338000.out.1 k_ e_.symm).2.2); (case side4 => exact Kd.R_tight rfl HO_338001.out); (case side5 => exact fun k_ e_ => (HO_338001.out.1 k_ e_.symm).2.2); rintro e w112 ⟨rfl, hy0, hy1, hb, hkp⟩; refine ⟨_, rfl, ?_⟩; have n0_ := aS_ (Kd.R_mono (ok' := fun k_ => some k_ ≠ (.slice Ao14 t322.length co14 : Value).ownBlock ∧ some k_ ≠ (.slice Ao19 t330.length co19 : Value).ownBlock ∧ some k_ ≠ (.slice Ao22 t333.length co22 : Value).ownBlock) (Kd.R_keptB (HO_327000.out) hkp (fun k_ hk_ hs_ => Or.elim hs_ (fun e_ => (hk_.2.1) e_) (fun e_ => (hk_.2.2) e_))) (fun k_ hk_ => ⟨hk_.1.1, hk_.1.2.1, hk_.1.2.2⟩)); have n1_ := aS_ (Kd.R_mono (ok' := fun k_ => some k_ ≠ (.slice Ao12 t319.length co12 : Value).ownBlock ∧ some k_ ≠ (.slice Ao19 t330.length co19 : Value).ownBlock ∧ some k_ ≠ (.slice Ao22 t333.length co22 : Value).ownBlock) (Kd.R_keptB (HO_327001.out) hkp (fun k_ hk_ hs_ => Or.elim hs_ (fun e_ => (hk_.2.1) e_) (fun e_ => (hk_.2.2) e_))) (fun k_ hk_ => ⟨hk_.1.1, hk_.1.2.1, hk_.1.2.2⟩)); have n2_ := aS_ (Kd.R_reok rfl hy0 (fun k_ e_ => HO_338000.out.1 k_ e_)); have n3_ := aS_ (Kd.R_reok rfl hy1 (fun k_ e_ => HO_338001.out.1 k_ e_)); have n4_ := aS_ (blk_kept (by (with_reducible repeat (first | refine kN_ ?_ _ | refine kD_ ?_ | refine kA_ ?_ _)); exact BK326.out) hkp (fun hs_ => Or.elim hs_ (fun e_ => (fun e_ => (Kd.R_ne HO_338000.out BK326.out (by decide)) e_) e_) (fun e_ => (fun e_ => (Kd.R_ne HO_338001.out BK326.out (by decide)) e_) e_))); have n5_ := aS_ (blk_kept (by (with_reducible repeat (first | refine kN_ ?_ _ | refine kD_ ?_ | refine kA_ ?_ _)); exact BK337.out) hkp (fun hs_ => Or.elim hs_ (fun e_ => (fun e_ => (Kd.R_ne HO_338000.out BK337.out (by decide)) e_) e_) (fun e_ => (fun e_ => (Kd.R_ne HO_338001.out BK337.out (by decide)) e_) e_))); have n6_ := aS_ (hb); clear HO_327000; clear HO_327001; clear HO_338000; clear HO_338001; clear BK326; clear BK337; clear HB; have HO_327000 := n0_; have HO_327001 := n1_; have HO_338000 := n2_; have HO_338001 := n3_; have BK326 := n4_; have BK337 := n5_; have HB := n6_; clear n0_ n1_ n2_ n3_ n4_ n5_ n6_; (try clear hb); (try clear hkp); (try clear hy0); (try clear hy1); have hcz113_0 : w112.cell? ⟨gb337, 0, none⟩ = some (.slice Ao19 t330.length co19) := (blk_cell BK337.out 0).trans rfl; have hcz113_1 : w112.cell? ⟨gb337, 1, none⟩ = some (.slice Ao22 t333.length co22) := (blk_cell BK337.out 1).trans rfl; have hfz113_0 := blk_frozen BK337.out 0; have hfz113_1 := blk_frozen BK337.out 1) | ((with_reducible refine gate_callee (f := 12) rfl ?_); refine goesL_ (some 64) rfl rfl Try.func12 (by kernel_rfl) rfl #[.agg #[.slice Ao19 t347.length co19, .slice Ao22 t348.length co22], .int .i64 1] rfl (by (try simp only [List.map_toArray, List.map_cons, List.map_nil]); first | done | (rw [show t347.length = t330.length from (Kd.R_reads' HO_338000.out).1.symm, show t348.length = t333.length from (Kd.R_reads' HO_338001.out).1.symm] <;> rfl) | rfl | (simp only [List.length_drop, List.length_take]; rfl)) ?_; (with_reducible refine (laws_heldRegion.calls kj37 _ _ t347 _ _ t348 1 t349 _ ?side1 ?side2 ?side3 ?side4 A55.out).mono ?_); (case side1 => repeat (first | exact (Kd.R_reads' HO_338000.out).2.2 | (with_reducible refine Kd.C_alloc ?_ _) | (with_reducible refine Kd.C_drewN ?_ _) | (with_reducible refine Kd.C_drew ?_))); (case side2 => rw [show t347.length = t330.length from (Kd.R_reads' HO_338000.out).1.symm]; exact (Kd.R_reads' HO_338000.out).2.1); (case side3 => repeat (first | exact (Kd.R_reads' HO_338001.out).2.2 | (with_reducible refine Kd.C_alloc ?_ _) | (with_reducible refine Kd.C_drewN ?_ _) | (with_reducible refine Kd.C_drew ?_))); (case side4 => rw [show t348.length = t333.length from (Kd.R_reads' HO_338001.out).1.symm]; exact (Kd.R_reads' HO_338001.out).2.1); rintro e w114 ⟨rfl, hb⟩; refine ⟨_, rfl, ?_⟩; have n0_ := aS_ (Kd.R_below (by (with_reducible repeat (first | apply rA_ | apply rN_ | apply rD_)); exact HO_327000.out) hb); have n1_ := aS_ (Kd.R_below (by (with_reducible repeat (first | apply rA_ | apply rN_ | apply rD_)); exact HO_327001.out) hb); have n2_ := aS_ (Kd.R_below (by (with_reducible repeat (first | apply rA_ | apply rN_ | apply rD_)); exact HO_338000.out) hb); have n3_ := aS_ (Kd.R_below (by (with_reducible repeat (first | apply rA_ | apply rN_ | apply rD_)); exact HO_338001.out) hb); have n4_ := aS_ (blk_below (g := gb326) (o := .cells #[.slice Ao12 t319.length co12, .slice Ao14 t322.length co14] 24 (0, 0)) (by (with_reducible repeat (first | refine kN_ ?_ _ | refine kD_ ?_ | refine kA_ ?_ _)); exact BK326.out) hb); have n5_ := aS_ (blk_below (g := gb337) (o := .cells #[.slice Ao19 t330.length co19, .slice Ao22 t333.length co22] 24 (0, 0)) (by (with_reducible repeat (first | refine kN_ ?_ _ | refine kD_ ?_ | refine kA_ ?_ _)); exact BK337.out) hb); have n6_ := aS_ (below_step (by repeat (first | (with_reducible first | exact HB.out | apply bA_ | apply pN_ | apply bD_ | refine bS_ ?_ GE326.out | refine bS_ ?_ GE337.out) | exact HB.out)) hb); clear HO_327000; clear HO_327001; clear HO_338000; clear HO_338001; clear BK326; clear BK337; clear HB; have HO_327000 := n0_; have HO_327001 := n1_; have HO_338000 := n2_; have HO_338001 := n3_; have BK326 := n4_; have BK337 := n5_; have HB := n6_; clear n0_ n1_ n2_ n3_ n4_ n5_ n6_; (try clear hb); (try clear hb2); (try clear hk); (try clear hi)))
           go_ret
           exact ⟨by first | rfl | (simp [errW_none, errW_some] <;> rfl) | (simp [*, errW_none, errW_some] <;> rfl), by repeat (first | (with_reducible first | exact HB.out | apply bA_ | apply pN_ | apply bD_ | refine bS_ ?_ GE326.out | refine bS_ ?_ GE337.out) | exact HB.out)⟩
     ·replace c36 := Bool.eq_false_iff.mpr c36
      subst c36
      rw [if_neg (show ¬ (false = true) by decide)] at H
      obtain rfl := Option.some.inj H
      go_wp2_with (first | ((with_reducible refine gate_callee (f := 14) rfl ?_); refine goesL_ (some 40) rfl rfl Try.func14 (by kernel_rfl) rfl #[.slice A0 l0.length c0] rfl (by (try simp only [List.map_toArray, List.map_cons, List.map_nil]); first | done | rfl | (simp only [List.length_drop, List.length_take]; rfl)) ?_; (with_reducible refine (laws_toIntS.calls kj6 _ _ l0 t339 _ ?side1 ?side2 A34.out).mono ?_); (case side1 => repeat (first | exact (Kd.C_below HR0.out HB.out) | (with_reducible refine Kd.C_alloc ?_ _) | (with_reducible refine Kd.C_drewN ?_ _) | (with_reducible refine Kd.C_drew ?_))); (case side2 => exact HC0.out); rintro e w115 ⟨v340, rfl, ho0, hb⟩; refine ⟨_, rfl, ?_⟩; have n0_ := aS_ (Kd.R_elder' (by (with_reducible repeat (first | apply rA_ | apply rN_ | apply rD_)); exact HO_5.out) (Kd.R_base ho0) hb); have n1_ := aS_ (Kd.R_elder' (by (with_reducible repeat (first | apply rA_ | apply rN_ | apply rD_)); exact HO_327000.out) (Kd.R_base ho0) hb); have n2_ := aS_ (Kd.R_elder' (by (with_reducible repeat (first | apply rA_ | apply rN_ | apply rD_)); exact HO_327001.out) (Kd.R_base ho0) hb); have n3_ := aS_ (Kd.R_elder' (by (with_reducible repeat (first | apply rA_ | apply rN_ | apply rD_)); exact HO_338000.out) (Kd.R_base ho0) hb); have n4_ := aS_ (Kd.R_elder' (by (with_reducible repeat (first | apply rA_ | apply rN_ | apply rD_)); exact HO_338001.out) (Kd.R_base ho0) hb); have n5_ := aS_ (Kd.R_lower (Kd.R_new' (Kd.R_new' (Kd.R_new' (Kd.R_new' (Kd.R_new' ho0 (Kd.R_lt (by (with_reducible repeat (first | apply rA_ | apply rN_ | apply rD_)); exact HO_5.out))) (Kd.R_lt (by (with_reducible repeat (first | apply rA_ | apply rN_ | apply rD_)); exact HO_327000.out))) (Kd.R_lt (by (with_reducible repeat (first | apply rA_ | apply rN_ | apply rD_)); exact HO_327001.out))) (Kd.R_lt (by (with_reducible repeat (first | apply rA_ | apply rN_ | apply rD_)); exact HO_338000.out))) (Kd.R_lt (by (with_reducible repeat (first | apply rA_ | apply rN_ | apply rD_)); exact HO_338001.out))) (below_size (by repeat (first | (with_reducible first | exact HB.out | apply bA_ | apply pN_ | apply bD_ | refine bS_ ?_ GE326.out | refine bS_ ?_ GE337.out) | exact HB.out)))); have n6_ := aS_ (blk_below (g := gb326) (o := .cells #[.slice Ao12 t319.length co12, .slice Ao14 t322.length co14] 24 (0, 0)) (by (with_reducible repeat (first | refine kN_ ?_ _ | refine kD_ ?_ | refine kA_ ?_ _)); exact BK326.out) hb); have n7_ := aS_ (blk_below (g := gb337) (o := .cells #[.slice Ao19 t330.length co19, .slice Ao22 t333.length co22] 24 (0, 0)) (by (with_reducible repeat (first | refine kN_ ?_ _ | refine kD_ ?_ | refine kA_ ?_ _)); exact BK337.out) hb); have n8_ := aS_ (below_step (by repeat (first | (with_reducible first | exact HB.out | apply bA_ | apply pN_ | apply bD_ | refine bS_ ?_ GE326.out | refine bS_ ?_ GE337.out) | exact HB.out)) hb); clear HO_5; clear HO_327000; clear HO_327001; clear HO_338000; clear HO_338001; clear BK326; clear BK337; clear HB; have HO_5 := n0_; have HO_327000 := n1_; have HO_327001 := n2_; have HO_338000 := n3_; have HO_338001 := n4_; have HO341 := n5_; have BK326 := n6_; have BK337 := n7_; have HB := n8_; clear n0_ n1_ n2_ n3_ n4_ n5_ n6_ n7_ n8_; (try clear hb); (try clear hb2); (try clear hk); (try clear hi); (try clear ho0); obtain ⟨Ao116, co116, eo116⟩ := Kd.R_slice HO341.out; subst eo116) | ((with_reducible refine gate_callee (f := 16) rfl ?_); refine goesL_ (some 41) rfl rfl Try.func16 (by kernel_rfl) rfl #[.slice Ao16 t327.length co16, .slice Ao116 t339.length co116] rfl (by (try simp only [List.map_toArray, List.map_cons, List.map_nil]); first | done | rfl | (simp only [List.length_drop, List.length_take]; rfl)) ?_; (with_reducible refine (laws_eqIntS.calls kj6 _ _ t327 _ _ t339 false _ ?side1 ?side2 ?side3 ?side4 A35.out).mono ?_); (case side1 => repeat (first | exact (Kd.R_reads' HO_5.out).2.2 | (with_reducible refine Kd.C_alloc ?_ _) | (with_reducible refine Kd.C_drewN ?_ _) | (with_reducible refine Kd.C_drew ?_))); (case side2 => exact (Kd.R_reads' HO_5.out).2.1); (case side3 => repeat (first | exact (Kd.R_reads' HO341.out).2.2 | (with_reducible refine Kd.C_alloc ?_ _) | (with_reducible refine Kd.C_drewN ?_ _) | (with_reducible refine Kd.C_drew ?_))); (case side4 => exact (Kd.R_reads' HO341.out).2.1); rintro e w' ⟨rfl, ⟨nd, rfl⟩⟩; refine ⟨_, rfl, ?_⟩))
      go_ret
      exact ⟨by first | rfl | (simp [errW_none, errW_some] <;> rfl) | (simp [*, errW_none, errW_some] <;> rfl), by repeat (first | (with_reducible first | exact HB.out | apply bA_ | apply pN_ | apply bD_ | refine bS_ ?_ GE326.out | refine bS_ ?_ GE337.out) | exact HB.out)⟩

/-- THE ONE PURE STATEMENT of laws_FnExactRegionOfLabel: yours. -/
def laws_FnExactRegionOfLabel.Pure : Prop := ∀ (l0 : List Int), l0.length ≤ maxLen → l0.length * 8 ≤ 140737488351232 → (∀ x ∈ l0, (Lit.int .i64 x).wf = true) → ∃ k, laws_FnExactRegionOfLabel.f k l0 = some true
theorem laws_FnExactRegionOfLabel.walk (P : laws_FnExactRegionOfLabel.Pure) (a0 : Option Addr) (len0 cap0 : Nat) (z0 : List Int) (w : World) (w0 : (a0 = none ∧ len0 = 0 ∧ cap0 = 0 ∧ z0 = []) ∨ ∃ x, a0 = some x ∧ len0 ≤ cap0 ∧ cap0 ≤ maxLen ∧ z0.length = cap0 ∧ (∀ i, i < z0.length → w.cell? (x.add i) = some (.int .i64 (z0.getD i 0))) ∧ ∀ n ∈ z0, (Lit.int .i64 n).wf = true) (y0 : len0 * 8 ≤ 140737488351232) :
  Calls Try.prog 4 #[.slice a0 len0 cap0] w fun e w' => e = .returned (.bool true) ∧ Below w.heap.size w w' := by
 obtain ⟨l0, rfl, hr0, hm0, hw0, hc0⟩ := ReadsInt.ofRowC w0
 obtain ⟨k, h⟩ := P l0 hm0 y0 hw0
 refine (laws_FnExactRegionOfLabel.calls k _ _ l0 true w (Kd.C_of_reads (d := (0 : Int)) (h1 := fun _ => rfl) hr0) hc0 h).mono ?_
 rintro e w' ⟨rfl, hd⟩
 exact ⟨rfl, hd⟩
end Go.Proofs.Ytaeepkgclaacjaa.G
namespace Go.Proofs.Ytaeepkgclaacjaa.G
open Go.RowKit Go.Proofs.YtaeepkgclaacjaaW.PrintWords Go.Proofs.YtaeepkgclaacjaaW.PrintLast Go.Proofs.YtaeepkgclaacjaaW.PrintMore
set_option linter.unusedVariables false
set_option linter.unusedSimpArgs false
theorem wrap_id {x : Int} (h1 : -9223372036854775808 ≤ x) (h2 : x ≤ 9223372036854775807) : wrap64 x = x := by unfold wrap64; omega
theorem wrap_next {i n : Nat} (h : i < n) (hn : n ≤ 4611686018427387904) : wrap64 ((i : Int) + 1) = ((i + 1 : Nat) : Int) := by rw [wrap_id (by omega) (by omega)]; rfl
theorem succ_of {d k : Nat} (h : d < k) : ∃ m, k = m + 1 := ⟨k - 1, by omega⟩
theorem rd_nat (l : List Int) (i : Nat) : rd l (i : Int) = l.getD i 0 := by unfold rd; rw [Int.toNat_natCast]
theorem take_succ_getD {l : List Int} {i : Nat} (h : i < l.length) : l.take (i + 1) = l.take i ++ [l.getD i 0] := by
  rw [List.take_succ_eq_append_getElem h, List.getD_eq_getElem?_getD, List.getElem?_eq_getElem h]; rfl
theorem drop_getD {l : List Int} {i : Nat} (h : i < l.length) : l.drop i = l.getD i 0 :: l.drop (i + 1) := by
  rw [List.drop_eq_getElem_cons h, List.getD_eq_getElem?_getD, List.getElem?_eq_getElem h]; rfl
theorem Ev.of_all {α : Type} {g : Nat → Option α} {r : α} (K : Nat) (h : ∀ k, K < k → g k = some r) : Ev g r := ⟨K + 1, fun k hk => h k (by omega)⟩
/-- A loop that counts up: its state at each count, what is left behind the last one. -/
theorem Ev.up {σ ρ : Type} (n : Nat) (S : Nat → σ) (L : Nat → σ → Int → Option ρ) (r : ρ)
    (hstep : ∀ i, i < n → Ev (fun k => L k (S (i + 1)) ((i + 1 : Nat) : Int)) r → Ev (fun k => L k (S i) (i : Int)) r)
    (hend : Ev (fun k => L k (S n) (n : Int)) r) : ∀ m, m ≤ n → Ev (fun k => L k (S m) (m : Int)) r := by
  intro m hm
  have key : ∀ d m, m + d = n → Ev (fun k => L k (S m) (m : Int)) r := by
    intro d
    induction d with
    | zero => intro m hd; obtain rfl : m = n := by omega
              exact hend
    | succ d ih => intro m hd; exact hstep m (by omega) (ih (m + 1) (by omega))
  exact key (n - m) m (by omega)
theorem Ev.up0 {σ ρ : Type} (n : Nat) (S : Nat → σ) (L : Nat → σ → Int → Option ρ) (r : ρ)
    (hstep : ∀ i, i < n → Ev (fun k => L k (S (i + 1)) ((i + 1 : Nat) : Int)) r → Ev (fun k => L k (S i) (i : Int)) r)
    (hend : Ev (fun k => L k (S n) (n : Int)) r) : Ev (fun k => L k (S 0) 0) r := Ev.up n S L r hstep hend 0 (Nat.zero_le _)
/-- A round that needs no rounds of others. -/
theorem Ev.one {α : Type} {g f : Nat → Option α} {r : α} (k : Ev f r) (h : ∀ k, g (k + 1) = f k) : Ev g r := Ev.step h k
theorem Ev.end_ {α : Type} {g : Nat → Option α} {r : α} (h : ∀ k, g (k + 1) = some r) : Ev g r := Ev.step h (Ev.now r)
theorem toIntS_l0 (x0 : List Int) (hn : x0.length ≤ 4611686018427387904) : ∀ (d k i : Nat) (x3 : List Int), i + d = x0.length → d < k → x3.length = x0.length → x3.take i = x0.take i → laws_toIntS.l0 k x0 x3 i = some x0 := by
  intro d
  induction d with
  | zero =>
    intro k i x3 hd hk hl ht
    obtain ⟨k, rfl⟩ := succ_of hk
    have hi : i = x0.length := by omega
    rw [laws_toIntS.l0, if_neg (by omega)]
    rw [hi, List.take_of_length_le (by omega), List.take_of_length_le (by omega)] at ht
    rw [ht]
  | succ d ih =>
    intro k i x3 hd hk hl ht
    obtain ⟨k, rfl⟩ := succ_of hk
    rw [laws_toIntS.l0, if_pos (by omega), if_pos (by omega), if_pos (by omega), wrap_next (n := x0.length) (by omega) hn, rd_nat, Int.toNat_natCast]
    apply ih k (i + 1) _ (by omega) (by omega) (by simpa using hl)
    rw [take_succ_getD (l := x0) (i := i) (by omega), ← ht]
    apply List.ext_getElem
    · simp; omega
    · intro j h1 h2
      simp only [List.length_take, List.length_set] at h1
      rw [List.getElem_take, List.getElem_set, List.getElem_append]
      by_cases e : i = j
      · subst e; simp; intro h; omega
      · have : j < i := by omega
        simp [e, this]; omega
theorem toIntS_ev (l : List Int) (hn : l.length ≤ 35184372088832) : Ev (fun k => laws_toIntS.f k l) l := by
  refine Ev.of_all l.length fun k hk => ?_
  unfold laws_toIntS.f
  rw [if_pos (by omega), if_pos (by omega)]
  exact toIntS_l0 l (by omega) l.length k 0 _ (by omega) hk (by simp) (by simp)
theorem eqIntS_l0 (a b : List Int) (hl : a.length = b.length) (hn : a.length ≤ 4611686018427387904) : ∀ (d k i : Nat), i + d = a.length → d < k → laws_eqIntS.l0 k a b i = some (decide (a.drop i = b.drop i)) := by
  intro d
  induction d with
  | zero =>
    intro k i hd hk
    obtain ⟨k, rfl⟩ := succ_of hk
    rw [laws_eqIntS.l0, if_neg (by omega), List.drop_of_length_le (by omega), List.drop_of_length_le (by omega)]; simp
  | succ d ih =>
    intro k i hd hk
    obtain ⟨k, rfl⟩ := succ_of hk
    rw [laws_eqIntS.l0, if_pos (by omega), if_pos (by omega), if_pos (by omega), wrap_next (n := a.length) (by omega) hn, rd_nat, rd_nat, ih k (i + 1) (by omega) (by omega), drop_getD (l := a) (i := i) (by omega), drop_getD (l := b) (i := i) (by omega)]
    by_cases e : a.getD i 0 = b.getD i 0
    · rw [if_pos e, e]; simp
    · rw [if_neg e]; simp only [List.cons.injEq, e, false_and, decide_false]
theorem eqIntS_ev (a b : List Int) (hn : a.length ≤ 4611686018427387904) : Ev (fun k => laws_eqIntS.f k a b) (decide (a = b)) := by
  refine Ev.of_all a.length fun k hk => ?_
  unfold laws_eqIntS.f
  by_cases hl : a.length = b.length
  · rw [if_pos (by omega), show (0 : Int) = ((0 : Nat) : Int) from rfl, eqIntS_l0 a b hl hn a.length k 0 (by omega) hk]; rfl
  · rw [if_neg (by omega)]
    have : a ≠ b := fun e => hl (by rw [e])
    simp [this]
/-- Numbers that rise from m on. -/
def rise (n : Nat) (m : Int) : List Int := (List.range n).map fun (j : Nat) => m + j
theorem getD_rise (n : Nat) (m : Int) (j : Nat) (h : j < n) : (rise n m).getD j 0 = m + j := by
  simp [rise, List.getD_eq_getElem?_getD, List.getElem?_map, List.getElem?_range h]
theorem markIntS_l0 (n : Nat) (hn : n ≤ 1152921504606846976) (m : Int) (hm : 0 ≤ m ∧ m ≤ 1152921504606846976) : ∀ (d k i : Nat) (a : List Int), a.length = n → i + d = n → d < k → a.take i = rise i m → laws_markIntS.l0 k a (m + i) i = some (m + n, rise n m) := by
  intro d
  induction d with
  | zero =>
    intro k i a hl hd hk ht
    obtain ⟨k, rfl⟩ := succ_of hk
    obtain rfl : i = n := by omega
    rw [List.take_of_length_le (by omega)] at ht
    rw [laws_markIntS.l0, if_neg (by omega), ht]
  | succ d ih =>
    intro k i a hl hd hk ht
    obtain ⟨k, rfl⟩ := succ_of hk
    rw [laws_markIntS.l0, if_pos (by omega), if_pos (by omega), wrap_next (n := n) (by omega) (by omega), Int.toNat_natCast, wrap_id (x := m + i + 1) (by omega) (by omega)]
    have := ih k (i + 1) (a.set i (m + i)) (by simpa using hl) (by omega) (by omega) (by
      apply List.ext_getElem
      · simp [rise]; omega
      · intro j h1 h2
        simp only [List.length_take, List.length_set] at h1
        simp only [List.getElem_take, List.getElem_set, rise, List.getElem_map, List.getElem_range]
        by_cases e : i = j
        · subst e; simp
        · have hj : j < i := by omega
          have : (a.take i)[j]? = (rise i m)[j]? := by rw [ht]
          rw [List.getElem?_eq_getElem (by simp; omega), List.getElem?_eq_getElem (by simp [rise]; omega)] at this
          simp [rise] at this
          simp [e, this])
    rw [show m + (i : Int) + 1 = m + ((i + 1 : Nat) : Int) by push_cast; omega]
    exact this
theorem markIntS_ev (a : List Int) (m : Int) (hm : 0 ≤ m ∧ m ≤ 1152921504606846976) (hn : a.length ≤ 1152921504606846976) : Ev (fun k => laws_markIntS.f k a m) (m + a.length, rise a.length m) := by
  refine Ev.of_all a.length fun k hk => ?_
  unfold laws_markIntS.f
  have := markIntS_l0 a.length hn m hm a.length k 0 a rfl (by omega) hk (by simp [rise])
  simpa using this
end Go.Proofs.Ytaeepkgclaacjaa.G
