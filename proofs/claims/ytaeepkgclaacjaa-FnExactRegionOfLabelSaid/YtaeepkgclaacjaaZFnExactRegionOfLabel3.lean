/- The law FnExactRegionOfLabel: part 3 of the printed functions and the facts on them that its row leans on (merged by this session's slim.py). -/
import Derived.Test.YtaeepkgclaacjaaZFnExactRegionOfLabel2
namespace Go.Proofs.Ytaeepkgclaacjaa.G
open Go.RowKit Go.Proofs.YtaeepkgclaacjaaW.PrintWords Go.Proofs.YtaeepkgclaacjaaW.PrintLast Go.Proofs.YtaeepkgclaacjaaW.PrintMore
attribute [local go_sem] max2_int min2_int max_two min_two max_three min_three max_four min_four   -- for this text's walks alone
set_option linter.unusedVariables false
set_option linter.unusedSimpArgs false
/-! ### spec_reGoOn: function 34 -/
mutual
def spec_reGoOn.j0 : Nat → List Int → Int → Int → List Int → List Int → Option (List Int × List Int × Bool)
 | 0, _, _, _, _, _ => none
 | k + 1, x1, x6, x7, x237000, x237001 => spec_reGoOn.l0 k x1 x6 x7 x1 (x1.length : Int) 0 x237000 x237001
def spec_reGoOn.l0 : Nat → List Int → Int → Int → List Int → Int → Int → List Int → List Int → Option (List Int × List Int × Bool)
 | 0, _, _, _, _, _, _, _, _ => none
 | k + 1, x1, x6, x7, x30, x31, x32, x237000, x237001 => if x32 < x31 then (if 0 ≤ x32 then (if x32 < (x30.length : Int) then ((spec_l1Has.f k x237000 x32).bind fun t240 => (if t240 = true then (spec_reGoOn.l0 k x1 x6 x7 x30 x31 (wrap64 (x32 + 1)) x237000 x237001) else (spec_reGoOn.l1 k x1 x6 x7 x32 (rd x30 x32) x7 x30 x31 x32 x237000 x237001))) else (none)) else (none)) else (some (([] : List Int), ([] : List Int), false))
def spec_reGoOn.l1 : Nat → List Int → Int → Int → Int → Int → Int → List Int → Int → Int → List Int → List Int → Option (List Int × List Int × Bool)
 | 0, _, _, _, _, _, _, _, _, _, _, _ => none
 | k + 1, x1, x6, x7, x8, x9, x10, x30, x31, x32, x237000, x237001 => if x10 ≤ x6 then (if x10 > x7 then (if 0 ≤ (wrap64 (x10 - 1)) then (if (wrap64 (x10 - 1)) < (x237000.length : Int) then (if (rd x237000 (wrap64 (x10 - 1))) > x8 then (spec_reGoOn.j3 k x1 x6 x7 x8 x9 x10 x30 x31 x32 true x237000 x237001) else ((spec_reCount.f k x237000 x10 x8).bind fun t242 => (spec_reGoOn.j3 k x1 x6 x7 x8 x9 x10 x30 x31 x32 (t242 != x9) x237000 x237001))) else (none)) else (none)) else ((spec_reCount.f k x237000 x10 x8).bind fun t243 => (spec_reGoOn.j3 k x1 x6 x7 x8 x9 x10 x30 x31 x32 (t243 != x9) x237000 x237001))) else (spec_reGoOn.l0 k x1 x6 x7 x30 x31 (wrap64 (x32 + 1)) x237000 x237001)
def spec_reGoOn.j3 : Nat → List Int → Int → Int → Int → Int → Int → List Int → Int → Int → Bool → List Int → List Int → Option (List Int × List Int × Bool)
 | 0, _, _, _, _, _, _, _, _, _, _, _, _ => none
 | k + 1, x1, x6, x7, x8, x9, x10, x30, x31, x32, x68, x237000, x237001 => if x68 = true then (spec_reGoOn.l1 k x1 x6 x7 x8 x9 (wrap64 (x10 + 1)) x30 x31 x32 x237000 x237001) else ((spec_l1Own.f x237000).bind fun t244 => ((some (([x8] : List Int) : List Int)).bind fun y247 => (if t244.length + y247.length < 17592186044416 then ((spec_l1Own.f x237001).bind fun t253 => ((some (([x10] : List Int) : List Int)).bind fun y256 => (if t253.length + y256.length < 17592186044416 then ((spec_reGoOn.f k (t244 ++ y247) (t253 ++ y256) x1).bind fun bt263 => (if bt263.2.2 = true then (some (bt263.1, bt263.2.1, true)) else (spec_reGoOn.l1 k x1 x6 x7 x8 x9 (wrap64 (x10 + 1)) x30 x31 x32 x237000 x237001))) else (none)))) else (none))))
def spec_reGoOn.f : Nat → List Int → List Int → List Int → Option (List Int × List Int × Bool)
 | 0, _, _, _ => none
 | k + 1, l0_0, l0_1, l1 => if (l0_0.length : Int) = (l1.length : Int) then (some (l0_0, l0_1, true)) else (if (l0_0.length : Int) > 0 then (if 0 ≤ (wrap64 ((l0_0.length : Int) - 1)) then (if (wrap64 ((l0_0.length : Int) - 1)) < (l0_1.length : Int) then (spec_reGoOn.j0 k l1 (l0_0.length : Int) (rd l0_1 (wrap64 ((l0_0.length : Int) - 1))) l0_0 l0_1) else (none)) else (none)) else (spec_reGoOn.j0 k l1 (l0_0.length : Int) 0 l0_0 l0_1))
end
theorem spec_reGoOn.mono_l : ∀ k, (∀ y0 y1 y2, LeO (spec_reGoOn.f k y0 y1 y2) (spec_reGoOn.f (k + 1) y0 y1 y2)) ∧ (∀ y0 y1 y2 y3 y4, LeO (spec_reGoOn.j0 k y0 y1 y2 y3 y4) (spec_reGoOn.j0 (k + 1) y0 y1 y2 y3 y4)) ∧ (∀ y0 y1 y2 y3 y4 y5 y6 y7, LeO (spec_reGoOn.l0 k y0 y1 y2 y3 y4 y5 y6 y7) (spec_reGoOn.l0 (k + 1) y0 y1 y2 y3 y4 y5 y6 y7)) ∧ (∀ y0 y1 y2 y3 y4 y5 y6 y7 y8 y9 y10, LeO (spec_reGoOn.l1 k y0 y1 y2 y3 y4 y5 y6 y7 y8 y9 y10) (spec_reGoOn.l1 (k + 1) y0 y1 y2 y3 y4 y5 y6 y7 y8 y9 y10)) ∧ (∀ y0 y1 y2 y3 y4 y5 y6 y7 y8 y9 y10 y11, LeO (spec_reGoOn.j3 k y0 y1 y2 y3 y4 y5 y6 y7 y8 y9 y10 y11) (spec_reGoOn.j3 (k + 1) y0 y1 y2 y3 y4 y5 y6 y7 y8 y9 y10 y11))
 | 0 => ⟨fun _ _ _ r h => by simp [spec_reGoOn.f] at h, fun _ _ _ _ _ r h => by simp [spec_reGoOn.j0] at h, fun _ _ _ _ _ _ _ _ r h => by simp [spec_reGoOn.l0] at h, fun _ _ _ _ _ _ _ _ _ _ _ r h => by simp [spec_reGoOn.l1] at h, fun _ _ _ _ _ _ _ _ _ _ _ _ r h => by simp [spec_reGoOn.j3] at h⟩
 | k + 1 => by
  obtain ⟨ih0, ih1, ih2, ih3, ih4⟩ := spec_reGoOn.mono_l k
  refine ⟨?_, ?_, ?_, ?_, ?_⟩
  ·intro y0 y1 y2
   unfold spec_reGoOn.f
   repeat' first
   | (with_reducible exact ih0 _ _ _)
   | (with_reducible exact ih1 _ _ _ _ _)
   | (with_reducible exact ih2 _ _ _ _ _ _ _ _)
   | (with_reducible exact ih3 _ _ _ _ _ _ _ _ _ _ _)
   | (with_reducible exact ih4 _ _ _ _ _ _ _ _ _ _ _ _)
   | (with_reducible exact spec_l1Has.mono _ _ _)
   | (with_reducible exact spec_reCount.mono _ _ _ _)
   | (with_reducible exact LeO.refl _)
   | (with_reducible exact LeO.none _)
   | (with_reducible refine LeO.ite ?_ ?_)
   | (with_reducible refine LeO.bind ?_ (fun _ => ?_))
   | exact ih0 _ _ _
   | exact ih1 _ _ _ _ _
   | exact ih2 _ _ _ _ _ _ _ _
   | exact ih3 _ _ _ _ _ _ _ _ _ _ _
   | exact ih4 _ _ _ _ _ _ _ _ _ _ _ _
   | exact spec_l1Has.mono _ _ _
   | exact spec_reCount.mono _ _ _ _
   | exact LeO.none _
   | refine LeO.ite ?_ ?_
   | refine LeO.bind ?_ (fun _ => ?_)
  ·intro y0 y1 y2 y3 y4
   unfold spec_reGoOn.j0
   repeat' first
   | (with_reducible exact ih0 _ _ _)
   | (with_reducible exact ih1 _ _ _ _ _)
   | (with_reducible exact ih2 _ _ _ _ _ _ _ _)
   | (with_reducible exact ih3 _ _ _ _ _ _ _ _ _ _ _)
   | (with_reducible exact ih4 _ _ _ _ _ _ _ _ _ _ _ _)
   | (with_reducible exact spec_l1Has.mono _ _ _)
   | (with_reducible exact spec_reCount.mono _ _ _ _)
   | (with_reducible exact LeO.refl _)
   | (with_reducible exact LeO.none _)
   | (with_reducible refine LeO.ite ?_ ?_)
   | (with_reducible refine LeO.bind ?_ (fun _ => ?_))
   | exact ih0 _ _ _
   | exact ih1 _ _ _ _ _
   | exact ih2 _ _ _ _ _ _ _ _
   | exact ih3 _ _ _ _ _ _ _ _ _ _ _
   | exact ih4 _ _ _ _ _ _ _ _ _ _ _ _
   | exact spec_l1Has.mono _ _ _
   | exact spec_reCount.mono _ _ _ _
   | exact LeO.none _
   | refine LeO.ite ?_ ?_
   | refine LeO.bind ?_ (fun _ => ?_)
  ·intro y0 y1 y2 y3 y4 y5 y6 y7
   unfold spec_reGoOn.l0
   repeat' first
   | (with_reducible exact ih0 _ _ _)
   | (with_reducible exact ih1 _ _ _ _ _)
   | (with_reducible exact ih2 _ _ _ _ _ _ _ _)
   | (with_reducible exact ih3 _ _ _ _ _ _ _ _ _ _ _)
   | (with_reducible exact ih4 _ _ _ _ _ _ _ _ _ _ _ _)
   | (with_reducible exact spec_l1Has.mono _ _ _)
   | (with_reducible exact spec_reCount.mono _ _ _ _)
   | (with_reducible exact LeO.refl _)
   | (with_reducible exact LeO.none _)
   | (with_reducible refine LeO.ite ?_ ?_)
   | (with_reducible refine LeO.bind ?_ (fun _ => ?_))
   | exact ih0 _ _ _
   | exact ih1 _ _ _ _ _
   | exact ih2 _ _ _ _ _ _ _ _
   | exact ih3 _ _ _ _ _ _ _ _ _ _ _
   | exact ih4 _ _ _ _ _ _ _ _ _ _ _ _
   | exact spec_l1Has.mono _ _ _
   | exact spec_reCount.mono _ _ _ _
   | exact LeO.none _
   | refine LeO.ite ?_ ?_
   | refine LeO.bind ?_ (fun _ => ?_)
  ·intro y0 y1 y2 y3 y4 y5 y6 y7 y8 y9 y10
   unfold spec_reGoOn.l1
   repeat' first
   | (with_reducible exact ih0 _ _ _)
   | (with_reducible exact ih1 _ _ _ _ _)
   | (with_reducible exact ih2 _ _ _ _ _ _ _ _)
   | (with_reducible exact ih3 _ _ _ _ _ _ _ _ _ _ _)
   | (with_reducible exact ih4 _ _ _ _ _ _ _ _ _ _ _ _)
   | (with_reducible exact spec_l1Has.mono _ _ _)
   | (with_reducible exact spec_reCount.mono _ _ _ _)
   | (with_reducible exact LeO.refl _)
   | (with_reducible exact LeO.none _)
   | (with_reducible refine LeO.ite ?_ ?_)
   | (with_reducible refine LeO.bind ?_ (fun _ => ?_))
   | exact ih0 _ _ _
   | exact ih1 _ _ _ _ _
   | exact ih2 _ _ _ _ _ _ _ _
   | exact ih3 _ _ _ _ _ _ _ _ _ _ _
   | exact ih4 _ _ _ _ _ _ _ _ _ _ _ _
   | exact spec_l1Has.mono _ _ _
   | exact spec_reCount.mono _ _ _ _
   | exact LeO.none _
   | refine LeO.ite ?_ ?_
   | refine LeO.bind ?_ (fun _ => ?_)
  ·intro y0 y1 y2 y3 y4 y5 y6 y7 y8 y9 y10 y11
   unfold spec_reGoOn.j3
   repeat' first
   | (with_reducible exact ih0 _ _ _)
   | (with_reducible exact ih1 _ _ _ _ _)
   | (with_reducible exact ih2 _ _ _ _ _ _ _ _)
   | (with_reducible exact ih3 _ _ _ _ _ _ _ _ _ _ _)
   | (with_reducible exact ih4 _ _ _ _ _ _ _ _ _ _ _ _)
   | (with_reducible exact spec_l1Has.mono _ _ _)
   | (with_reducible exact spec_reCount.mono _ _ _ _)
   | (with_reducible exact LeO.refl _)
   | (with_reducible exact LeO.none _)
   | (with_reducible refine LeO.ite ?_ ?_)
   | (with_reducible refine LeO.bind ?_ (fun _ => ?_))
   | exact ih0 _ _ _
   | exact ih1 _ _ _ _ _
   | exact ih2 _ _ _ _ _ _ _ _
   | exact ih3 _ _ _ _ _ _ _ _ _ _ _
   | exact ih4 _ _ _ _ _ _ _ _ _ _ _ _
   | exact spec_l1Has.mono _ _ _
   | exact spec_reCount.mono _ _ _ _
   | exact LeO.none _
   | refine LeO.ite ?_ ?_
   | refine LeO.bind ?_ (fun _ => ?_)
theorem spec_reGoOn.mono : ∀ a0 a1 a2 k, LeO (spec_reGoOn.f k a0 a1 a2) (spec_reGoOn.f (k + 1) a0 a1 a2) := by
 intro a0 a1 a2 k
 obtain ⟨ih0, ih1, ih2, ih3, ih4⟩ := spec_reGoOn.mono_l k
 exact ih0 a0 a1 a2
def spec_reGoOn.T15 : Bool × List (List Nat × List Nat) := (true, [([], []), ([0], [0]), ([1], [1]), ([], []), ([3], [3]), ([2, 4, 2], [2, 4]), ([], []), ([6], [6]), ([7, 5], [7]), ([], []), ([9], [9]), ([8, 10, 8], [8, 10]), ([5, 11], [5, 11]), ([], []), ([13, 12, 11, 0, 1, 2, 3, 4, 5, 6, 7, 8, 9, 10, 11, 12, 13], [12, 13])])
def spec_reGoOn.B15 : List Nat := [0, 1, 3, 0, 8, 31, 0, 64, 255, 0, 512, 2047, 4095, 0, 16383]
theorem spec_reGoOn.tab15 : rtab .any (opsOf Try.f34 15) = spec_reGoOn.T15 := by kernel_rfl
theorem spec_reGoOn.bits15 : waitsOk spec_reGoOn.T15.2 spec_reGoOn.B15 = true := by kernel_rfl
set_option maxHeartbeats 80000000 in
set_option maxRecDepth 100000 in
theorem spec_reGoOn.calls (k : Nat) : ∀ (P0_0_ : Nat → Prop) (u9000_ : Value) (l0_0 : List Int) (P0_1_ : Nat → Prop) (u9001_ : Value) (l0_1 : List Int) (A1 : Option Addr) (c1 : Nat) (l1 : List Int) (r1 : List Int) (r2 : List Int) (r3 : Bool) (w0 w : World) (hB : Below w0.heap.size w0 w) (ho0_0 : Kd.R (Kd.int .i64) 3 w w0.heap.size P0_0_ u9000_ l0_0) (hp0_0_0_1 : ∀ k_, P0_0_ k_ → ¬ P0_1_ k_) (ho0_1 : Kd.R (Kd.int .i64) 3 w w0.heap.size P0_1_ u9001_ l0_1) (hp0_1_0_0 : ∀ k_, P0_1_ k_ → ¬ P0_0_ k_) (hr1 : ∀ W_, Kept w W_ (fun k_ => P0_0_ k_ ∨ P0_1_ k_) → Kd.C (Kd.int .i64) W_ A1 l1.length l1) (hc1 : l1.length ≤ c1) (h : spec_reGoOn.f k l0_0 l0_1 l1 = some (r1, r2, r3)),
  Calls Try.prog 34 #[.agg #[u9000_, u9001_], .slice A1 l1.length c1] w fun e w' => ∃ v0_ v1_ : Value, e = .returned (.tuple #[.agg #[v0_, v1_], .bool r3]) ∧ Kd.R (Kd.int .i64) 3 w' w0.heap.size (fun k_ => ((P0_0_ k_ ∨ P0_1_ k_) ∨ w.heap.size ≤ k_) ∧ some k_ ≠ (v1_ : Value).ownBlock) v0_ r1 ∧ Kd.R (Kd.int .i64) 3 w' w0.heap.size (fun k_ => ((P0_0_ k_ ∨ P0_1_ k_) ∨ w.heap.size ≤ k_) ∧ some k_ ≠ (v0_ : Value).ownBlock) v1_ r2 ∧ Below w0.heap.size w0 w' ∧ Kept w w' (fun k_ => P0_0_ k_ ∨ P0_1_ k_) := by
 induction k using Nat.strongRecOn with
 | _ k ih =>
 intro P0_0_ u9000_ l0_0 P0_1_ u9001_ l0_1 A1 c1 l1 r1 r2 r3 w0 w hB ho0_0 hp0_0_0_1 ho0_1 hp0_1_0_0 hr1 hc1 h
 cases k with
 | zero => exact absurd h (by simp [spec_reGoOn.f])
 | succ k =>
 simp only [spec_reGoOn.f] at h
 have hu24 := Try.underlying24
 have HO0_0 := aS_ (show Kd.R (Kd.int .i64) 3 w w0.heap.size (fun k_ => ((P0_0_ k_ ∨ P0_1_ k_) ∨ w.heap.size ≤ k_) ∧ some k_ ≠ (u9001_ : Value).ownBlock) u9000_ l0_0 from Kd.R_mono ho0_0 (fun k_ hk => ⟨(.inl (.inl hk)), fun e_ => hp0_0_0_1 k_ hk (ho0_1.1 k_ e_.symm)⟩))
 have HO0_1 := aS_ (show Kd.R (Kd.int .i64) 3 w w0.heap.size (fun k_ => ((P0_0_ k_ ∨ P0_1_ k_) ∨ w.heap.size ≤ k_) ∧ some k_ ≠ (u9000_ : Value).ownBlock) u9001_ l0_1 from Kd.R_mono ho0_1 (fun k_ hk => ⟨(.inl (.inr hk)), fun e_ => hp0_1_0_0 k_ hk (ho0_0.1 k_ e_.symm)⟩))
 have HR1 := aS_ hr1
 have HC1 := aS_ hc1
 clear hr1 hc1
 have HK := aS_ (Kept.refl w (fun k_ => P0_0_ k_ ∨ P0_1_ k_))
 have HW0 := aS_ hB.size
 have HB := aS_ hB
 clear hB
 have H : (if (l0_0.length : Int) = (l1.length : Int) then (some (l0_0, l0_1, true)) else (if (l0_0.length : Int) > 0 then (if 0 ≤ (wrap64 ((l0_0.length : Int) - 1)) then (if (wrap64 ((l0_0.length : Int) - 1)) < (l0_1.length : Int) then (spec_reGoOn.j0 k l1 (l0_0.length : Int) (rd l0_1 (wrap64 ((l0_0.length : Int) - 1))) l0_0 l0_1) else (none)) else (none)) else (spec_reGoOn.j0 k l1 (l0_0.length : Int) 0 l0_0 l0_1))) = some (r1, r2, r3) := h
 clear h
 by_cases c3 : (l0_0.length : Int) = (l1.length : Int)
 ·rw [if_pos c3] at H
  have c3b0 : ((l0_0.length : Int) == (l1.length : Int)) = true := beq_iff_eq.mpr c3
  have c3b1 : ((l0_0.length : Int) != (l1.length : Int)) = false := bne_eq_false_iff_eq.mpr c3
  have c3b2 : (l0_0.length == l1.length) = true := by first | simpa using c3 | (simp at c3 ⊢; omega)
  clear c3
  simp only [Option.some.injEq, Prod.mk.injEq] at H
  obtain ⟨rfl, rfl, rfl⟩ := H
  obtain ⟨Ao4, co4, eo4⟩ := Kd.R_slice HO0_0.out
  subst eo4
  obtain ⟨Ao5, co5, eo5⟩ := Kd.R_slice HO0_1.out
  subst eo5
  go_enter Try.func34, Try.ntmps34
  go_wp2_with (first | ((with_reducible refine gate_dst (N := 2) rfl ?_); refine box_event ?hg (N := 2) ?hd (cs := #[.slice Ao4 l0_0.length co4, .slice Ao5 l0_1.length co5]) (t := 24) ?hr ?_; (case hd => rfl); (case hg => rfl); (case hr => first | (go_simp; done) | (go_simp; rfl)); intro gb236 hg w6 hbox hb; have n0_ := aS_ (Kd.R_below (by (with_reducible repeat (first | apply rA_ | apply rN_ | apply rD_)); exact HO0_0.out) hb); have n1_ := aS_ (Kd.R_below (by (with_reducible repeat (first | apply rA_ | apply rN_ | apply rD_)); exact HO0_1.out) hb); have n2_ := aS_ (Kept.below (S := (fun k_ => P0_0_ k_ ∨ P0_1_ k_)) (by repeat (first | (with_reducible first | exact HK.out | apply Kept.alloc | apply Kept.drewN | apply Kept.drew) | exact HK.out)) hb); have n3_ := aS_ (below_step (by repeat (first | (with_reducible first | exact HB.out | apply bA_ | apply pN_ | apply bD_) | exact HB.out)) hb); have n4_ := aS_ (hbox); have n5_ := aS_ ((by rw [hg]; exact (by first | exact HK.out.1 | exact (show Kept w _ (fun k_ => P0_0_ k_ ∨ P0_1_ k_) from by repeat (first | (with_reducible first | exact HK.out | apply Kept.alloc | apply Kept.drewN | apply Kept.drew) | exact HK.out)).1) : w.heap.size ≤ gb236)); have n6_ := aS_ ((by rw [hg]; exact (below_size (by repeat (first | (with_reducible first | exact HB.out | apply bA_ | apply pN_ | apply bD_) | exact HB.out))) : w0.heap.size ≤ gb236)); clear HO0_0; clear HO0_1; clear HK; clear HB; have HO0_0 := n0_; have HO0_1 := n1_; have HK := n2_; have HB := n3_; have BK236 := n4_; have GW236 := n5_; have GE236 := n6_; clear n0_ n1_ n2_ n3_ n4_ n5_ n6_; clear hb hbox hg) | ((with_reducible refine gate_dst (N := 4) rfl ?_); refine box_event ?hg (N := 4) ?hd (cs := #[.slice none 0 0, .slice none 0 0]) (t := 24) ?hr ?_; (case hd => rfl); (case hg => rfl); (case hr => first | (go_simp; done) | (go_simp; rfl)); intro gb237 hg w7 hbox hb; have n0_ := aS_ (Kd.R_below (by (with_reducible repeat (first | apply rA_ | apply rN_ | apply rD_)); exact HO0_0.out) hb); have n1_ := aS_ (Kd.R_below (by (with_reducible repeat (first | apply rA_ | apply rN_ | apply rD_)); exact HO0_1.out) hb); have n2_ := aS_ (blk_below (g := gb236) (o := .cells #[.slice Ao4 l0_0.length co4, .slice Ao5 l0_1.length co5] 24 (0, 0)) (by (with_reducible repeat (first | refine kN_ ?_ _ | refine kD_ ?_ | refine kA_ ?_ _)); exact BK236.out) hb); have n3_ := aS_ (Kept.below (S := (fun k_ => P0_0_ k_ ∨ P0_1_ k_)) (by repeat (first | (with_reducible first | exact HK.out | apply Kept.alloc | apply Kept.drewN | apply Kept.drew | refine Kept.setCell ?_ (.inr GW236.out) _) | exact HK.out)) hb); have n4_ := aS_ (below_step (by repeat (first | (with_reducible first | exact HB.out | apply bA_ | apply pN_ | apply bD_ | refine bS_ ?_ GE236.out) | exact HB.out)) hb); have n5_ := aS_ (hbox); have n6_ := aS_ ((by rw [hg]; exact (by first | exact HK.out.1 | exact (show Kept w _ (fun k_ => P0_0_ k_ ∨ P0_1_ k_) from by repeat (first | (with_reducible first | exact HK.out | apply Kept.alloc | apply Kept.drewN | apply Kept.drew | refine Kept.setCell ?_ (.inr GW236.out) _) | exact HK.out)).1) : w.heap.size ≤ gb237)); have n7_ := aS_ ((by rw [hg]; exact (below_size (by repeat (first | (with_reducible first | exact HB.out | apply bA_ | apply pN_ | apply bD_ | refine bS_ ?_ GE236.out) | exact HB.out))) : w0.heap.size ≤ gb237)); have n8_ := aS_ ((by rw [hg]; exact Nat.ne_of_lt (blk_lt (g := gb236) (o := .cells #[.slice Ao4 l0_0.length co4, .slice Ao5 l0_1.length co5] 24 (0, 0)) (by (with_reducible repeat (first | refine kN_ ?_ _ | refine kD_ ?_ | refine kA_ ?_ _)); exact BK236.out)) : gb236 ≠ gb237)); have n9_ := aS_ ((by rw [hg]; exact Nat.ne_of_gt (blk_lt (g := gb236) (o := .cells #[.slice Ao4 l0_0.length co4, .slice Ao5 l0_1.length co5] 24 (0, 0)) (by (with_reducible repeat (first | refine kN_ ?_ _ | refine kD_ ?_ | refine kA_ ?_ _)); exact BK236.out)) : gb237 ≠ gb236)); clear HO0_0; clear HO0_1; clear BK236; clear HK; clear HB; have HO0_0 := n0_; have HO0_1 := n1_; have BK236 := n2_; have HK := n3_; have HB := n4_; have BK237 := n5_; have GW237 := n6_; have GE237 := n7_; have NB236_237 := n8_; have NB237_236 := n9_; clear n0_ n1_ n2_ n3_ n4_ n5_ n6_ n7_ n8_ n9_; clear hb hbox hg; have hnb8 := NB236_237.out; have hnc8 := NB237_236.out; have hcz9_0 : w7.cell? ⟨gb236, 0, none⟩ = some (.slice Ao4 l0_0.length co4) := (blk_cell BK236.out 0).trans rfl; have hcz9_1 : w7.cell? ⟨gb236, 1, none⟩ = some (.slice Ao5 l0_1.length co5) := (blk_cell BK236.out 1).trans rfl; have hfz9_0 := blk_frozen BK236.out 0; have hfz9_1 := blk_frozen BK236.out 1; have hcz10_0 : w7.cell? ⟨gb237, 0, none⟩ = some (.slice none 0 0) := (blk_cell BK237.out 0).trans rfl; have hcz10_1 : w7.cell? ⟨gb237, 1, none⟩ = some (.slice none 0 0) := (blk_cell BK237.out 1).trans rfl; have hfz10_0 := blk_frozen BK237.out 0; have hfz10_1 := blk_frozen BK237.out 1))
  refine bodyPost_ret (results_ct rfl _ _ gb237 24 #[.slice Ao4 l0_0.length co4, .slice Ao5 l0_1.length co5] (0, 0) _ rfl (by (with_reducible repeat (first | refine kN_ ?_ _ | refine kD_ ?_ | refine kA_ ?_ _)); refine blk_put (cs := #[.slice Ao4 l0_0.length co4, .slice none 0 0]) ?_ 1 _ rfl; (with_reducible repeat (first | refine kN_ ?_ _ | refine kD_ ?_ | refine kA_ ?_ _)); refine blk_put (cs := #[.slice none 0 0, .slice none 0 0]) ?_ 0 _ rfl; (with_reducible repeat (first | refine kN_ ?_ _ | refine kD_ ?_ | refine kA_ ?_ _)); exact BK237.out) Try.underlying24 rfl (by kernel_rfl)) rfl ?_
  exact ⟨_, _, by first | rfl | (simp [errW_none, errW_some] <;> rfl) | (simp [*, errW_none, errW_some] <;> rfl), by (with_reducible repeat (first | apply rA_ | apply rN_ | apply rD_)); exact Kd.R_mono (Kd.R_far (p := ⟨gb237, 1, none⟩) (Kd.R_far (p := ⟨gb237, 0, none⟩) (Kd.R_types HO0_0.out BK237.out (by decide)) (fun _ hk => hk.2) (.slice Ao4 l0_0.length co4)) (fun _ hk => hk.2) (.slice Ao5 l0_1.length co5)) (fun _ hk => by first | exact ⟨hk.1.1, hk.1.2⟩ | (simp only [hk, ne_eq, not_false_eq_true, and_self])), by (with_reducible repeat (first | apply rA_ | apply rN_ | apply rD_)); exact Kd.R_mono (Kd.R_far (p := ⟨gb237, 1, none⟩) (Kd.R_far (p := ⟨gb237, 0, none⟩) (Kd.R_types HO0_1.out BK237.out (by decide)) (fun _ hk => hk.2) (.slice Ao4 l0_0.length co4)) (fun _ hk => hk.2) (.slice Ao5 l0_1.length co5)) (fun _ hk => by first | exact ⟨hk.1.1, hk.1.2⟩ | (simp only [hk, ne_eq, not_false_eq_true, and_self])), by repeat (first | (with_reducible first | exact HB.out | apply bA_ | apply pN_ | apply bD_ | refine bS_ ?_ GE236.out | refine bS_ ?_ GE237.out) | exact HB.out), by repeat (first | (with_reducible first | exact HK.out | apply Kept.alloc | apply Kept.drewN | apply Kept.drew | refine Kept.setCell ?_ (.inr GW236.out) _ | refine Kept.setCell ?_ (.inr GW237.out) _) | exact HK.out)⟩
 ·rw [if_neg c3] at H
  have c3b0 : ((l0_0.length : Int) == (l1.length : Int)) = false := beq_eq_false_iff_ne.mpr c3
  have c3b1 : ((l0_0.length : Int) != (l1.length : Int)) = true := bne_iff_ne.mpr c3
  have c3b2 : (l0_0.length == l1.length) = false := by first | simpa using c3 | (simp at c3 ⊢; omega)
  have HC11 := aS_ H
  clear H
  obtain ⟨Ao12, co12, eo12⟩ := Kd.R_slice HO0_0.out
  subst eo12
  obtain ⟨Ao13, co13, eo13⟩ := Kd.R_slice HO0_1.out
  subst eo13
  go_enter Try.func34, Try.ntmps34
  go_upto_if 23 with (first | ((with_reducible refine gate_dst (N := 2) rfl ?_); refine box_event ?hg (N := 2) ?hd (cs := #[.slice Ao12 l0_0.length co12, .slice Ao13 l0_1.length co13]) (t := 24) ?hr ?_; (case hd => rfl); (case hg => rfl); (case hr => first | (go_simp; done) | (go_simp; rfl)); intro gb236 hg w14 hbox hb; have n0_ := aS_ (Kd.R_below (by (with_reducible repeat (first | apply rA_ | apply rN_ | apply rD_)); exact HO0_0.out) hb); have n1_ := aS_ (Kd.R_below (by (with_reducible repeat (first | apply rA_ | apply rN_ | apply rD_)); exact HO0_1.out) hb); have n2_ := aS_ (Kept.below (S := (fun k_ => P0_0_ k_ ∨ P0_1_ k_)) (by repeat (first | (with_reducible first | exact HK.out | apply Kept.alloc | apply Kept.drewN | apply Kept.drew) | exact HK.out)) hb); have n3_ := aS_ (below_step (by repeat (first | (with_reducible first | exact HB.out | apply bA_ | apply pN_ | apply bD_) | exact HB.out)) hb); have n4_ := aS_ (hbox); have n5_ := aS_ ((by rw [hg]; exact (by first | exact HK.out.1 | exact (show Kept w _ (fun k_ => P0_0_ k_ ∨ P0_1_ k_) from by repeat (first | (with_reducible first | exact HK.out | apply Kept.alloc | apply Kept.drewN | apply Kept.drew) | exact HK.out)).1) : w.heap.size ≤ gb236)); have n6_ := aS_ ((by rw [hg]; exact (below_size (by repeat (first | (with_reducible first | exact HB.out | apply bA_ | apply pN_ | apply bD_) | exact HB.out))) : w0.heap.size ≤ gb236)); clear HO0_0; clear HO0_1; clear HK; clear HB; have HO0_0 := n0_; have HO0_1 := n1_; have HK := n2_; have HB := n3_; have BK236 := n4_; have GW236 := n5_; have GE236 := n6_; clear n0_ n1_ n2_ n3_ n4_ n5_ n6_; clear hb hbox hg) | ((with_reducible refine gate_dst (N := 4) rfl ?_); refine box_event ?hg (N := 4) ?hd (cs := #[.slice none 0 0, .slice none 0 0]) (t := 24) ?hr ?_; (case hd => rfl); (case hg => rfl); (case hr => first | (go_simp; done) | (go_simp; rfl)); intro gb237 hg w15 hbox hb; have n0_ := aS_ (Kd.R_below (by (with_reducible repeat (first | apply rA_ | apply rN_ | apply rD_)); exact HO0_0.out) hb); have n1_ := aS_ (Kd.R_below (by (with_reducible repeat (first | apply rA_ | apply rN_ | apply rD_)); exact HO0_1.out) hb); have n2_ := aS_ (blk_below (g := gb236) (o := .cells #[.slice Ao12 l0_0.length co12, .slice Ao13 l0_1.length co13] 24 (0, 0)) (by (with_reducible repeat (first | refine kN_ ?_ _ | refine kD_ ?_ | refine kA_ ?_ _)); exact BK236.out) hb); have n3_ := aS_ (Kept.below (S := (fun k_ => P0_0_ k_ ∨ P0_1_ k_)) (by repeat (first | (with_reducible first | exact HK.out | apply Kept.alloc | apply Kept.drewN | apply Kept.drew | refine Kept.setCell ?_ (.inr GW236.out) _) | exact HK.out)) hb); have n4_ := aS_ (below_step (by repeat (first | (with_reducible first | exact HB.out | apply bA_ | apply pN_ | apply bD_ | refine bS_ ?_ GE236.out) | exact HB.out)) hb); have n5_ := aS_ (hbox); have n6_ := aS_ ((by rw [hg]; exact (by first | exact HK.out.1 | exact (show Kept w _ (fun k_ => P0_0_ k_ ∨ P0_1_ k_) from by repeat (first | (with_reducible first | exact HK.out | apply Kept.alloc | apply Kept.drewN | apply Kept.drew | refine Kept.setCell ?_ (.inr GW236.out) _) | exact HK.out)).1) : w.heap.size ≤ gb237)); have n7_ := aS_ ((by rw [hg]; exact (below_size (by repeat (first | (with_reducible first | exact HB.out | apply bA_ | apply pN_ | apply bD_ | refine bS_ ?_ GE236.out) | exact HB.out))) : w0.heap.size ≤ gb237)); have n8_ := aS_ ((by rw [hg]; exact Nat.ne_of_lt (blk_lt (g := gb236) (o := .cells #[.slice Ao12 l0_0.length co12, .slice Ao13 l0_1.length co13] 24 (0, 0)) (by (with_reducible repeat (first | refine kN_ ?_ _ | refine kD_ ?_ | refine kA_ ?_ _)); exact BK236.out)) : gb236 ≠ gb237)); have n9_ := aS_ ((by rw [hg]; exact Nat.ne_of_gt (blk_lt (g := gb236) (o := .cells #[.slice Ao12 l0_0.length co12, .slice Ao13 l0_1.length co13] 24 (0, 0)) (by (with_reducible repeat (first | refine kN_ ?_ _ | refine kD_ ?_ | refine kA_ ?_ _)); exact BK236.out)) : gb237 ≠ gb236)); clear HO0_0; clear HO0_1; clear BK236; clear HK; clear HB; have HO0_0 := n0_; have HO0_1 := n1_; have BK236 := n2_; have HK := n3_; have HB := n4_; have BK237 := n5_; have GW237 := n6_; have GE237 := n7_; have NB236_237 := n8_; have NB237_236 := n9_; clear n0_ n1_ n2_ n3_ n4_ n5_ n6_ n7_ n8_ n9_; clear hb hbox hg; have hnb16 := NB236_237.out; have hnc16 := NB237_236.out; have hcz17_0 : w15.cell? ⟨gb236, 0, none⟩ = some (.slice Ao12 l0_0.length co12) := (blk_cell BK236.out 0).trans rfl; have hcz17_1 : w15.cell? ⟨gb236, 1, none⟩ = some (.slice Ao13 l0_1.length co13) := (blk_cell BK236.out 1).trans rfl; have hfz17_0 := blk_frozen BK236.out 0; have hfz17_1 := blk_frozen BK236.out 1))
  (try simp only [Act.put, List.setIfInBounds_toArray, List.set_cons_zero, List.set_cons_succ])
  go_cut [7] (fun v7 wc => ∃ (kq : Nat) (x7_10 : Int), v7 = .int .i64 x7_10 ∧ Aside0 (spec_reGoOn.j0 kq l1 (l0_0.length : Int) x7_10 l0_0 l0_1 = some (r1, r2, r3)) ∧ Aside0 (kq ≤ k) ∧ Aside0 (Kd.R (Kd.int .i64) 3 wc w0.heap.size (fun k_ => ((P0_0_ k_ ∨ P0_1_ k_) ∨ w.heap.size ≤ k_) ∧ some k_ ≠ ((.slice Ao13 l0_1.length co13) : Value).ownBlock) (.slice Ao12 l0_0.length co12) l0_0) ∧ Aside0 (Kd.R (Kd.int .i64) 3 wc w0.heap.size (fun k_ => ((P0_0_ k_ ∨ P0_1_ k_) ∨ w.heap.size ≤ k_) ∧ some k_ ≠ ((.slice Ao12 l0_0.length co12) : Value).ownBlock) (.slice Ao13 l0_1.length co13) l0_1) ∧ Aside0 (wc.heap[gb236]? = some (.cells #[(.slice Ao12 l0_0.length co12), (.slice Ao13 l0_1.length co13)] 24 (0, 0))) ∧ Aside0 (wc.heap[gb237]? = some (.cells #[(.slice none 0 0), (.slice none 0 0)] 24 (0, 0))) ∧ Aside0 (Kept w wc (fun k_ => P0_0_ k_ ∨ P0_1_ k_)) ∧ Aside0 (Below w0.heap.size w0 wc))
  case first =>
   have H := HC11.out
   clear HC11
   by_cases c18 : (l0_0.length : Int) > 0
   ·rw [if_pos c18] at H
    have c18b0 : decide (0 < (l0_0.length : Int)) = true := decide_eq_true c18
    have c18b1 : decide (0 < l0_0.length) = true := decide_eq_true (by omega)
    clear c18
    (first | rw [c18b0] | (simp only [i64_w, i32_w]; rw [c18b0]) | rw [c18b1] | skip)
    obtain ⟨ji19, hji19⟩ : ∃ j_ : Int, (wrap64 ((l0_0.length : Int) - 1)) = j_ := ⟨_, rfl⟩
    replace H : (if 0 ≤ (ji19) then (if (ji19) < (l0_1.length : Int) then (spec_reGoOn.j0 k l1 (l0_0.length : Int) (rd l0_1 (ji19)) l0_0 l0_1) else (none)) else (none)) = some (r1, r2, r3) := by first | (rw [hji19] at H; exact H) | (simp only [hji19] at H ⊢; exact H)
    have hji19w : (IntKind.i64.wrap ((l0_0.length : Int) - 1)) = ji19 := (i64_w _).trans hji19
    by_cases c20 : 0 ≤ (ji19)
    ·rw [if_pos c20] at H
     have c20b0 : decide (0 ≤ (ji19)) = true := decide_eq_true c20
     clear c20
     by_cases c21 : (ji19) < (l0_1.length : Int)
     ·rw [if_pos c21] at H
      have c21b0 : decide ((ji19) < (l0_1.length : Int)) = true := decide_eq_true c21
      clear c21
      have H' := aS_ H
      clear H
      have hnb22 := NB236_237.out
      have hnc22 := NB237_236.out
      have hcz23_0 : w15.cell? ⟨gb236, 0, none⟩ = some (.slice Ao12 l0_0.length co12) := (blk_cell BK236.out 0).trans rfl
      have hcz23_1 : w15.cell? ⟨gb236, 1, none⟩ = some (.slice Ao13 l0_1.length co13) := (blk_cell BK236.out 1).trans rfl
      have hfz23_0 := blk_frozen BK236.out 0
      have hfz23_1 := blk_frozen BK236.out 1
      have p238 : 0 ≤ ((ji19) : Int) := of_decide_eq_true (by assumption)
      have q238 : (ji19) < (l0_1.length : Int) := of_decide_eq_true (by assumption)
      obtain ⟨ad238, e238, hx238_0⟩ := Kd.at_int (Kd.R_reads' HO0_1.out).2.2 (ji19) p238 q238
      cases e238
      replace p238 := eq_true p238
      replace q238 := eq_true q238
      go_wp2
      go_meet
      case rel => exact ⟨_, (rd l0_1 (ji19)), (by first | rfl | (simp; done) | (simp only [← hji19] <;> (first | rfl | simp)) | (simp [*]; done)), H', ⟨by first | omega | exact Nat.le_refl _⟩, ⟨by (with_reducible repeat (first | apply rA_ | apply rN_ | apply rD_)); exact HO0_0.out⟩, ⟨by (with_reducible repeat (first | apply rA_ | apply rN_ | apply rD_)); exact HO0_1.out⟩, ⟨by (with_reducible repeat (first | refine kN_ ?_ _ | refine kD_ ?_ | refine kA_ ?_ _)); exact BK236.out⟩, ⟨by (with_reducible repeat (first | refine kN_ ?_ _ | refine kD_ ?_ | refine kA_ ?_ _)); exact BK237.out⟩, ⟨by repeat (first | (with_reducible first | exact HK.out | apply Kept.alloc | apply Kept.drewN | apply Kept.drew | refine Kept.setCell ?_ (.inr GW236.out) _ | refine Kept.setCell ?_ (.inr GW237.out) _) | exact HK.out)⟩, ⟨by repeat (first | (with_reducible first | exact HB.out | apply bA_ | apply pN_ | apply bD_ | refine bS_ ?_ GE236.out | refine bS_ ?_ GE237.out) | exact HB.out)⟩⟩
     ·rw [if_neg c21] at H
      exact absurd H (by simp)
    ·rw [if_neg c20] at H
     exact absurd H (by simp)
   ·rw [if_neg c18] at H
    have c18b0 : decide (0 < (l0_0.length : Int)) = false := decide_eq_false c18
    have c18b1 : decide (0 < l0_0.length) = false := decide_eq_false (by omega)
    clear c18
    (first | rw [c18b0] | (simp only [i64_w, i32_w]; rw [c18b0]) | rw [c18b1] | skip)
    have H' := aS_ H
    clear H
    go_wp2
    go_meet
    case rel => exact ⟨_, (0), (by first | rfl | (simp; done) | (simp [*]; done)), H', ⟨by first | omega | exact Nat.le_refl _⟩, ⟨by (with_reducible repeat (first | apply rA_ | apply rN_ | apply rD_)); exact HO0_0.out⟩, ⟨by (with_reducible repeat (first | apply rA_ | apply rN_ | apply rD_)); exact HO0_1.out⟩, ⟨by (with_reducible repeat (first | refine kN_ ?_ _ | refine kD_ ?_ | refine kA_ ?_ _)); exact BK236.out⟩, ⟨by (with_reducible repeat (first | refine kN_ ?_ _ | refine kD_ ?_ | refine kA_ ?_ _)); exact BK237.out⟩, ⟨by repeat (first | (with_reducible first | exact HK.out | apply Kept.alloc | apply Kept.drewN | apply Kept.drew | refine Kept.setCell ?_ (.inr GW236.out) _ | refine Kept.setCell ?_ (.inr GW237.out) _) | exact HK.out)⟩, ⟨by repeat (first | (with_reducible first | exact HB.out | apply bA_ | apply pN_ | apply bD_ | refine bS_ ?_ GE236.out | refine bS_ ?_ GE237.out) | exact HB.out)⟩⟩
  case rest =>
   clear HC11
   try clear c1
   try clear c2
   try clear p2
   try clear q2
   try clear hx2
   try clear c3
   try clear c3b0
   try clear c3b1
   try clear c3b2
   try clear p6
   try clear c8
   try clear c16
   try clear c18
   try clear c18b0
   try clear c18b1
   try clear c20
   try clear c20b0
   try clear c21
   try clear c21b0
   try clear c22
   try clear p23
   try clear q23
   try clear hx23
   try clear hcz10_0
   try clear hcz10_1
   try clear hcz17_0
   try clear hcz17_1
   try clear hcz23_0
   try clear hcz23_1
   try clear hcz9_0
   try clear hcz9_1
   try clear hfz10_0
   try clear hfz10_1
   try clear hfz17_0
   try clear hfz17_1
   try clear hfz23_0
   try clear hfz23_1
   try clear hfz9_0
   try clear hfz9_1
   try clear hx238_0
   try clear p238
   try clear q238
   obtain ⟨kq, x7_10, rfl, HA, HJ10, HO_237000, HO_237001, BK236, BK237, HK, HB⟩ := hcut
   cases kq with
   | zero => exact absurd HA.out (by simp [spec_reGoOn.j0])
   | succ kj10 =>
    have H := HA.out
    clear HA
    simp only [spec_reGoOn.j0] at H
    have H' := aS_ H
    clear H
    go_wp2
    go_loopg [32] kj10 (fun kq v32 w' => ∃ (x32_2 : Int), v32 = .int .i64 x32_2 ∧ Aside0 (spec_reGoOn.l0 kq l1 (l0_0.length : Int) x7_10 l1 (l1.length : Int) x32_2 l0_0 l0_1 = some (r1, r2, r3)) ∧ Aside0 (kq ≤ kj10) ∧ Aside0 (Kd.R (Kd.int .i64) 3 w' w0.heap.size (fun k_ => ((P0_0_ k_ ∨ P0_1_ k_) ∨ w.heap.size ≤ k_) ∧ some k_ ≠ ((.slice Ao13 l0_1.length co13) : Value).ownBlock) (.slice Ao12 l0_0.length co12) l0_0) ∧ Aside0 (Kd.R (Kd.int .i64) 3 w' w0.heap.size (fun k_ => ((P0_0_ k_ ∨ P0_1_ k_) ∨ w.heap.size ≤ k_) ∧ some k_ ≠ ((.slice Ao12 l0_0.length co12) : Value).ownBlock) (.slice Ao13 l0_1.length co13) l0_1) ∧ Aside0 (w'.heap[gb236]? = some (.cells #[(.slice Ao12 l0_0.length co12), (.slice Ao13 l0_1.length co13)] 24 (0, 0))) ∧ Aside0 (w'.heap[gb237]? = some (.cells #[(.slice none 0 0), (.slice none 0 0)] 24 (0, 0))) ∧ Aside0 (Kept w w' (fun k_ => P0_0_ k_ ∨ P0_1_ k_)) ∧ Aside0 (Below w0.heap.size w0 w'))
    case atStart => exact ⟨(0), (by first | rfl | (simp; done) | (simp [*]; done)), H', ⟨Nat.le_refl _⟩, ⟨by (with_reducible repeat (first | apply rA_ | apply rN_ | apply rD_)); exact HO_237000.out⟩, ⟨by (with_reducible repeat (first | apply rA_ | apply rN_ | apply rD_)); exact HO_237001.out⟩, ⟨by (with_reducible repeat (first | refine kN_ ?_ _ | refine kD_ ?_ | refine kA_ ?_ _)); exact BK236.out⟩, ⟨by (with_reducible repeat (first | refine kN_ ?_ _ | refine kD_ ?_ | refine kA_ ?_ _)); exact BK237.out⟩, ⟨by repeat (first | (with_reducible first | exact HK.out | apply Kept.alloc | apply Kept.drewN | apply Kept.drew | refine Kept.setCell ?_ (.inr GW236.out) _ | refine Kept.setCell ?_ (.inr GW237.out) _) | exact HK.out)⟩, ⟨by repeat (first | (with_reducible first | exact HB.out | apply bA_ | apply pN_ | apply bD_ | refine bS_ ?_ GE236.out | refine bS_ ?_ GE237.out) | exact HB.out)⟩⟩
    case round =>
     clear H'
     try clear c1
     try clear c2
     try clear p2
     try clear q2
     try clear hx2
     try clear c3
     try clear c3b0
     try clear c3b1
     try clear c3b2
     try clear p6
     try clear c8
     try clear c16
     try clear c18
     try clear c18b0
     try clear c18b1
     try clear c20
     try clear c20b0
     try clear c21
     try clear c21b0
     try clear c22
     try clear p23
     try clear q23
     try clear hx23
     try clear hcz10_0
     try clear hcz10_1
     try clear hcz17_0
     try clear hcz17_1
     try clear hcz23_0
     try clear hcz23_1
     try clear hcz9_0
     try clear hcz9_1
     try clear hfz10_0
     try clear hfz10_1
     try clear hfz17_0
     try clear hfz17_1
     try clear hfz23_0
     try clear hfz23_1
     try clear hfz9_0
     try clear hfz9_1
     try clear hx238_0
     try clear p2
     try clear p23
     try clear p238
     try clear p6
     try clear q2
     try clear q23
     try clear q238
     obtain ⟨x32_2, rfl, HA, HK2, HO_237000, HO_237001, BK236, BK237, HK, HB⟩ := hrel
     cases gk with
     | zero => exact absurd HA.out (by simp [spec_reGoOn.l0])
     | succ k2 =>
      have H := HA.out
      clear HA
      simp only [spec_reGoOn.l0] at H
      by_cases c24 : x32_2 < (l1.length : Int)
      ·rw [if_pos c24] at H
       have c24b0 : decide (x32_2 < (l1.length : Int)) = true := decide_eq_true c24
       clear c24
       by_cases c25 : 0 ≤ x32_2
       ·rw [if_pos c25] at H
        have c25b0 : decide (0 ≤ x32_2) = true := decide_eq_true c25
        clear c25
        by_cases c26 : x32_2 < (l1.length : Int)
        ·rw [if_pos c26] at H
         have c26b0 : decide (x32_2 < (l1.length : Int)) = true := decide_eq_true c26
         clear c26
         replace H := Option.bind_eq_some_iff.mp H
         obtain ⟨t240, A270, H⟩ := H
         have A27 := aS_ A270
         clear A270
         by_cases c28 : t240 = true
         ·subst c28
          rw [if_pos rfl] at H
          have H' := aS_ H
          clear H
          have p239 : 0 ≤ (x32_2 : Int) := of_decide_eq_true (by assumption)
          have q239 : x32_2 < (l1.length : Int) := of_decide_eq_true (by assumption)
          obtain ⟨ad239, e239, hx239_0⟩ := Kd.at_int (Kd.C_kept_now HR1.out HK.out) x32_2 p239 q239
          cases e239
          replace p239 := eq_true p239
          replace q239 := eq_true q239
          have hnb29 := NB236_237.out
          have hnc29 := NB237_236.out
          have hcz30_0 : wr.cell? ⟨gb236, 0, none⟩ = some (.slice Ao12 l0_0.length co12) := (blk_cell BK236.out 0).trans rfl
          have hcz30_1 : wr.cell? ⟨gb236, 1, none⟩ = some (.slice Ao13 l0_1.length co13) := (blk_cell BK236.out 1).trans rfl
          have hfz30_0 := blk_frozen BK236.out 0
          have hfz30_1 := blk_frozen BK236.out 1
          go_wp2_with (first | ((with_reducible refine gate_callee (f := 52) rfl ?_); refine goesL_ (some 40) rfl rfl Try.func52 (by kernel_rfl) rfl #[.slice Ao12 l0_0.length co12, .int .i64 x32_2] rfl (by (try simp only [List.map_toArray, List.map_cons, List.map_nil]); first | done | rfl | (simp only [List.length_drop, List.length_take]; rfl)) ?_; (with_reducible refine (spec_l1Has.calls k2 _ _ l0_0 x32_2 true _ ?side1 ?side2 A27.out).mono ?_); (case side1 => repeat (first | exact (Kd.R_reads' HO_237000.out).2.2 | (with_reducible refine Kd.C_alloc ?_ _) | (with_reducible refine Kd.C_drewN ?_ _) | (with_reducible refine Kd.C_drew ?_))); (case side2 => exact (Kd.R_reads' HO_237000.out).2.1); rintro e w' ⟨rfl, ⟨nd, rfl⟩⟩; refine ⟨_, rfl, ?_⟩))
          go_roundg k2
          case measure => have := HJ10.out; have := HK2.out; omega
          case rel => exact ⟨(wrap64 (x32_2 + 1)), (by first | rfl | (simp; done) | (simp [*]; done)), H', ⟨by have := HJ10.out; have := HK2.out; omega⟩, ⟨by (with_reducible repeat (first | apply rA_ | apply rN_ | apply rD_)); exact HO_237000.out⟩, ⟨by (with_reducible repeat (first | apply rA_ | apply rN_ | apply rD_)); exact HO_237001.out⟩, ⟨by (with_reducible repeat (first | refine kN_ ?_ _ | refine kD_ ?_ | refine kA_ ?_ _)); exact BK236.out⟩, ⟨by (with_reducible repeat (first | refine kN_ ?_ _ | refine kD_ ?_ | refine kA_ ?_ _)); exact BK237.out⟩, ⟨by repeat (first | (with_reducible first | exact HK.out | apply Kept.alloc | apply Kept.drewN | apply Kept.drew | refine Kept.setCell ?_ (.inr GW236.out) _ | refine Kept.setCell ?_ (.inr GW237.out) _) | exact HK.out)⟩, ⟨by repeat (first | (with_reducible first | exact HB.out | apply bA_ | apply pN_ | apply bD_ | refine bS_ ?_ GE236.out | refine bS_ ?_ GE237.out) | exact HB.out)⟩⟩
         ·replace c28 := Bool.eq_false_iff.mpr c28
          subst c28
          rw [if_neg (show ¬ (false = true) by decide)] at H
          have H' := aS_ H
          clear H
          have p239 : 0 ≤ (x32_2 : Int) := of_decide_eq_true (by assumption)
          have q239 : x32_2 < (l1.length : Int) := of_decide_eq_true (by assumption)
          obtain ⟨ad239, e239, hx239_0⟩ := Kd.at_int (Kd.C_kept_now HR1.out HK.out) x32_2 p239 q239
          cases e239
          replace p239 := eq_true p239
          replace q239 := eq_true q239
          have hnb31 := NB236_237.out
          have hnc31 := NB237_236.out
          have hcz32_0 : wr.cell? ⟨gb236, 0, none⟩ = some (.slice Ao12 l0_0.length co12) := (blk_cell BK236.out 0).trans rfl
          have hcz32_1 : wr.cell? ⟨gb236, 1, none⟩ = some (.slice Ao13 l0_1.length co13) := (blk_cell BK236.out 1).trans rfl
          have hfz32_0 := blk_frozen BK236.out 0
          have hfz32_1 := blk_frozen BK236.out 1
          go_wp2_with (first | ((with_reducible refine gate_callee (f := 52) rfl ?_); refine goesL_ (some 40) rfl rfl Try.func52 (by kernel_rfl) rfl #[.slice Ao12 l0_0.length co12, .int .i64 x32_2] rfl (by (try simp only [List.map_toArray, List.map_cons, List.map_nil]); first | done | rfl | (simp only [List.length_drop, List.length_take]; rfl)) ?_; (with_reducible refine (spec_l1Has.calls k2 _ _ l0_0 x32_2 false _ ?side1 ?side2 A27.out).mono ?_); (case side1 => repeat (first | exact (Kd.R_reads' HO_237000.out).2.2 | (with_reducible refine Kd.C_alloc ?_ _) | (with_reducible refine Kd.C_drewN ?_ _) | (with_reducible refine Kd.C_drew ?_))); (case side2 => exact (Kd.R_reads' HO_237000.out).2.1); rintro e w' ⟨rfl, ⟨nd, rfl⟩⟩; refine ⟨_, rfl, ?_⟩))
          go_loopg [10] k2 (fun kq v10 w' => ∃ (x10_3 : Int), v10 = .int .i64 x10_3 ∧ Aside0 (spec_reGoOn.l1 kq l1 (l0_0.length : Int) x7_10 x32_2 (rd l1 x32_2) x10_3 l1 (l1.length : Int) x32_2 l0_0 l0_1 = some (r1, r2, r3)) ∧ Aside0 (kq ≤ k2) ∧ Aside0 (Kd.R (Kd.int .i64) 3 w' w0.heap.size (fun k_ => ((P0_0_ k_ ∨ P0_1_ k_) ∨ w.heap.size ≤ k_) ∧ some k_ ≠ ((.slice Ao13 l0_1.length co13) : Value).ownBlock) (.slice Ao12 l0_0.length co12) l0_0) ∧ Aside0 (Kd.R (Kd.int .i64) 3 w' w0.heap.size (fun k_ => ((P0_0_ k_ ∨ P0_1_ k_) ∨ w.heap.size ≤ k_) ∧ some k_ ≠ ((.slice Ao12 l0_0.length co12) : Value).ownBlock) (.slice Ao13 l0_1.length co13) l0_1) ∧ Aside0 (w'.heap[gb236]? = some (.cells #[(.slice Ao12 l0_0.length co12), (.slice Ao13 l0_1.length co13)] 24 (0, 0))) ∧ Aside0 (w'.heap[gb237]? = some (.cells #[(.slice none 0 0), (.slice none 0 0)] 24 (0, 0))) ∧ Aside0 (Kept w w' (fun k_ => P0_0_ k_ ∨ P0_1_ k_)) ∧ Aside0 (Below w0.heap.size w0 w'))
          case atStart => exact ⟨(x7_10), (by first | rfl | (simp; done) | (simp [*]; done)), H', ⟨Nat.le_refl _⟩, ⟨by (with_reducible repeat (first | apply rA_ | apply rN_ | apply rD_)); exact HO_237000.out⟩, ⟨by (with_reducible repeat (first | apply rA_ | apply rN_ | apply rD_)); exact HO_237001.out⟩, ⟨by (with_reducible repeat (first | refine kN_ ?_ _ | refine kD_ ?_ | refine kA_ ?_ _)); exact BK236.out⟩, ⟨by (with_reducible repeat (first | refine kN_ ?_ _ | refine kD_ ?_ | refine kA_ ?_ _)); exact BK237.out⟩, ⟨by repeat (first | (with_reducible first | exact HK.out | apply Kept.alloc | apply Kept.drewN | apply Kept.drew | refine Kept.setCell ?_ (.inr GW236.out) _ | refine Kept.setCell ?_ (.inr GW237.out) _) | exact HK.out)⟩, ⟨by repeat (first | (with_reducible first | exact HB.out | apply bA_ | apply pN_ | apply bD_ | refine bS_ ?_ GE236.out | refine bS_ ?_ GE237.out) | exact HB.out)⟩⟩
          case round =>
           clear H'
           try clear c1
           try clear c2
           try clear p2
           try clear q2
           try clear hx2
           try clear c3
           try clear c3b0
           try clear c3b1
           try clear c3b2
           try clear c5
           try clear p6
           try clear c8
           try clear c16
           try clear c18
           try clear c18b0
           try clear c18b1
           try clear c20
           try clear c20b0
           try clear c21
           try clear c21b0
           try clear c22
           try clear p23
           try clear q23
           try clear hx23
           try clear c24
           try clear c24b0
           try clear c25
           try clear c25b0
           try clear c26
           try clear c26b0
           try clear c28
           try clear c29
           try clear c31
           try clear hcz10_0
           try clear hcz10_1
           try clear hcz17_0
           try clear hcz17_1
           try clear hcz23_0
           try clear hcz23_1
           try clear hcz30_0
           try clear hcz30_1
           try clear hcz32_0
           try clear hcz32_1
           try clear hcz9_0
           try clear hcz9_1
           try clear hfz10_0
           try clear hfz10_1
           try clear hfz17_0
           try clear hfz17_1
           try clear hfz23_0
           try clear hfz23_1
           try clear hfz30_0
           try clear hfz30_1
           try clear hfz32_0
           try clear hfz32_1
           try clear hfz9_0
           try clear hfz9_1
           try clear hx238_0
           try clear hx239_0
           try clear p2
           try clear p23
           try clear p238
           try clear p239
           try clear p6
           try clear q2
           try clear q23
           try clear q238
           try clear q239
           obtain ⟨x10_3, rfl, HA, HK3, HO_237000, HO_237001, BK236, BK237, HK, HB⟩ := hrel
           cases gk with
           | zero => exact absurd HA.out (by simp [spec_reGoOn.l1])
           | succ k3 =>
            have H := HA.out
            clear HA
            simp only [spec_reGoOn.l1] at H
            by_cases c33 : x10_3 ≤ (l0_0.length : Int)
            ·rw [if_pos c33] at H
             have c33b0 : decide (x10_3 ≤ (l0_0.length : Int)) = true := decide_eq_true c33
             clear c33
             have HC34 := aS_ H
             clear H
             go_upto_region 14 with (fail)
             go_cut [68] (fun v68 wc => ∃ (kq : Nat) (x68_33 : Bool), v68 = .bool x68_33 ∧ Aside0 (spec_reGoOn.j3 kq l1 (l0_0.length : Int) x7_10 x32_2 (rd l1 x32_2) x10_3 l1 (l1.length : Int) x32_2 x68_33 l0_0 l0_1 = some (r1, r2, r3)) ∧ Aside0 (kq ≤ k3) ∧ Aside0 (Kd.R (Kd.int .i64) 3 wc w0.heap.size (fun k_ => ((P0_0_ k_ ∨ P0_1_ k_) ∨ w.heap.size ≤ k_) ∧ some k_ ≠ ((.slice Ao13 l0_1.length co13) : Value).ownBlock) (.slice Ao12 l0_0.length co12) l0_0) ∧ Aside0 (Kd.R (Kd.int .i64) 3 wc w0.heap.size (fun k_ => ((P0_0_ k_ ∨ P0_1_ k_) ∨ w.heap.size ≤ k_) ∧ some k_ ≠ ((.slice Ao12 l0_0.length co12) : Value).ownBlock) (.slice Ao13 l0_1.length co13) l0_1) ∧ Aside0 (wc.heap[gb236]? = some (.cells #[(.slice Ao12 l0_0.length co12), (.slice Ao13 l0_1.length co13)] 24 (0, 0))) ∧ Aside0 (wc.heap[gb237]? = some (.cells #[(.slice none 0 0), (.slice none 0 0)] 24 (0, 0))) ∧ Aside0 (Kept w wc (fun k_ => P0_0_ k_ ∨ P0_1_ k_)) ∧ Aside0 (Below w0.heap.size w0 wc))
             case first =>
              have H := HC34.out
              clear HC34
              by_cases c35 : x10_3 > x7_10
              ·rw [if_pos c35] at H
               have c35b0 : decide (x7_10 < x10_3) = true := decide_eq_true c35
               clear c35
               (first | rw [c35b0] | (simp only [i64_w, i32_w]; rw [c35b0]) | skip)
               obtain ⟨ji36, hji36⟩ : ∃ j_ : Int, (wrap64 (x10_3 - 1)) = j_ := ⟨_, rfl⟩
               replace H : (if 0 ≤ (ji36) then (if (ji36) < (l0_0.length : Int) then (if (rd l0_0 (ji36)) > x32_2 then (spec_reGoOn.j3 k3 l1 (l0_0.length : Int) x7_10 x32_2 (rd l1 x32_2) x10_3 l1 (l1.length : Int) x32_2 true l0_0 l0_1) else ((spec_reCount.f k3 l0_0 x10_3 x32_2).bind fun t242 => (spec_reGoOn.j3 k3 l1 (l0_0.length : Int) x7_10 x32_2 (rd l1 x32_2) x10_3 l1 (l1.length : Int) x32_2 (t242 != (rd l1 x32_2)) l0_0 l0_1))) else (none)) else (none)) = some (r1, r2, r3) := by first | (rw [hji36] at H; exact H) | (simp only [hji36] at H ⊢; exact H)
               have hji36w : (IntKind.i64.wrap (x10_3 - 1)) = ji36 := (i64_w _).trans hji36
               by_cases c37 : 0 ≤ (ji36)
               ·rw [if_pos c37] at H
                have c37b0 : decide (0 ≤ (ji36)) = true := decide_eq_true c37
                clear c37
                by_cases c38 : (ji36) < (l0_0.length : Int)
                ·rw [if_pos c38] at H
                 have c38b0 : decide ((ji36) < (l0_0.length : Int)) = true := decide_eq_true c38
                 clear c38
                 by_cases c39 : (rd l0_0 (ji36)) > x32_2
                 ·rw [if_pos c39] at H
                  have c39b0 : decide (x32_2 < (rd l0_0 (ji36))) = true := decide_eq_true c39
                  clear c39
                  have H' := aS_ H
                  clear H
                  have hnb40 := NB236_237.out
                  have hnc40 := NB237_236.out
                  have hcz41_0 : wr.cell? ⟨gb236, 0, none⟩ = some (.slice Ao12 l0_0.length co12) := (blk_cell BK236.out 0).trans rfl
                  have hcz41_1 : wr.cell? ⟨gb236, 1, none⟩ = some (.slice Ao13 l0_1.length co13) := (blk_cell BK236.out 1).trans rfl
                  have hfz41_0 := blk_frozen BK236.out 0
                  have hfz41_1 := blk_frozen BK236.out 1
                  have p241 : 0 ≤ ((ji36) : Int) := of_decide_eq_true (by assumption)
                  have q241 : (ji36) < (l0_0.length : Int) := of_decide_eq_true (by assumption)
                  obtain ⟨ad241, e241, hx241_0⟩ := Kd.at_int (Kd.R_reads' HO_237000.out).2.2 (ji36) p241 q241
                  cases e241
                  replace p241 := eq_true p241
                  replace q241 := eq_true q241
                  go_wp2
                  go_meet
                  case rel => exact ⟨_, (true), (by first | rfl | (simp; done) | (simp [*]; done)), H', ⟨by have := HJ10.out; have := HK2.out; have := HK3.out; first | omega | exact Nat.le_refl _⟩, ⟨by (with_reducible repeat (first | apply rA_ | apply rN_ | apply rD_)); exact HO_237000.out⟩, ⟨by (with_reducible repeat (first | apply rA_ | apply rN_ | apply rD_)); exact HO_237001.out⟩, ⟨by (with_reducible repeat (first | refine kN_ ?_ _ | refine kD_ ?_ | refine kA_ ?_ _)); exact BK236.out⟩, ⟨by (with_reducible repeat (first | refine kN_ ?_ _ | refine kD_ ?_ | refine kA_ ?_ _)); exact BK237.out⟩, ⟨by repeat (first | (with_reducible first | exact HK.out | apply Kept.alloc | apply Kept.drewN | apply Kept.drew | refine Kept.setCell ?_ (.inr GW236.out) _ | refine Kept.setCell ?_ (.inr GW237.out) _) | exact HK.out)⟩, ⟨by repeat (first | (with_reducible first | exact HB.out | apply bA_ | apply pN_ | apply bD_ | refine bS_ ?_ GE236.out | refine bS_ ?_ GE237.out) | exact HB.out)⟩⟩
                 ·rw [if_neg c39] at H
                  have c39b0 : decide (x32_2 < (rd l0_0 (ji36))) = false := decide_eq_false c39
                  clear c39
                  replace H := Option.bind_eq_some_iff.mp H
                  obtain ⟨t242, A420, H⟩ := H
                  have A42 := aS_ A420
                  clear A420
                  have H' := aS_ H
                  clear H
                  have hnb43 := NB236_237.out
                  have hnc43 := NB237_236.out
                  have hcz44_0 : wr.cell? ⟨gb236, 0, none⟩ = some (.slice Ao12 l0_0.length co12) := (blk_cell BK236.out 0).trans rfl
                  have hcz44_1 : wr.cell? ⟨gb236, 1, none⟩ = some (.slice Ao13 l0_1.length co13) := (blk_cell BK236.out 1).trans rfl
                  have hfz44_0 := blk_frozen BK236.out 0
                  have hfz44_1 := blk_frozen BK236.out 1
                  have p241 : 0 ≤ ((ji36) : Int) := of_decide_eq_true (by assumption)
                  have q241 : (ji36) < (l0_0.length : Int) := of_decide_eq_true (by assumption)
                  obtain ⟨ad241, e241, hx241_0⟩ := Kd.at_int (Kd.R_reads' HO_237000.out).2.2 (ji36) p241 q241
                  cases e241
                  replace p241 := eq_true p241
                  replace q241 := eq_true q241
                  go_wp2_with (first | (go_at_call 53; (with_reducible refine (spec_reCount.calls k3 _ _ l0_0 x10_3 x32_2 t242 _ ?side1 ?side2 A42.out).mono ?_); (case side1 => repeat (first | exact (Kd.R_reads' HO_237000.out).2.2 | (with_reducible refine Kd.C_alloc ?_ _) | (with_reducible refine Kd.C_drewN ?_ _) | (with_reducible refine Kd.C_drew ?_))); (case side2 => exact (Kd.R_reads' HO_237000.out).2.1); rintro e w' ⟨rfl, ⟨nd, rfl⟩⟩))
                  go_meet
                  case rel => exact ⟨_, ((t242 != (rd l1 x32_2))), (by first | rfl | (simp; done) | (simp [*]; done)), H', ⟨by have := HJ10.out; have := HK2.out; have := HK3.out; first | omega | exact Nat.le_refl _⟩, ⟨by (with_reducible repeat (first | apply rA_ | apply rN_ | apply rD_)); exact HO_237000.out⟩, ⟨by (with_reducible repeat (first | apply rA_ | apply rN_ | apply rD_)); exact HO_237001.out⟩, ⟨by (with_reducible repeat (first | refine kN_ ?_ _ | refine kD_ ?_ | refine kA_ ?_ _)); exact BK236.out⟩, ⟨by (with_reducible repeat (first | refine kN_ ?_ _ | refine kD_ ?_ | refine kA_ ?_ _)); exact BK237.out⟩, ⟨by repeat (first | (with_reducible first | exact HK.out | apply Kept.alloc | apply Kept.drewN | apply Kept.drew | refine Kept.setCell ?_ (.inr GW236.out) _ | refine Kept.setCell ?_ (.inr GW237.out) _) | exact HK.out)⟩, ⟨by repeat (first | (with_reducible first | exact HB.out | apply bA_ | apply pN_ | apply bD_ | refine bS_ ?_ GE236.out | refine bS_ ?_ GE237.out) | exact HB.out)⟩⟩
                ·rw [if_neg c38] at H
                 exact absurd H (by simp)
               ·rw [if_neg c37] at H
                exact absurd H (by simp)
              ·rw [if_neg c35] at H
               have c35b0 : decide (x7_10 < x10_3) = false := decide_eq_false c35
               clear c35
               (first | rw [c35b0] | (simp only [i64_w, i32_w]; rw [c35b0]) | skip)
               replace H := Option.bind_eq_some_iff.mp H
               obtain ⟨t243, A450, H⟩ := H
               have A45 := aS_ A450
               clear A450
               have H' := aS_ H
               clear H
               have hnb46 := NB236_237.out
               have hnc46 := NB237_236.out
               have hcz47_0 : wr.cell? ⟨gb236, 0, none⟩ = some (.slice Ao12 l0_0.length co12) := (blk_cell BK236.out 0).trans rfl
               have hcz47_1 : wr.cell? ⟨gb236, 1, none⟩ = some (.slice Ao13 l0_1.length co13) := (blk_cell BK236.out 1).trans rfl
               have hfz47_0 := blk_frozen BK236.out 0
               have hfz47_1 := blk_frozen BK236.out 1
               go_wp2_with (first | (go_at_call 53; (with_reducible refine (spec_reCount.calls k3 _ _ l0_0 x10_3 x32_2 t243 _ ?side1 ?side2 A45.out).mono ?_); (case side1 => repeat (first | exact (Kd.R_reads' HO_237000.out).2.2 | (with_reducible refine Kd.C_alloc ?_ _) | (with_reducible refine Kd.C_drewN ?_ _) | (with_reducible refine Kd.C_drew ?_))); (case side2 => exact (Kd.R_reads' HO_237000.out).2.1); rintro e w' ⟨rfl, ⟨nd, rfl⟩⟩))
               go_meet
               case rel => exact ⟨_, ((t243 != (rd l1 x32_2))), (by first | rfl | (simp; done) | (simp [*]; done)), H', ⟨by have := HJ10.out; have := HK2.out; have := HK3.out; first | omega | exact Nat.le_refl _⟩, ⟨by (with_reducible repeat (first | apply rA_ | apply rN_ | apply rD_)); exact HO_237000.out⟩, ⟨by (with_reducible repeat (first | apply rA_ | apply rN_ | apply rD_)); exact HO_237001.out⟩, ⟨by (with_reducible repeat (first | refine kN_ ?_ _ | refine kD_ ?_ | refine kA_ ?_ _)); exact BK236.out⟩, ⟨by (with_reducible repeat (first | refine kN_ ?_ _ | refine kD_ ?_ | refine kA_ ?_ _)); exact BK237.out⟩, ⟨by repeat (first | (with_reducible first | exact HK.out | apply Kept.alloc | apply Kept.drewN | apply Kept.drew | refine Kept.setCell ?_ (.inr GW236.out) _ | refine Kept.setCell ?_ (.inr GW237.out) _) | exact HK.out)⟩, ⟨by repeat (first | (with_reducible first | exact HB.out | apply bA_ | apply pN_ | apply bD_ | refine bS_ ?_ GE236.out | refine bS_ ?_ GE237.out) | exact HB.out)⟩⟩
             case rest =>
              clear HC34
              try clear c1
              try clear c2
              try clear p2
              try clear q2
              try clear hx2
              try clear c3
              try clear c3b0
              try clear c3b1
              try clear c3b2
              try clear c4
              try clear c5
              try clear p6
              try clear c8
              try clear c16
              try clear c18
              try clear c18b0
              try clear c18b1
              try clear c20
              try clear c20b0
              try clear c21
              try clear c21b0
              try clear c22
              try clear p23
              try clear q23
              try clear hx23
              try clear c24
              try clear c24b0
              try clear p24
              try clear q24
              try clear hx24
              try clear c25
              try clear c25b0
              try clear c26
              try clear c26b0
              try clear c28
              try clear c29
              try clear c31
              try clear c33
              try clear c33b0
              try clear c34
              try clear c35
              try clear c35b0
              try clear c37
              try clear c37b0
              try clear c38
              try clear c38b0
              try clear c39
              try clear c39b0
              try clear c40
              try clear c43
              try clear c46
              try clear hcz10_0
              try clear hcz10_1
              try clear hcz17_0
              try clear hcz17_1
              try clear hcz23_0
              try clear hcz23_1
              try clear hcz30_0
              try clear hcz30_1
              try clear hcz32_0
              try clear hcz32_1
              try clear hcz41_0
              try clear hcz41_1
              try clear hcz44_0
              try clear hcz44_1
              try clear hcz47_0
              try clear hcz47_1
              try clear hcz9_0
              try clear hcz9_1
              try clear hfz10_0
              try clear hfz10_1
              try clear hfz17_0
              try clear hfz17_1
              try clear hfz23_0
              try clear hfz23_1
              try clear hfz30_0
              try clear hfz30_1
              try clear hfz32_0
              try clear hfz32_1
              try clear hfz41_0
              try clear hfz41_1
              try clear hfz44_0
              try clear hfz44_1
              try clear hfz47_0
              try clear hfz47_1
              try clear hfz9_0
              try clear hfz9_1
              try clear hx238_0
              try clear hx239_0
              try clear hx241_0
              try clear p2
              try clear p23
              try clear p238
              try clear p239
              try clear p241
              try clear p6
              try clear q2
              try clear q23
              try clear q238
              try clear q239
              try clear q241
              obtain ⟨kq, x68_33, rfl, HA, HJ33, HO_237000, HO_237001, BK236, BK237, HK, HB⟩ := hcut
              cases kq with
              | zero => exact absurd HA.out (by simp [spec_reGoOn.j3])
              | succ kj33 =>
               have H := HA.out
               clear HA
               simp only [spec_reGoOn.j3] at H
               by_cases c48 : x68_33 = true
               ·subst c48
                rw [if_pos rfl] at H
                have H' := aS_ H
                clear H
                go_wp2
                go_roundg kj33
                case measure => have := HJ10.out; have := HK2.out; have := HK3.out; have := HJ33.out; omega
                case rel => exact ⟨(wrap64 (x10_3 + 1)), (by first | rfl | (simp; done) | (simp [*]; done)), H', ⟨by have := HJ10.out; have := HK2.out; have := HK3.out; have := HJ33.out; omega⟩, ⟨by (with_reducible repeat (first | apply rA_ | apply rN_ | apply rD_)); exact HO_237000.out⟩, ⟨by (with_reducible repeat (first | apply rA_ | apply rN_ | apply rD_)); exact HO_237001.out⟩, ⟨by (with_reducible repeat (first | refine kN_ ?_ _ | refine kD_ ?_ | refine kA_ ?_ _)); exact BK236.out⟩, ⟨by (with_reducible repeat (first | refine kN_ ?_ _ | refine kD_ ?_ | refine kA_ ?_ _)); exact BK237.out⟩, ⟨by repeat (first | (with_reducible first | exact HK.out | apply Kept.alloc | apply Kept.drewN | apply Kept.drew | refine Kept.setCell ?_ (.inr GW236.out) _ | refine Kept.setCell ?_ (.inr GW237.out) _) | exact HK.out)⟩, ⟨by repeat (first | (with_reducible first | exact HB.out | apply bA_ | apply pN_ | apply bD_ | refine bS_ ?_ GE236.out | refine bS_ ?_ GE237.out) | exact HB.out)⟩⟩
               ·replace c48 := Bool.eq_false_iff.mpr c48
                subst c48
                rw [if_neg (show ¬ (false = true) by decide)] at H
                replace H := Option.bind_eq_some_iff.mp H
                obtain ⟨t244, A490, H⟩ := H
                have A49 := aS_ A490
                clear A490
                obtain ⟨y247, hy247⟩ : ∃ y_ : List Int, y_ = (([x32_2] : List Int)) := ⟨_, rfl⟩
                replace H : (if t244.length + y247.length < 17592186044416 then ((spec_l1Own.f l0_1).bind fun t253 => ((some (([x10_3] : List Int) : List Int)).bind fun y256 => (if t253.length + y256.length < 17592186044416 then ((spec_reGoOn.f kj33 (t244 ++ y247) (t253 ++ y256) l1).bind fun bt263 => (if bt263.2.2 = true then (some (bt263.1, bt263.2.1, true)) else (spec_reGoOn.l1 kj33 l1 (l0_0.length : Int) x7_10 x32_2 (rd l1 x32_2) (wrap64 (x10_3 + 1)) l1 (l1.length : Int) x32_2 l0_0 l0_1))) else (none)))) else (none)) = some (r1, r2, r3) := by first | (rw [hy247]; with_reducible exact H) | (have H2_ := (Option.bind_some _ _).symm.trans H; rw [hy247]; with_reducible exact H2_) | (have H2_ := (Option.bind_some _ _).symm.trans H; with_reducible exact H2_) | with_reducible exact H | (rw [hy247]; exact H) | exact H
                have Ny247 := aS_ hy247
                clear hy247
                by_cases c50 : t244.length + y247.length < 17592186044416
                ·rw [if_pos c50] at H
                 have LMc50 := aS_ c50
                 clear c50
                 obtain ⟨y250, hy250⟩ : ∃ y_ : List Int, y_ = (t244 ++ y247) := ⟨_, rfl⟩
                 replace H : ((spec_l1Own.f l0_1).bind fun t253 => ((some (([x10_3] : List Int) : List Int)).bind fun y256 => (if t253.length + y256.length < 17592186044416 then ((spec_reGoOn.f kj33 y250 (t253 ++ y256) l1).bind fun bt263 => (if bt263.2.2 = true then (some (bt263.1, bt263.2.1, true)) else (spec_reGoOn.l1 kj33 l1 (l0_0.length : Int) x7_10 x32_2 (rd l1 x32_2) (wrap64 (x10_3 + 1)) l1 (l1.length : Int) x32_2 l0_0 l0_1))) else (none)))) = some (r1, r2, r3) := by first | (rw [hy250]; with_reducible exact H) | (have H2_ := (Option.bind_some _ _).symm.trans H; rw [hy250]; with_reducible exact H2_) | (have H2_ := (Option.bind_some _ _).symm.trans H; with_reducible exact H2_) | with_reducible exact H | (rw [hy250]; exact H) | exact H
                 have Ny250 := aS_ hy250
                 clear hy250
                 replace H := Option.bind_eq_some_iff.mp H
                 obtain ⟨t253, A510, H⟩ := H
                 have A51 := aS_ A510
                 clear A510
                 obtain ⟨y256, hy256⟩ : ∃ y_ : List Int, y_ = (([x10_3] : List Int)) := ⟨_, rfl⟩
                 replace H : (if t253.length + y256.length < 17592186044416 then ((spec_reGoOn.f kj33 y250 (t253 ++ y256) l1).bind fun bt263 => (if bt263.2.2 = true then (some (bt263.1, bt263.2.1, true)) else (spec_reGoOn.l1 kj33 l1 (l0_0.length : Int) x7_10 x32_2 (rd l1 x32_2) (wrap64 (x10_3 + 1)) l1 (l1.length : Int) x32_2 l0_0 l0_1))) else (none)) = some (r1, r2, r3) := by first | (rw [hy256]; with_reducible exact H) | (have H2_ := (Option.bind_some _ _).symm.trans H; rw [hy256]; with_reducible exact H2_) | (have H2_ := (Option.bind_some _ _).symm.trans H; with_reducible exact H2_) | with_reducible exact H | (rw [hy256]; exact H) | exact H
                 have Ny256 := aS_ hy256
                 clear hy256
                 by_cases c52 : t253.length + y256.length < 17592186044416
                 ·rw [if_pos c52] at H
                  have LMc52 := aS_ c52
                  clear c52
                  obtain ⟨y259, hy259⟩ : ∃ y_ : List Int, y_ = (t253 ++ y256) := ⟨_, rfl⟩
                  replace H : ((spec_reGoOn.f kj33 y250 y259 l1).bind fun bt263 => (if bt263.2.2 = true then (some (bt263.1, bt263.2.1, true)) else (spec_reGoOn.l1 kj33 l1 (l0_0.length : Int) x7_10 x32_2 (rd l1 x32_2) (wrap64 (x10_3 + 1)) l1 (l1.length : Int) x32_2 l0_0 l0_1))) = some (r1, r2, r3) := by first | (rw [hy259]; with_reducible exact H) | (have H2_ := (Option.bind_some _ _).symm.trans H; rw [hy259]; with_reducible exact H2_) | (have H2_ := (Option.bind_some _ _).symm.trans H; with_reducible exact H2_) | with_reducible exact H | (rw [hy259]; exact H) | exact H
                  have Ny259 := aS_ hy259
                  clear hy259
                  replace H := Option.bind_eq_some_iff.mp H
                  obtain ⟨⟨t263, t266, t269⟩, A530, H⟩ := H
                  have A53 := aS_ A530
                  clear A530
                  have Hc54 := aS_ H
                  clear H
                  try go_wp2
                  have n0_ := aS_ (rD_ HO_237000.out)
                  have n1_ := aS_ (rD_ HO_237001.out)
                  have n2_ := aS_ (kD_ BK236.out)
                  have n3_ := aS_ (kD_ BK237.out)
                  have n4_ := aS_ (Kept.drew HK.out)
                  have n5_ := aS_ (bD_ HB.out)
                  clear HO_237000 HO_237001 BK236 BK237 HK HB
                  have HO_237000 := n0_
                  have HO_237001 := n1_
                  have BK236 := n2_
                  have BK237 := n3_
                  have HK := n4_
                  have HB := n5_
                  clear n0_ n1_ n2_ n3_ n4_ n5_
                  refine start_ (n := 15) (S := fun w' => True) (ds := []) #[false, false, false, false, false, false, false, false, false, false, false, false, false, false, false] (by kernel_rfl) rfl rfl trivial (fun hHeld => ?_); refine with_tabW spec_reGoOn.tab15 spec_reGoOn.bits15 (fun HT_ HW_ => ?_)
                  generalize wc.drew = w55 at HO_237000 HO_237001 BK236 BK237 HK HB hHeld ⊢
                  refine pure_ (i := 0) (N := some 69) (v := ?_) (a' := ?_) #[true, false, false, false, false, false, false, false, false, false, false, false, false, false, false] rfl rfl (any_of HT_.out (by kernel_rfl)) (fun _ _ _ h => h) (Or.inl ⟨by rfl, ?_⟩) ?_ ?_
                  rotate_left
                  ·intro w'
                   go_simp
                   with_reducible rfl
                  rotate_left
                  ·simp only [Act.put, List.setIfInBounds_toArray, List.set_cons_zero, List.set_cons_succ, i64_w, i32_w]
                   rfl
                  refine pure_ (i := 3) (N := some 72) (v := ?_) (a' := ?_) #[true, false, false, true, false, false, false, false, false, false, false, false, false, false, false] rfl rfl (any_of HT_.out (by kernel_rfl)) (fun _ _ _ h => h) (Or.inl ⟨by rfl, ?_⟩) ?_ ?_
                  rotate_left
                  ·intro w'
                   go_simp
                   with_reducible rfl
                  rotate_left
                  ·simp only [Act.put, List.setIfInBounds_toArray, List.set_cons_zero, List.set_cons_succ, i64_w, i32_w]
                   rfl
                  refine pure_ (i := 6) (N := some 75) (v := ?_) (a' := ?_) #[true, false, false, true, false, false, true, false, false, false, false, false, false, false, false] rfl rfl (any_of HT_.out (by kernel_rfl)) (fun _ _ _ h => h) (Or.inl ⟨by rfl, ?_⟩) ?_ ?_
                  rotate_left
                  ·intro w'
                   go_simp
                   with_reducible rfl
                  rotate_left
                  ·simp only [Act.put, List.setIfInBounds_toArray, List.set_cons_zero, List.set_cons_succ, i64_w, i32_w]
                   rfl
                  refine pure_ (i := 9) (N := some 78) (v := ?_) (a' := ?_) #[true, false, false, true, false, false, true, false, false, true, false, false, false, false, false] rfl rfl (any_of HT_.out (by kernel_rfl)) (fun _ _ _ h => h) (Or.inl ⟨by rfl, ?_⟩) ?_ ?_
                  rotate_left
                  ·intro w'
                   go_simp
                   with_reducible rfl
                  rotate_left
                  ·simp only [Act.put, List.setIfInBounds_toArray, List.set_cons_zero, List.set_cons_succ, i64_w, i32_w]
                   rfl
                  refine inv_at [1, 2, 4, 5, 7, 8, 10, 11, 12, 13, 14] (fun a0_ b a w' => ∃ (v245 : Value) (v248 : Value) (v251 : Value) (v254 : Value) (v257 : Value) (v260 : Value) (gb262 : Nat) (m12_ : Value) (m13_ : Value), a = putSel a0_ b [(1, 70, .slice Ao12 l0_0.length co12), (2, 71, v245), (4, 73, v248), (5, 74, v251), (7, 76, .slice Ao13 l0_1.length co13), (8, 77, v254), (10, 79, v257), (11, 80, v260), (12, 81, m12_), (13, 11, m13_)] ∧ (Kd.R (Kd.int .i64) 3 w' w0.heap.size (fun k_ => ((P0_0_ k_ ∨ P0_1_ k_) ∨ w.heap.size ≤ k_) ∧ some k_ ≠ (.slice Ao13 l0_1.length co13 : Value).ownBlock) (.slice Ao12 l0_0.length co12) l0_0) ∧ (Kd.R (Kd.int .i64) 3 w' w0.heap.size (fun k_ => ((P0_0_ k_ ∨ P0_1_ k_) ∨ w.heap.size ≤ k_) ∧ some k_ ≠ (.slice Ao12 l0_0.length co12 : Value).ownBlock) (.slice Ao13 l0_1.length co13) l0_1) ∧ (w'.heap[gb236]? = some (.cells #[.slice Ao12 l0_0.length co12, .slice Ao13 l0_1.length co13] 24 (0, 0))) ∧ (w'.heap[gb237]? = some (.cells #[.slice none 0 0, .slice none 0 0] 24 (0, 0))) ∧ (Kept w w' (fun k_ => P0_0_ k_ ∨ P0_1_ k_)) ∧ (Below w0.heap.size w0 w') ∧ (b 2 = true → b 5 = false → Kd.R (Kd.int .i64) 3 w' w0.heap.size (fun k_ => ((P0_0_ k_ ∨ P0_1_ k_) ∨ w.heap.size ≤ k_) ∧ some k_ ≠ (.slice Ao12 l0_0.length co12 : Value).ownBlock ∧ some k_ ≠ (.slice Ao13 l0_1.length co13 : Value).ownBlock) v245 t244) ∧ (b 4 = true → Kd.R (Kd.int .i64) 3 w' w0.heap.size (fun k_ => ((P0_0_ k_ ∨ P0_1_ k_) ∨ w.heap.size ≤ k_) ∧ some k_ ≠ (.slice Ao12 l0_0.length co12 : Value).ownBlock ∧ some k_ ≠ (.slice Ao13 l0_1.length co13 : Value).ownBlock) v248 y247) ∧ (b 5 = true → Kd.R (Kd.int .i64) 3 w' w0.heap.size (fun k_ => ((P0_0_ k_ ∨ P0_1_ k_) ∨ w.heap.size ≤ k_) ∧ some k_ ≠ (.slice Ao12 l0_0.length co12 : Value).ownBlock ∧ some k_ ≠ (.slice Ao13 l0_1.length co13 : Value).ownBlock) v251 y250) ∧ (b 8 = true → b 11 = false → Kd.R (Kd.int .i64) 3 w' w0.heap.size (fun k_ => ((P0_0_ k_ ∨ P0_1_ k_) ∨ w.heap.size ≤ k_) ∧ some k_ ≠ (.slice Ao12 l0_0.length co12 : Value).ownBlock ∧ some k_ ≠ (.slice Ao13 l0_1.length co13 : Value).ownBlock) v254 t253) ∧ (b 10 = true → Kd.R (Kd.int .i64) 3 w' w0.heap.size (fun k_ => ((P0_0_ k_ ∨ P0_1_ k_) ∨ w.heap.size ≤ k_) ∧ some k_ ≠ (.slice Ao12 l0_0.length co12 : Value).ownBlock ∧ some k_ ≠ (.slice Ao13 l0_1.length co13 : Value).ownBlock) v257 y256) ∧ (b 11 = true → Kd.R (Kd.int .i64) 3 w' w0.heap.size (fun k_ => ((P0_0_ k_ ∨ P0_1_ k_) ∨ w.heap.size ≤ k_) ∧ some k_ ≠ (.slice Ao12 l0_0.length co12 : Value).ownBlock ∧ some k_ ≠ (.slice Ao13 l0_1.length co13 : Value).ownBlock) v260 y259) ∧ (b 13 = true → b 14 = false → w'.heap[gb262]? = some (.cells #[.slice none 0 0, .slice none 0 0] 24 (0, 0))) ∧ (b 13 = true → w.heap.size ≤ gb262) ∧ (b 13 = true → w0.heap.size ≤ gb262) ∧ (b 13 = true → gb236 ≠ gb262) ∧ (b 13 = true → gb262 ≠ gb236) ∧ (b 13 = true → gb237 ≠ gb262) ∧ (b 13 = true → gb262 ≠ gb237) ∧ (b 14 = true → w'.heap[gb262]? = some (.cells #[v251, v260] 24 (0, 0))) ∧ (b 12 = true → (m12_ : Value) = .agg #[v251, v260]) ∧ (b 13 = true → (m13_ : Value) = .pointer (some ⟨gb262, 0, none⟩)) ∧ (b 2 = true → b 5 = false → b 4 = true → ∀ k_ : Nat, (v245 : Value).ownBlock = some k_ → (v248 : Value).ownBlock = some k_ → False) ∧ (b 2 = true → b 5 = false → b 8 = true → b 11 = false → ∀ k_ : Nat, (v245 : Value).ownBlock = some k_ → (v254 : Value).ownBlock = some k_ → False) ∧ (b 2 = true → b 5 = false → b 10 = true → ∀ k_ : Nat, (v245 : Value).ownBlock = some k_ → (v257 : Value).ownBlock = some k_ → False) ∧ (b 2 = true → b 5 = false → b 11 = true → ∀ k_ : Nat, (v245 : Value).ownBlock = some k_ → (v260 : Value).ownBlock = some k_ → False) ∧ (b 4 = true → b 5 = true → ∀ k_ : Nat, (v248 : Value).ownBlock = some k_ → (v251 : Value).ownBlock = some k_ → False) ∧ (b 4 = true → b 8 = true → b 11 = false → ∀ k_ : Nat, (v248 : Value).ownBlock = some k_ → (v254 : Value).ownBlock = some k_ → False) ∧ (b 4 = true → b 10 = true → ∀ k_ : Nat, (v248 : Value).ownBlock = some k_ → (v257 : Value).ownBlock = some k_ → False) ∧ (b 4 = true → b 11 = true → ∀ k_ : Nat, (v248 : Value).ownBlock = some k_ → (v260 : Value).ownBlock = some k_ → False) ∧ (b 5 = true → b 8 = true → b 11 = false → ∀ k_ : Nat, (v251 : Value).ownBlock = some k_ → (v254 : Value).ownBlock = some k_ → False) ∧ (b 5 = true → b 10 = true → ∀ k_ : Nat, (v251 : Value).ownBlock = some k_ → (v257 : Value).ownBlock = some k_ → False) ∧ (b 5 = true → b 11 = true → ∀ k_ : Nat, (v251 : Value).ownBlock = some k_ → (v260 : Value).ownBlock = some k_ → False) ∧ (b 8 = true → b 11 = false → b 10 = true → ∀ k_ : Nat, (v254 : Value).ownBlock = some k_ → (v257 : Value).ownBlock = some k_ → False) ∧ (b 10 = true → b 11 = true → ∀ k_ : Nat, (v257 : Value).ownBlock = some k_ → (v260 : Value).ownBlock = some k_ → False)) HT_.out HW_.out (by kernel_rfl) (by kernel_rfl) ?_ ?_ ?_
                  ·exact ⟨.bool false, .bool false, .bool false, .bool false, .bool false, .bool false, 0, .bool false, .bool false, by simp only [putSel, Bool.false_eq_true, if_false], HO_237000.out, HO_237001.out, BK236.out, BK237.out, HK.out, HB.out, fun h_ => absurd h_ (by decide), fun h_ => absurd h_ (by decide), fun h_ => absurd h_ (by decide), fun h_ => absurd h_ (by decide), fun h_ => absurd h_ (by decide), fun h_ => absurd h_ (by decide), fun h_ => absurd h_ (by decide), fun h_ => absurd h_ (by decide), fun h_ => absurd h_ (by decide), fun h_ => absurd h_ (by decide), fun h_ => absurd h_ (by decide), fun h_ => absurd h_ (by decide), fun h_ => absurd h_ (by decide), fun h_ => absurd h_ (by decide), fun h_ => absurd h_ (by decide), fun h_ => absurd h_ (by decide), fun h_ => absurd h_ (by decide), fun h_ => absurd h_ (by decide), fun h_ => absurd h_ (by decide), fun h_ => absurd h_ (by decide), fun h_ => absurd h_ (by decide), fun h_ => absurd h_ (by decide), fun h_ => absurd h_ (by decide), fun h_ => absurd h_ (by decide), fun h_ => absurd h_ (by decide), fun h_ => absurd h_ (by decide), fun h_ => absurd h_ (by decide), fun h_ => absurd h_ (by decide), fun h_ => absurd h_ (by decide)⟩
                  ·skip
                   clear BK236 BK237 HB HK HO_237000 HO_237001
                   refine steps_cons ?_ ?_
                   ·rintro b a w' ⟨v245, v248, v251, v254, v257, v260, gb262, m12_, m13_, ha, Q_HO_237000, Q_HO_237001, Q_BK236, Q_BK237, Q_HK, Q_HB, Q_HO246, Q_HO249, Q_HO252, Q_HO255, Q_HO258, Q_HO261, Q_BK262, Q_GW262, Q_GE262, Q_NB236_262, Q_NB262_236, Q_NB237_262, Q_NB262_237, Q_BK262_e14, Q_X12_, Q_X13_, Q_D_HO246_HO249, Q_D_HO246_HO255, Q_D_HO246_HO258, Q_D_HO246_HO261, Q_D_HO249_HO252, Q_D_HO249_HO255, Q_D_HO249_HO258, Q_D_HO249_HO261, Q_D_HO252_HO255, Q_D_HO252_HO258, Q_D_HO252_HO261, Q_D_HO255_HO258, Q_D_HO258_HO261⟩ hb_ hon hoff
                    refine ⟨_, rfl, fun K hK => ?_⟩
                    have e69 : a.tmps[69]? = some (.pointer (some ⟨gb236, 0, none⟩)) := by rw [ha]; exact (putSel_off rfl).trans rfl
                    replace ha := aS_ ha
                    have HO_237000 := aS_ Q_HO_237000
                    have HO_237001 := aS_ Q_HO_237001
                    have BK236 := aS_ Q_BK236
                    have BK237 := aS_ Q_BK237
                    have HK := aS_ Q_HK
                    have HB := aS_ Q_HB
                    have hc0_ : w'.cell? ⟨gb236, 0, none⟩ = some (.slice Ao12 l0_0.length co12) := (blk_cell BK236.out 0).trans rfl
                    have hc1_ : w'.cell? ⟨gb236, 1, none⟩ = some (.slice Ao13 l0_1.length co13) := (blk_cell BK236.out 1).trans rfl
                    refine value_ (w1 := w') (v := .slice Ao12 l0_0.length co12) (by rfl) rfl ?_ ?_
                    ·go_simp
                     (try simp only [i64_w])
                     try rfl
                    refine hK.out _ _ ⟨v245, v248, v251, v254, v257, v260, gb262, m12_, m13_, (by rw [ha.out]; exact putSel_upk 0 hb_ rfl rfl rfl), Q_HO_237000, Q_HO_237001, Q_BK236, Q_BK237, Q_HK, Q_HB, fun h0_ _ => absurd ((hoff 2 (by kernel_rfl)).symm.trans h0_) (by decide), Q_HO249, fun h0_ => absurd ((hoff 5 (by kernel_rfl)).symm.trans h0_) (by decide), fun h0_ _ => absurd ((hoff 8 (by kernel_rfl)).symm.trans h0_) (by decide), Q_HO258, fun h0_ => absurd ((hoff 11 (by kernel_rfl)).symm.trans h0_) (by decide), Q_BK262, Q_GW262, Q_GE262, Q_NB236_262, Q_NB262_236, Q_NB237_262, Q_NB262_237, fun h0_ => absurd ((hoff 14 (by kernel_rfl)).symm.trans h0_) (by decide), fun h0_ => absurd ((hoff 12 (by kernel_rfl)).symm.trans h0_) (by decide), Q_X13_, Q_D_HO246_HO249, Q_D_HO246_HO255, Q_D_HO246_HO258, Q_D_HO246_HO261, Q_D_HO249_HO252, Q_D_HO249_HO255, Q_D_HO249_HO258, Q_D_HO249_HO261, Q_D_HO252_HO255, Q_D_HO252_HO258, Q_D_HO252_HO261, Q_D_HO255_HO258, Q_D_HO258_HO261⟩
                   refine steps_cons ?_ ?_
                   ·rintro b a w' ⟨v245, v248, v251, v254, v257, v260, gb262, m12_, m13_, ha, Q_HO_237000, Q_HO_237001, Q_BK236, Q_BK237, Q_HK, Q_HB, Q_HO246, Q_HO249, Q_HO252, Q_HO255, Q_HO258, Q_HO261, Q_BK262, Q_GW262, Q_GE262, Q_NB236_262, Q_NB262_236, Q_NB237_262, Q_NB262_237, Q_BK262_e14, Q_X12_, Q_X13_, Q_D_HO246_HO249, Q_D_HO246_HO255, Q_D_HO246_HO258, Q_D_HO246_HO261, Q_D_HO249_HO252, Q_D_HO249_HO255, Q_D_HO249_HO258, Q_D_HO249_HO261, Q_D_HO252_HO255, Q_D_HO252_HO258, Q_D_HO252_HO261, Q_D_HO255_HO258, Q_D_HO258_HO261⟩ hb_ hon hoff
                    refine ⟨_, rfl, fun K hK => ?_⟩
                    have e70 : a.tmps[70]? = some (.slice Ao12 l0_0.length co12) := by rw [ha]; exact putSel_on (e := (1, 70, .slice Ao12 l0_0.length co12)) 0 rfl rfl (hon 1 (by kernel_rfl)) rfl
                    replace ha := aS_ ha
                    have HO_237000 := aS_ Q_HO_237000
                    have HO_237001 := aS_ Q_HO_237001
                    have BK236 := aS_ Q_BK236
                    have BK237 := aS_ Q_BK237
                    have HK := aS_ Q_HK
                    have HB := aS_ Q_HB
                    refine goes_ Try.func54 (by kernel_rfl) rfl #[.slice Ao12 l0_0.length co12] (by rfl) rfl rfl (by first | (simp only [List.map_toArray, List.map_cons, List.map_nil, Act.eval, Array.getD_eq_getD_getElem?, Option.getD_some, e70]; done) | (simp only [List.map_toArray, List.map_cons, List.map_nil, Act.eval, Array.getD_eq_getD_getElem?, Option.getD_some, e70]; rfl)) ?_
                    with_reducible refine (spec_l1Own.calls _ _ l0_0 t244 _ ?side1 ?side2 A49.out).mono ?_
                    (case side1 => repeat (first | exact (Kd.R_reads' HO_237000.out).2.2 | (with_reducible refine Kd.C_alloc ?_ _) | (with_reducible refine Kd.C_drewN ?_ _) | (with_reducible refine Kd.C_drew ?_)))
                    (case side2 => exact (Kd.R_reads' HO_237000.out).2.1)
                    rintro e w56 ⟨v245, rfl, ho0, hb⟩
                    have DN_HO249 := fun (h0_ : b 4 = true) (k_ : Nat) (e1_ : (v245 : Value).ownBlock = some k_) (e2_ : (v248 : Value).ownBlock = some k_) => (show False from Kd.fresh' (Kd.R_lt (Q_HO249 h0_)) k_ (Kd.R_base ho0 k_ e1_) e2_.symm)
                    have DN_HO255 := fun (h0_ : b 8 = true) (h1_ : b 11 = false) (k_ : Nat) (e1_ : (v245 : Value).ownBlock = some k_) (e2_ : (v254 : Value).ownBlock = some k_) => (show False from Kd.fresh' (Kd.R_lt (Q_HO255 h0_ h1_)) k_ (Kd.R_base ho0 k_ e1_) e2_.symm)
                    have DN_HO258 := fun (h0_ : b 10 = true) (k_ : Nat) (e1_ : (v245 : Value).ownBlock = some k_) (e2_ : (v257 : Value).ownBlock = some k_) => (show False from Kd.fresh' (Kd.R_lt (Q_HO258 h0_)) k_ (Kd.R_base ho0 k_ e1_) e2_.symm)
                    have DN_HO261 := fun (h0_ : b 11 = true) (k_ : Nat) (e1_ : (v245 : Value).ownBlock = some k_) (e2_ : (v260 : Value).ownBlock = some k_) => (show False from Kd.fresh' (Kd.R_lt (Q_HO261 h0_)) k_ (Kd.R_base ho0 k_ e1_) e2_.symm)
                    refine ⟨_, rfl, ?_⟩
                    have n0_ := aS_ (Kd.R_elder' (by (with_reducible repeat (first | apply rA_ | apply rN_ | apply rD_)); exact HO_237000.out) (Kd.R_base ho0) hb)
                    have n1_ := aS_ (Kd.R_elder' (by (with_reducible repeat (first | apply rA_ | apply rN_ | apply rD_)); exact HO_237001.out) (Kd.R_base ho0) hb)
                    have n2_ := aS_ (Kd.R_lower (Kd.R_new' (Kd.R_new' (Kd.R_newM (M := fun k_ => ((P0_0_ k_ ∨ P0_1_ k_) ∨ w.heap.size ≤ k_)) ho0 (by first | exact HK.out.1 | exact (show Kept w _ (fun k_ => P0_0_ k_ ∨ P0_1_ k_) from by repeat (first | (with_reducible first | exact HK.out | apply Kept.alloc | apply Kept.drewN | apply Kept.drew | refine Kept.setCell ?_ (.inr GW236.out) _ | refine Kept.setCell ?_ (.inr GW237.out) _) | exact HK.out)).1) (fun k_ h_ => .inr h_)) (Kd.R_lt (by (with_reducible repeat (first | apply rA_ | apply rN_ | apply rD_)); exact HO_237000.out))) (Kd.R_lt (by (with_reducible repeat (first | apply rA_ | apply rN_ | apply rD_)); exact HO_237001.out))) (below_size (by repeat (first | (with_reducible first | exact HB.out | apply bA_ | apply pN_ | apply bD_ | refine bS_ ?_ GE236.out | refine bS_ ?_ GE237.out) | exact HB.out))))
                    have n3_ := aS_ (blk_below (g := gb236) (o := .cells #[.slice Ao12 l0_0.length co12, .slice Ao13 l0_1.length co13] 24 (0, 0)) (by (with_reducible repeat (first | refine kN_ ?_ _ | refine kD_ ?_ | refine kA_ ?_ _)); exact BK236.out) hb)
                    have n4_ := aS_ (blk_below (g := gb237) (o := .cells #[.slice none 0 0, .slice none 0 0] 24 (0, 0)) (by (with_reducible repeat (first | refine kN_ ?_ _ | refine kD_ ?_ | refine kA_ ?_ _)); exact BK237.out) hb)
                    have n5_ := aS_ (Kept.below (S := (fun k_ => P0_0_ k_ ∨ P0_1_ k_)) (by repeat (first | (with_reducible first | exact HK.out | apply Kept.alloc | apply Kept.drewN | apply Kept.drew | refine Kept.setCell ?_ (.inr GW236.out) _ | refine Kept.setCell ?_ (.inr GW237.out) _) | exact HK.out)) hb)
                    have n6_ := aS_ (below_step (by repeat (first | (with_reducible first | exact HB.out | apply bA_ | apply pN_ | apply bD_ | refine bS_ ?_ GE236.out | refine bS_ ?_ GE237.out) | exact HB.out)) hb)
                    have z_HO249 := fun (h0_ : b 4 = true) => (show Kd.R (Kd.int .i64) 3 w56 w0.heap.size (fun k_ => ((P0_0_ k_ ∨ P0_1_ k_) ∨ w.heap.size ≤ k_) ∧ some k_ ≠ (.slice Ao12 l0_0.length co12 : Value).ownBlock ∧ some k_ ≠ (.slice Ao13 l0_1.length co13 : Value).ownBlock) v248 y247 from by first | exact (Kd.R_elder' (by (with_reducible repeat (first | apply rA_ | apply rN_ | apply rD_)); exact (Q_HO249 h0_)) (Kd.R_base ho0) hb) | exact Kd.R_mono (Kd.R_elder' (by (with_reducible repeat (first | apply rA_ | apply rN_ | apply rD_)); exact (Q_HO249 h0_)) (Kd.R_base ho0) hb) (fun _ hk => by first | trivial | exact hk | exact hk.1 | (simp only [hk, ne_eq, not_false_eq_true, and_self])))
                    have z_HO258 := fun (h0_ : b 10 = true) => (show Kd.R (Kd.int .i64) 3 w56 w0.heap.size (fun k_ => ((P0_0_ k_ ∨ P0_1_ k_) ∨ w.heap.size ≤ k_) ∧ some k_ ≠ (.slice Ao12 l0_0.length co12 : Value).ownBlock ∧ some k_ ≠ (.slice Ao13 l0_1.length co13 : Value).ownBlock) v257 y256 from by first | exact (Kd.R_elder' (by (with_reducible repeat (first | apply rA_ | apply rN_ | apply rD_)); exact (Q_HO258 h0_)) (Kd.R_base ho0) hb) | exact Kd.R_mono (Kd.R_elder' (by (with_reducible repeat (first | apply rA_ | apply rN_ | apply rD_)); exact (Q_HO258 h0_)) (Kd.R_base ho0) hb) (fun _ hk => by first | trivial | exact hk | exact hk.1 | (simp only [hk, ne_eq, not_false_eq_true, and_self])))
                    have z_BK262 := fun (h0_ : b 13 = true) (h1_ : b 14 = false) => (show w56.heap[gb262]? = some (.cells #[.slice none 0 0, .slice none 0 0] 24 (0, 0)) from by first | exact (blk_below (g := gb262) (o := .cells #[.slice none 0 0, .slice none 0 0] 24 (0, 0)) (by (with_reducible repeat (first | refine kN_ ?_ _ | refine kD_ ?_ | refine kA_ ?_ _)); exact (Q_BK262 h0_ h1_)) hb))
                    clear HO_237000 HO_237001 BK236 BK237 HK HB
                    have HO_237000 := n0_
                    have HO_237001 := n1_
                    have HO246 := n2_
                    have BK236 := n3_
                    have BK237 := n4_
                    have HK := n5_
                    have HB := n6_
                    clear n0_ n1_ n2_ n3_ n4_ n5_ n6_
                    (try clear hb)
                    (try clear hb2)
                    (try clear hk)
                    (try clear hi)
                    (try clear ho0)
                    refine hK.out _ _ ⟨v245, v248, v251, v254, v257, v260, gb262, m12_, m13_, (by rw [ha.out]; exact putSel_upk 1 hb_ rfl rfl rfl), (by (with_reducible repeat (first | apply rA_ | apply rN_ | apply rD_)); exact Kd.R_mono HO_237000.out (fun _ hk => by first | exact ⟨hk.1.1, ⟨hk.2, hk.1.2⟩⟩ | (simp only [hk, ne_eq, not_false_eq_true, and_self]))), (by (with_reducible repeat (first | apply rA_ | apply rN_ | apply rD_)); exact Kd.R_mono HO_237001.out (fun _ hk => by first | exact ⟨hk.1.1, ⟨hk.2, hk.1.2⟩⟩ | (simp only [hk, ne_eq, not_false_eq_true, and_self]))), (by (with_reducible repeat (first | refine kN_ ?_ _ | refine kD_ ?_ | refine kA_ ?_ _)); exact BK236.out), (by (with_reducible repeat (first | refine kN_ ?_ _ | refine kD_ ?_ | refine kA_ ?_ _)); exact BK237.out), (by repeat (first | (with_reducible first | exact HK.out | apply Kept.alloc | apply Kept.drewN | apply Kept.drew | refine Kept.setCell ?_ (.inr GW236.out) _ | refine Kept.setCell ?_ (.inr GW237.out) _) | exact HK.out)), (by repeat (first | (with_reducible first | exact HB.out | apply bA_ | apply pN_ | apply bD_ | refine bS_ ?_ GE236.out | refine bS_ ?_ GE237.out) | exact HB.out)), fun _ _ => (by (with_reducible repeat (first | apply rA_ | apply rN_ | apply rD_)); exact Kd.R_mono HO246.out (fun _ hk => by first | exact ⟨hk.1.1.1, ⟨hk.1.2, hk.2⟩⟩ | (simp only [hk, ne_eq, not_false_eq_true, and_self]))), z_HO249, fun h0_ => absurd ((hoff 5 (by kernel_rfl)).symm.trans h0_) (by decide), fun h0_ _ => absurd ((hoff 8 (by kernel_rfl)).symm.trans h0_) (by decide), z_HO258, fun h0_ => absurd ((hoff 11 (by kernel_rfl)).symm.trans h0_) (by decide), z_BK262, Q_GW262, Q_GE262, Q_NB236_262, Q_NB262_236, Q_NB237_262, Q_NB262_237, fun h0_ => absurd ((hoff 14 (by kernel_rfl)).symm.trans h0_) (by decide), fun h0_ => absurd ((hoff 12 (by kernel_rfl)).symm.trans h0_) (by decide), Q_X13_, fun h0_ h1_ h2_ k_ e1_ e2_ => DN_HO249 h2_ k_ e1_ e2_, fun h0_ h1_ h2_ h3_ k_ e1_ e2_ => DN_HO255 h2_ h3_ k_ e1_ e2_, fun h0_ h1_ h2_ k_ e1_ e2_ => DN_HO258 h2_ k_ e1_ e2_, fun h0_ h1_ h2_ k_ e1_ e2_ => DN_HO261 h2_ k_ e1_ e2_, Q_D_HO249_HO252, Q_D_HO249_HO255, Q_D_HO249_HO258, Q_D_HO249_HO261, Q_D_HO252_HO255, Q_D_HO252_HO258, Q_D_HO252_HO261, Q_D_HO255_HO258, Q_D_HO258_HO261⟩
                   refine steps_cons ?_ ?_
                   ·rintro b a w' ⟨v245, v248, v251, v254, v257, v260, gb262, m12_, m13_, ha, Q_HO_237000, Q_HO_237001, Q_BK236, Q_BK237, Q_HK, Q_HB, Q_HO246, Q_HO249, Q_HO252, Q_HO255, Q_HO258, Q_HO261, Q_BK262, Q_GW262, Q_GE262, Q_NB236_262, Q_NB262_236, Q_NB237_262, Q_NB262_237, Q_BK262_e14, Q_X12_, Q_X13_, Q_D_HO246_HO249, Q_D_HO246_HO255, Q_D_HO246_HO258, Q_D_HO246_HO261, Q_D_HO249_HO252, Q_D_HO249_HO255, Q_D_HO249_HO258, Q_D_HO249_HO261, Q_D_HO252_HO255, Q_D_HO252_HO258, Q_D_HO252_HO261, Q_D_HO255_HO258, Q_D_HO258_HO261⟩ hb_ hon hoff
                    refine ⟨_, rfl, fun K hK => ?_⟩
                    have e72 : a.tmps[72]? = some (.int .i64 x32_2) := by rw [ha]; exact (putSel_off rfl).trans rfl
                    replace ha := aS_ ha
                    have HO_237000 := aS_ Q_HO_237000
                    have HO_237001 := aS_ Q_HO_237001
                    have BK236 := aS_ Q_BK236
                    have BK237 := aS_ Q_BK237
                    have HK := aS_ Q_HK
                    have HB := aS_ Q_HB
                    refine Kd.R_lit_step (Kd.int .i64) _ 3 ?hg (N := 73) ?hd (xs := ([x32_2] : List Int)) (inner := [.int .i64 x32_2]) (ok := fun _ => True) (okp := fun _ => True) ?hr ?hp (fun _ hk => hk) trivial (Below.refl _ _) (Nat.le_refl _) (by simp) ?_; (case hd => rfl); (case hg => rfl); (case hr => first | (go_simp; done) | (go_simp; rfl)); (case hp => exact (Reps.one (show Kd.M (Kd.int .i64) _ _ _ x32_2 [.int .i64 x32_2] from rfl) (Reps.none _ _)))
                    intro v248 w56 ho57 hb hg_ hnew_
                    have DN_HO246 := fun (h0_ : b 2 = true) (h1_ : b 5 = false) (k_ : Nat) (e1_ : (v248 : Value).ownBlock = some k_) (e2_ : (v245 : Value).ownBlock = some k_) => (show False from Kd.fresh' (Kd.R_lt (Q_HO246 h0_ h1_)) k_ (Kd.R_base ho57 k_ e1_) e2_.symm)
                    have DN_HO252 := fun (h0_ : b 5 = true) (k_ : Nat) (e1_ : (v248 : Value).ownBlock = some k_) (e2_ : (v251 : Value).ownBlock = some k_) => (show False from Kd.fresh' (Kd.R_lt (Q_HO252 h0_)) k_ (Kd.R_base ho57 k_ e1_) e2_.symm)
                    have DN_HO255 := fun (h0_ : b 8 = true) (h1_ : b 11 = false) (k_ : Nat) (e1_ : (v248 : Value).ownBlock = some k_) (e2_ : (v254 : Value).ownBlock = some k_) => (show False from Kd.fresh' (Kd.R_lt (Q_HO255 h0_ h1_)) k_ (Kd.R_base ho57 k_ e1_) e2_.symm)
                    have DN_HO258 := fun (h0_ : b 10 = true) (k_ : Nat) (e1_ : (v248 : Value).ownBlock = some k_) (e2_ : (v257 : Value).ownBlock = some k_) => (show False from Kd.fresh' (Kd.R_lt (Q_HO258 h0_)) k_ (Kd.R_base ho57 k_ e1_) e2_.symm)
                    have DN_HO261 := fun (h0_ : b 11 = true) (k_ : Nat) (e1_ : (v248 : Value).ownBlock = some k_) (e2_ : (v260 : Value).ownBlock = some k_) => (show False from Kd.fresh' (Kd.R_lt (Q_HO261 h0_)) k_ (Kd.R_base ho57 k_ e1_) e2_.symm)
                    clear hg_ hnew_
                    (first | rw [← Ny247.out] at ho57 | (simp only [Int.reduceToNat] at ho57; rw [← Ny247.out] at ho57))
                    have n0_ := aS_ (Kd.R_elder' (by (with_reducible repeat (first | apply rA_ | apply rN_ | apply rD_)); exact HO_237000.out) (Kd.R_base ho57) hb)
                    have n1_ := aS_ (Kd.R_elder' (by (with_reducible repeat (first | apply rA_ | apply rN_ | apply rD_)); exact HO_237001.out) (Kd.R_base ho57) hb)
                    have n2_ := aS_ (Kd.R_lower (Kd.R_new' (Kd.R_new' (Kd.R_newM (M := fun k_ => ((P0_0_ k_ ∨ P0_1_ k_) ∨ w.heap.size ≤ k_)) ho57 (by first | exact HK.out.1 | exact (show Kept w _ (fun k_ => P0_0_ k_ ∨ P0_1_ k_) from by repeat (first | (with_reducible first | exact HK.out | apply Kept.alloc | apply Kept.drewN | apply Kept.drew | refine Kept.setCell ?_ (.inr GW236.out) _ | refine Kept.setCell ?_ (.inr GW237.out) _) | exact HK.out)).1) (fun k_ h_ => .inr h_)) (Kd.R_lt (by (with_reducible repeat (first | apply rA_ | apply rN_ | apply rD_)); exact HO_237000.out))) (Kd.R_lt (by (with_reducible repeat (first | apply rA_ | apply rN_ | apply rD_)); exact HO_237001.out))) (below_size (by repeat (first | (with_reducible first | exact HB.out | apply bA_ | apply pN_ | apply bD_ | refine bS_ ?_ GE236.out | refine bS_ ?_ GE237.out) | exact HB.out))))
                    have n3_ := aS_ (blk_below (g := gb236) (o := .cells #[.slice Ao12 l0_0.length co12, .slice Ao13 l0_1.length co13] 24 (0, 0)) (by (with_reducible repeat (first | refine kN_ ?_ _ | refine kD_ ?_ | refine kA_ ?_ _)); exact BK236.out) hb)
                    have n4_ := aS_ (blk_below (g := gb237) (o := .cells #[.slice none 0 0, .slice none 0 0] 24 (0, 0)) (by (with_reducible repeat (first | refine kN_ ?_ _ | refine kD_ ?_ | refine kA_ ?_ _)); exact BK237.out) hb)
                    have n5_ := aS_ (Kept.below (S := (fun k_ => P0_0_ k_ ∨ P0_1_ k_)) (by repeat (first | (with_reducible first | exact HK.out | apply Kept.alloc | apply Kept.drewN | apply Kept.drew | refine Kept.setCell ?_ (.inr GW236.out) _ | refine Kept.setCell ?_ (.inr GW237.out) _) | exact HK.out)) hb)
                    have n6_ := aS_ (below_step (by repeat (first | (with_reducible first | exact HB.out | apply bA_ | apply pN_ | apply bD_ | refine bS_ ?_ GE236.out | refine bS_ ?_ GE237.out) | exact HB.out)) hb)
                    have z_HO246 := fun (h0_ : b 2 = true) (h1_ : b 5 = false) => (show Kd.R (Kd.int .i64) 3 w56 w0.heap.size (fun k_ => ((P0_0_ k_ ∨ P0_1_ k_) ∨ w.heap.size ≤ k_) ∧ some k_ ≠ (.slice Ao12 l0_0.length co12 : Value).ownBlock ∧ some k_ ≠ (.slice Ao13 l0_1.length co13 : Value).ownBlock) v245 t244 from by first | exact (Kd.R_elder' (by (with_reducible repeat (first | apply rA_ | apply rN_ | apply rD_)); exact (Q_HO246 h0_ h1_)) (Kd.R_base ho57) hb) | exact Kd.R_mono (Kd.R_elder' (by (with_reducible repeat (first | apply rA_ | apply rN_ | apply rD_)); exact (Q_HO246 h0_ h1_)) (Kd.R_base ho57) hb) (fun _ hk => by first | trivial | exact hk | exact hk.1 | (simp only [hk, ne_eq, not_false_eq_true, and_self])))
                    have z_HO258 := fun (h0_ : b 10 = true) => (show Kd.R (Kd.int .i64) 3 w56 w0.heap.size (fun k_ => ((P0_0_ k_ ∨ P0_1_ k_) ∨ w.heap.size ≤ k_) ∧ some k_ ≠ (.slice Ao12 l0_0.length co12 : Value).ownBlock ∧ some k_ ≠ (.slice Ao13 l0_1.length co13 : Value).ownBlock) v257 y256 from by first | exact (Kd.R_elder' (by (with_reducible repeat (first | apply rA_ | apply rN_ | apply rD_)); exact (Q_HO258 h0_)) (Kd.R_base ho57) hb) | exact Kd.R_mono (Kd.R_elder' (by (with_reducible repeat (first | apply rA_ | apply rN_ | apply rD_)); exact (Q_HO258 h0_)) (Kd.R_base ho57) hb) (fun _ hk => by first | trivial | exact hk | exact hk.1 | (simp only [hk, ne_eq, not_false_eq_true, and_self])))
                    have z_BK262 := fun (h0_ : b 13 = true) (h1_ : b 14 = false) => (show w56.heap[gb262]? = some (.cells #[.slice none 0 0, .slice none 0 0] 24 (0, 0)) from by first | exact (blk_below (g := gb262) (o := .cells #[.slice none 0 0, .slice none 0 0] 24 (0, 0)) (by (with_reducible repeat (first | refine kN_ ?_ _ | refine kD_ ?_ | refine kA_ ?_ _)); exact (Q_BK262 h0_ h1_)) hb))
                    clear HO_237000 HO_237001 BK236 BK237 HK HB
                    have HO_237000 := n0_
                    have HO_237001 := n1_
                    have HO249 := n2_
                    have BK236 := n3_
                    have BK237 := n4_
                    have HK := n5_
                    have HB := n6_
                    clear n0_ n1_ n2_ n3_ n4_ n5_ n6_
                    clear hb ho57
                    refine hK.out _ _ ⟨v245, v248, v251, v254, v257, v260, gb262, m12_, m13_, (by rw [ha.out]; exact putSel_upk 2 hb_ rfl rfl rfl), (by (with_reducible repeat (first | apply rA_ | apply rN_ | apply rD_)); exact Kd.R_mono HO_237000.out (fun _ hk => by first | exact ⟨hk.1.1, ⟨hk.2, hk.1.2⟩⟩ | (simp only [hk, ne_eq, not_false_eq_true, and_self]))), (by (with_reducible repeat (first | apply rA_ | apply rN_ | apply rD_)); exact Kd.R_mono HO_237001.out (fun _ hk => by first | exact ⟨hk.1.1, ⟨hk.2, hk.1.2⟩⟩ | (simp only [hk, ne_eq, not_false_eq_true, and_self]))), (by (with_reducible repeat (first | refine kN_ ?_ _ | refine kD_ ?_ | refine kA_ ?_ _)); exact BK236.out), (by (with_reducible repeat (first | refine kN_ ?_ _ | refine kD_ ?_ | refine kA_ ?_ _)); exact BK237.out), (by repeat (first | (with_reducible first | exact HK.out | apply Kept.alloc | apply Kept.drewN | apply Kept.drew | refine Kept.setCell ?_ (.inr GW236.out) _ | refine Kept.setCell ?_ (.inr GW237.out) _) | exact HK.out)), (by repeat (first | (with_reducible first | exact HB.out | apply bA_ | apply pN_ | apply bD_ | refine bS_ ?_ GE236.out | refine bS_ ?_ GE237.out) | exact HB.out)), z_HO246, fun _ => (by (with_reducible repeat (first | apply rA_ | apply rN_ | apply rD_)); exact Kd.R_mono HO249.out (fun _ hk => by first | exact ⟨hk.1.1.1, ⟨hk.1.2, hk.2⟩⟩ | (simp only [hk, ne_eq, not_false_eq_true, and_self]))), fun h0_ => absurd ((hoff 5 (by kernel_rfl)).symm.trans h0_) (by decide), fun h0_ _ => absurd ((hoff 8 (by kernel_rfl)).symm.trans h0_) (by decide), z_HO258, fun h0_ => absurd ((hoff 11 (by kernel_rfl)).symm.trans h0_) (by decide), z_BK262, Q_GW262, Q_GE262, Q_NB236_262, Q_NB262_236, Q_NB237_262, Q_NB262_237, fun h0_ => absurd ((hoff 14 (by kernel_rfl)).symm.trans h0_) (by decide), fun h0_ => absurd ((hoff 12 (by kernel_rfl)).symm.trans h0_) (by decide), Q_X13_, fun h0_ h1_ h2_ k_ e1_ e2_ => DN_HO246 h0_ h1_ k_ e2_ e1_, Q_D_HO246_HO255, Q_D_HO246_HO258, Q_D_HO246_HO261, fun h0_ h1_ k_ e1_ e2_ => DN_HO252 h1_ k_ e1_ e2_, fun h0_ h1_ h2_ k_ e1_ e2_ => DN_HO255 h1_ h2_ k_ e1_ e2_, fun h0_ h1_ k_ e1_ e2_ => DN_HO258 h1_ k_ e1_ e2_, fun h0_ h1_ k_ e1_ e2_ => DN_HO261 h1_ k_ e1_ e2_, Q_D_HO252_HO255, Q_D_HO252_HO258, Q_D_HO252_HO261, Q_D_HO255_HO258, Q_D_HO258_HO261⟩
                   refine steps_cons ?_ ?_
                   ·rintro b a w' ⟨v245, v248, v251, v254, v257, v260, gb262, m12_, m13_, ha, Q_HO_237000, Q_HO_237001, Q_BK236, Q_BK237, Q_HK, Q_HB, Q_HO246, Q_HO249, Q_HO252, Q_HO255, Q_HO258, Q_HO261, Q_BK262, Q_GW262, Q_GE262, Q_NB236_262, Q_NB262_236, Q_NB237_262, Q_NB262_237, Q_BK262_e14, Q_X12_, Q_X13_, Q_D_HO246_HO249, Q_D_HO246_HO255, Q_D_HO246_HO258, Q_D_HO246_HO261, Q_D_HO249_HO252, Q_D_HO249_HO255, Q_D_HO249_HO258, Q_D_HO249_HO261, Q_D_HO252_HO255, Q_D_HO252_HO258, Q_D_HO252_HO261, Q_D_HO255_HO258, Q_D_HO258_HO261⟩ hb_ hon hoff
                    refine ⟨_, rfl, fun K hK => ?_⟩
                    have e71 : a.tmps[71]? = some (v245) := by rw [ha]; exact putSel_on (e := (2, 71, v245)) 1 rfl rfl (hon 2 (by kernel_rfl)) rfl
                    have e73 : a.tmps[73]? = some (v248) := by rw [ha]; exact putSel_on (e := (4, 73, v248)) 2 rfl rfl (hon 4 (by kernel_rfl)) rfl
                    replace ha := aS_ ha
                    have HO_237000 := aS_ Q_HO_237000
                    have HO_237001 := aS_ Q_HO_237001
                    have BK236 := aS_ Q_BK236
                    have BK237 := aS_ Q_BK237
                    have HK := aS_ Q_HK
                    have HB := aS_ Q_HB
                    have HO246 := aS_ (Q_HO246 (hon 2 (by kernel_rfl)) hb_)
                    have HO249 := aS_ (Q_HO249 (hon 4 (by kernel_rfl)))
                    have R_HO_237000 := aS_ (Kd.R_reok rfl (ok := (fun k_ => ((P0_0_ k_ ∨ P0_1_ k_) ∨ w.heap.size ≤ k_) ∧ some k_ ≠ (v245 : Value).ownBlock ∧ some k_ ≠ (v248 : Value).ownBlock ∧ some k_ ≠ (.slice Ao13 l0_1.length co13 : Value).ownBlock)) (Q_HO_237000) (fun k_ e_ => ⟨((Q_HO_237000).1 k_ e_).1, (fun q_ => ((Q_HO246 (hon 2 (by kernel_rfl)) hb_).1 k_ q_.symm).2.1 e_.symm), (fun q_ => ((Q_HO249 (hon 4 (by kernel_rfl))).1 k_ q_.symm).2.1 e_.symm), ((Q_HO_237000).1 k_ e_).2⟩))
                    have R_HO_237001 := aS_ (Kd.R_reok rfl (ok := (fun k_ => ((P0_0_ k_ ∨ P0_1_ k_) ∨ w.heap.size ≤ k_) ∧ some k_ ≠ (v245 : Value).ownBlock ∧ some k_ ≠ (v248 : Value).ownBlock ∧ some k_ ≠ (.slice Ao12 l0_0.length co12 : Value).ownBlock)) (Q_HO_237001) (fun k_ e_ => ⟨((Q_HO_237001).1 k_ e_).1, (fun q_ => ((Q_HO246 (hon 2 (by kernel_rfl)) hb_).1 k_ q_.symm).2.2 e_.symm), (fun q_ => ((Q_HO249 (hon 4 (by kernel_rfl))).1 k_ q_.symm).2.2 e_.symm), ((Q_HO_237001).1 k_ e_).2⟩))
                    have R_HO246 := aS_ (Kd.R_reok rfl (ok := (fun k_ => ((P0_0_ k_ ∨ P0_1_ k_) ∨ w.heap.size ≤ k_) ∧ some k_ ≠ (v248 : Value).ownBlock ∧ some k_ ≠ (.slice Ao12 l0_0.length co12 : Value).ownBlock ∧ some k_ ≠ (.slice Ao13 l0_1.length co13 : Value).ownBlock)) (Q_HO246 (hon 2 (by kernel_rfl)) hb_) (fun k_ e_ => ⟨((Q_HO246 (hon 2 (by kernel_rfl)) hb_).1 k_ e_).1, (fun q_ => (Q_D_HO246_HO249 (hon 2 (by kernel_rfl)) hb_ (hon 4 (by kernel_rfl))) k_ e_ q_.symm), ((Q_HO246 (hon 2 (by kernel_rfl)) hb_).1 k_ e_).2.1, ((Q_HO246 (hon 2 (by kernel_rfl)) hb_).1 k_ e_).2.2⟩))
                    have R_HO249 := aS_ (Kd.R_reok rfl (ok := (fun k_ => ((P0_0_ k_ ∨ P0_1_ k_) ∨ w.heap.size ≤ k_) ∧ some k_ ≠ (v245 : Value).ownBlock ∧ some k_ ≠ (.slice Ao12 l0_0.length co12 : Value).ownBlock ∧ some k_ ≠ (.slice Ao13 l0_1.length co13 : Value).ownBlock)) (Q_HO249 (hon 4 (by kernel_rfl))) (fun k_ e_ => ⟨((Q_HO249 (hon 4 (by kernel_rfl))).1 k_ e_).1, (fun q_ => (Q_D_HO246_HO249 (hon 2 (by kernel_rfl)) hb_ (hon 4 (by kernel_rfl))) k_ q_.symm e_), ((Q_HO249 (hon 4 (by kernel_rfl))).1 k_ e_).2.1, ((Q_HO249 (hon 4 (by kernel_rfl))).1 k_ e_).2.2⟩))
                    clear HO_237000
                    have HO_237000 := R_HO_237000
                    clear R_HO_237000 HO_237001
                    have HO_237001 := R_HO_237001
                    clear R_HO_237001 HO246
                    have HO246 := R_HO246
                    clear R_HO246 HO249
                    have HO249 := R_HO249
                    clear R_HO249
                    have F_HO258 := fun (h0_ : b 10 = true) => Kd.R_reok rfl (ok := (fun k_ => ((P0_0_ k_ ∨ P0_1_ k_) ∨ w.heap.size ≤ k_) ∧ some k_ ≠ (v245 : Value).ownBlock ∧ some k_ ≠ (v248 : Value).ownBlock ∧ some k_ ≠ (.slice Ao12 l0_0.length co12 : Value).ownBlock ∧ some k_ ≠ (.slice Ao13 l0_1.length co13 : Value).ownBlock)) (Q_HO258 h0_) (fun k_ e_ => ⟨((Q_HO258 h0_).1 k_ e_).1, (fun q_ => (Q_D_HO246_HO258 (hon 2 (by kernel_rfl)) hb_ h0_) k_ q_.symm e_), (fun q_ => (Q_D_HO249_HO258 (hon 4 (by kernel_rfl)) h0_) k_ q_.symm e_), ((Q_HO258 h0_).1 k_ e_).2.1, ((Q_HO258 h0_).1 k_ e_).2.2⟩)
                    obtain ⟨Ao61, co61, eo61⟩ := Kd.R_slice HO249.out
                    (first | subst eo61 | (injection eo61 with f1_ f2_ f3_; have f4_ := f1_.symm; have f5_ := f3_.symm; clear f1_ f2_ f3_; subst f4_; subst f5_))
                    refine Kd.R_append_rows_step (Kd.int .i64) (w0 := w0) w0.heap.size (by rfl) (.tmp 71) (.tmp 73) 22 3 (.int .i64 0) 8 rfl Try.underlying22 info3 rfl (by decide) (by omega) v245 t244 y247 _ _ _ (fun k_ => ((P0_0_ k_ ∨ P0_1_ k_) ∨ w.heap.size ≤ k_) ∧ some k_ ≠ (.slice Ao12 l0_0.length co12 : Value).ownBlock ∧ some k_ ≠ (.slice Ao13 l0_1.length co13 : Value).ownBlock ∧ some k_ ≠ (.slice Ao61 y247.length co61 : Value).ownBlock) (fun _ => False) (ev_tmp8 e71) (ev_tmp8 e73) ?aO ?aR (fun _ _ h => h) (fun _ h => h.elim) ?aF ?aB ?aS ?aL ?_
                    (case aR => repeat (first | exact (Kd.R_reads' HO249.out).2.2 | (with_reducible refine Kd.C_alloc ?_ _) | (with_reducible refine Kd.C_drewN ?_ _) | (with_reducible refine Kd.C_drew ?_)))
                    (case aB => exact (by repeat (first | (with_reducible first | exact HB.out | apply bA_ | apply pN_ | apply bD_ | refine bS_ ?_ GE236.out | refine bS_ ?_ GE237.out) | exact HB.out)))
                    (case aF => exact (fun k_ hk => ⟨(.inr (Nat.le_trans (by first | exact HK.out.1 | exact (show Kept w _ (fun k_ => P0_0_ k_ ∨ P0_1_ k_) from by repeat (first | (with_reducible first | exact HK.out | apply Kept.alloc | apply Kept.drewN | apply Kept.drew | refine Kept.setCell ?_ (.inr GW236.out) _ | refine Kept.setCell ?_ (.inr GW237.out) _) | exact HK.out)).1) hk)), Kd.fresh' (Kd.R_lt (by (with_reducible repeat (first | apply rA_ | apply rN_ | apply rD_)); exact HO_237000.out)) k_ hk, Kd.fresh' (Kd.R_lt (by (with_reducible repeat (first | apply rA_ | apply rN_ | apply rD_)); exact HO_237001.out)) k_ hk, Kd.fresh' (Kd.R_lt (by (with_reducible repeat (first | apply rA_ | apply rN_ | apply rD_)); exact HO249.out)) k_ hk⟩))
                    (case aO => exact (by (with_reducible repeat (first | apply rA_ | apply rN_ | apply rD_)); exact Kd.R_mono HO246.out (fun _ hk => by first | exact ⟨hk.1, ⟨hk.2.2.1, ⟨hk.2.2.2, hk.2.1⟩⟩⟩ | (simp only [hk, ne_eq, not_false_eq_true, and_self]))))
                    (case aS => exact (below_size (by repeat (first | (with_reducible first | exact HB.out | apply bA_ | apply pN_ | apply bD_ | refine bS_ ?_ GE236.out | refine bS_ ?_ GE237.out) | exact HB.out))))
                    (case aL => have := LMc50.out; omega)
                    intro v251 w60 ho hb hg hat
                    have DN_HO249 := fun (h0_ : b 4 = true) (k_ : Nat) (e1_ : (v251 : Value).ownBlock = some k_) (e2_ : (.slice Ao61 y247.length co61 : Value).ownBlock = some k_) => (show False from Or.elim hat (fun q_ => Q_D_HO246_HO249 (hon 2 (by kernel_rfl)) hb_ h0_ k_ (q_.symm.trans e1_) e2_) (fun ⟨b_, q_, l_⟩ => Kd.fresh' (Kd.R_lt (Q_HO249 h0_)) k_ (by rw [q_] at e1_; cases e1_; exact l_) e2_.symm))
                    have DN_HO255 := fun (h0_ : b 8 = true) (h1_ : b 11 = false) (k_ : Nat) (e1_ : (v251 : Value).ownBlock = some k_) (e2_ : (v254 : Value).ownBlock = some k_) => (show False from Or.elim hat (fun q_ => Q_D_HO246_HO255 (hon 2 (by kernel_rfl)) hb_ h0_ h1_ k_ (q_.symm.trans e1_) e2_) (fun ⟨b_, q_, l_⟩ => Kd.fresh' (Kd.R_lt (Q_HO255 h0_ h1_)) k_ (by rw [q_] at e1_; cases e1_; exact l_) e2_.symm))
                    have DN_HO258 := fun (h0_ : b 10 = true) (k_ : Nat) (e1_ : (v251 : Value).ownBlock = some k_) (e2_ : (v257 : Value).ownBlock = some k_) => (show False from Or.elim hat (fun q_ => Q_D_HO246_HO258 (hon 2 (by kernel_rfl)) hb_ h0_ k_ (q_.symm.trans e1_) e2_) (fun ⟨b_, q_, l_⟩ => Kd.fresh' (Kd.R_lt (Q_HO258 h0_)) k_ (by rw [q_] at e1_; cases e1_; exact l_) e2_.symm))
                    have DN_HO261 := fun (h0_ : b 11 = true) (k_ : Nat) (e1_ : (v251 : Value).ownBlock = some k_) (e2_ : (v260 : Value).ownBlock = some k_) => (show False from Or.elim hat (fun q_ => Q_D_HO246_HO261 (hon 2 (by kernel_rfl)) hb_ h0_ k_ (q_.symm.trans e1_) e2_) (fun ⟨b_, q_, l_⟩ => Kd.fresh' (Kd.R_lt (Q_HO261 h0_)) k_ (by rw [q_] at e1_; cases e1_; exact l_) e2_.symm))
                    rw [← Ny250.out] at ho
                    have n0_ := aS_ (Kd.R_after (ok := (fun k_ => ((P0_0_ k_ ∨ P0_1_ k_) ∨ w.heap.size ≤ k_) ∧ some k_ ≠ (.slice Ao13 l0_1.length co13 : Value).ownBlock ∧ some k_ ≠ (.slice Ao61 y247.length co61 : Value).ownBlock)) (by (with_reducible repeat (first | apply rA_ | apply rN_ | apply rD_)); exact Kd.R_mono HO_237000.out (fun _ hk => by first | exact ⟨⟨hk.1, ⟨hk.2.2.2, hk.2.2.1⟩⟩, hk.2.1⟩ | (simp only [hk, ne_eq, not_false_eq_true, and_self]))) hg hat)
                    have n1_ := aS_ (Kd.R_after (ok := (fun k_ => ((P0_0_ k_ ∨ P0_1_ k_) ∨ w.heap.size ≤ k_) ∧ some k_ ≠ (.slice Ao12 l0_0.length co12 : Value).ownBlock ∧ some k_ ≠ (.slice Ao61 y247.length co61 : Value).ownBlock)) (by (with_reducible repeat (first | apply rA_ | apply rN_ | apply rD_)); exact Kd.R_mono HO_237001.out (fun _ hk => by first | exact ⟨⟨hk.1, ⟨hk.2.2.2, hk.2.2.1⟩⟩, hk.2.1⟩ | (simp only [hk, ne_eq, not_false_eq_true, and_self]))) hg hat)
                    have n2_ := aS_ (blk_grown (g := gb236) (o := .cells #[.slice Ao12 l0_0.length co12, .slice Ao13 l0_1.length co13] 24 (0, 0)) (by (with_reducible repeat (first | refine kN_ ?_ _ | refine kD_ ?_ | refine kA_ ?_ _)); exact BK236.out) hg (Kd.R_ne HO246.out BK236.out (by decide)))
                    have n3_ := aS_ (blk_grown (g := gb237) (o := .cells #[.slice none 0 0, .slice none 0 0] 24 (0, 0)) (by (with_reducible repeat (first | refine kN_ ?_ _ | refine kD_ ?_ | refine kA_ ?_ _)); exact BK237.out) hg (Kd.R_ne HO246.out BK237.out (by decide)))
                    have n4_ := aS_ (Kd.R_after (ok := (fun k_ => ((P0_0_ k_ ∨ P0_1_ k_) ∨ w.heap.size ≤ k_) ∧ some k_ ≠ (.slice Ao12 l0_0.length co12 : Value).ownBlock ∧ some k_ ≠ (.slice Ao13 l0_1.length co13 : Value).ownBlock)) (by (with_reducible repeat (first | apply rA_ | apply rN_ | apply rD_)); exact Kd.R_mono HO249.out (fun _ hk => by first | exact ⟨⟨hk.1, ⟨hk.2.2.1, hk.2.2.2⟩⟩, hk.2.1⟩ | (simp only [hk, ne_eq, not_false_eq_true, and_self]))) hg hat)
                    have n5_ := aS_ (hb)
                    have n6_ := aS_ (Kept.of_grown (S := (fun k_ => P0_0_ k_ ∨ P0_1_ k_)) hg (by repeat (first | (with_reducible first | exact HK.out | apply Kept.alloc | apply Kept.drewN | apply Kept.drew | refine Kept.setCell ?_ (.inr GW236.out) _ | refine Kept.setCell ?_ (.inr GW237.out) _) | exact HK.out)) (fun k_ e_ => (HO246.out.1 k_ e_).1))
                    have n7_ := aS_ (ho)
                    have z_HO258 := fun (h0_ : b 10 = true) => (show Kd.R (Kd.int .i64) 3 w60 w0.heap.size (fun k_ => ((P0_0_ k_ ∨ P0_1_ k_) ∨ w.heap.size ≤ k_) ∧ some k_ ≠ (.slice Ao12 l0_0.length co12 : Value).ownBlock ∧ some k_ ≠ (.slice Ao13 l0_1.length co13 : Value).ownBlock) v257 y256 from by first | exact (Kd.R_after (ok := (fun k_ => ((P0_0_ k_ ∨ P0_1_ k_) ∨ w.heap.size ≤ k_) ∧ some k_ ≠ (.slice Ao12 l0_0.length co12 : Value).ownBlock ∧ some k_ ≠ (.slice Ao13 l0_1.length co13 : Value).ownBlock ∧ some k_ ≠ (.slice Ao61 y247.length co61 : Value).ownBlock)) (by (with_reducible repeat (first | apply rA_ | apply rN_ | apply rD_)); exact Kd.R_mono (F_HO258 h0_) (fun _ hk => by first | exact ⟨⟨hk.1, ⟨hk.2.2.2.1, ⟨hk.2.2.2.2, hk.2.2.1⟩⟩⟩, hk.2.1⟩ | (simp only [hk, ne_eq, not_false_eq_true, and_self]))) hg hat) | exact Kd.R_mono (Kd.R_after (ok := (fun k_ => ((P0_0_ k_ ∨ P0_1_ k_) ∨ w.heap.size ≤ k_) ∧ some k_ ≠ (.slice Ao12 l0_0.length co12 : Value).ownBlock ∧ some k_ ≠ (.slice Ao13 l0_1.length co13 : Value).ownBlock ∧ some k_ ≠ (.slice Ao61 y247.length co61 : Value).ownBlock)) (by (with_reducible repeat (first | apply rA_ | apply rN_ | apply rD_)); exact Kd.R_mono (F_HO258 h0_) (fun _ hk => by first | exact ⟨⟨hk.1, ⟨hk.2.2.2.1, ⟨hk.2.2.2.2, hk.2.2.1⟩⟩⟩, hk.2.1⟩ | (simp only [hk, ne_eq, not_false_eq_true, and_self]))) hg hat) (fun _ hk => by first | trivial | exact hk | exact hk.1 | (simp only [hk, ne_eq, not_false_eq_true, and_self])))
                    have z_BK262 := fun (h0_ : b 13 = true) (h1_ : b 14 = false) => (show w60.heap[gb262]? = some (.cells #[.slice none 0 0, .slice none 0 0] 24 (0, 0)) from by first | exact (blk_grown (g := gb262) (o := .cells #[.slice none 0 0, .slice none 0 0] 24 (0, 0)) (by (with_reducible repeat (first | refine kN_ ?_ _ | refine kD_ ?_ | refine kA_ ?_ _)); exact (Q_BK262 h0_ h1_)) hg (Kd.R_ne HO246.out (Q_BK262 h0_ h1_) (by decide))))
                    clear HO_237000 HO_237001 BK236 BK237 HO249 HB HK HO246
                    have HO_237000 := n0_
                    have HO_237001 := n1_
                    have BK236 := n2_
                    have BK237 := n3_
                    have HO249 := n4_
                    have HB := n5_
                    have HK := n6_
                    have HO252 := n7_
                    clear n0_ n1_ n2_ n3_ n4_ n5_ n6_ n7_
                    clear ho hb hg hat
                    refine hK.out _ _ ⟨v245, .slice Ao61 y247.length co61, v251, v254, v257, v260, gb262, m12_, m13_, (by rw [ha.out]; exact putSel_upk 3 hb_ rfl rfl rfl), (by (with_reducible repeat (first | apply rA_ | apply rN_ | apply rD_)); exact Kd.R_mono HO_237000.out (fun _ hk => by first | exact ⟨hk.1.1, ⟨hk.1.2.2, ⟨hk.2, hk.1.2.1⟩⟩⟩ | (simp only [hk, ne_eq, not_false_eq_true, and_self]))), (by (with_reducible repeat (first | apply rA_ | apply rN_ | apply rD_)); exact Kd.R_mono HO_237001.out (fun _ hk => by first | exact ⟨hk.1.1, ⟨hk.1.2.2, ⟨hk.2, hk.1.2.1⟩⟩⟩ | (simp only [hk, ne_eq, not_false_eq_true, and_self]))), (by (with_reducible repeat (first | refine kN_ ?_ _ | refine kD_ ?_ | refine kA_ ?_ _)); exact BK236.out), (by (with_reducible repeat (first | refine kN_ ?_ _ | refine kD_ ?_ | refine kA_ ?_ _)); exact BK237.out), (by repeat (first | (with_reducible first | exact HK.out | apply Kept.alloc | apply Kept.drewN | apply Kept.drew | refine Kept.setCell ?_ (.inr GW236.out) _ | refine Kept.setCell ?_ (.inr GW237.out) _) | exact HK.out)), (by repeat (first | (with_reducible first | exact HB.out | apply bA_ | apply pN_ | apply bD_ | refine bS_ ?_ GE236.out | refine bS_ ?_ GE237.out) | exact HB.out)), fun _ h1_ => absurd ((up_self b 5).symm.trans h1_) (by decide), fun _ => (by (with_reducible repeat (first | apply rA_ | apply rN_ | apply rD_)); exact Kd.R_mono HO249.out (fun _ hk => by first | exact ⟨hk.1.1, ⟨hk.2, ⟨hk.1.2.1, hk.1.2.2⟩⟩⟩ | (simp only [hk, ne_eq, not_false_eq_true, and_self]))), fun _ => (by (with_reducible repeat (first | apply rA_ | apply rN_ | apply rD_)); exact Kd.R_mono HO252.out (fun _ hk => by first | exact ⟨hk.1, ⟨hk.2.2.2, ⟨hk.2.1, hk.2.2.1⟩⟩⟩ | (simp only [hk, ne_eq, not_false_eq_true, and_self]))), fun h0_ _ => absurd ((hoff 8 (by kernel_rfl)).symm.trans h0_) (by decide), z_HO258, fun h0_ => absurd ((hoff 11 (by kernel_rfl)).symm.trans h0_) (by decide), z_BK262, Q_GW262, Q_GE262, Q_NB236_262, Q_NB262_236, Q_NB237_262, Q_NB262_237, fun h0_ => absurd ((hoff 14 (by kernel_rfl)).symm.trans h0_) (by decide), fun h0_ => absurd ((hoff 12 (by kernel_rfl)).symm.trans h0_) (by decide), Q_X13_, fun h0_ h1_ h2_ _ _ _ => absurd ((up_self b 5).symm.trans h1_) (by decide), fun h0_ h1_ h2_ h3_ _ _ _ => absurd ((up_self b 5).symm.trans h1_) (by decide), fun h0_ h1_ h2_ _ _ _ => absurd ((up_self b 5).symm.trans h1_) (by decide), fun h0_ h1_ h2_ _ _ _ => absurd ((up_self b 5).symm.trans h1_) (by decide), fun h0_ h1_ k_ e1_ e2_ => DN_HO249 h0_ k_ e2_ e1_, Q_D_HO249_HO255, Q_D_HO249_HO258, Q_D_HO249_HO261, fun h0_ h1_ h2_ k_ e1_ e2_ => DN_HO255 h1_ h2_ k_ e1_ e2_, fun h0_ h1_ k_ e1_ e2_ => DN_HO258 h1_ k_ e1_ e2_, fun h0_ h1_ k_ e1_ e2_ => DN_HO261 h1_ k_ e1_ e2_, Q_D_HO255_HO258, Q_D_HO258_HO261⟩
                   refine steps_cons ?_ ?_
                   ·rintro b a w' ⟨v245, v248, v251, v254, v257, v260, gb262, m12_, m13_, ha, Q_HO_237000, Q_HO_237001, Q_BK236, Q_BK237, Q_HK, Q_HB, Q_HO246, Q_HO249, Q_HO252, Q_HO255, Q_HO258, Q_HO261, Q_BK262, Q_GW262, Q_GE262, Q_NB236_262, Q_NB262_236, Q_NB237_262, Q_NB262_237, Q_BK262_e14, Q_X12_, Q_X13_, Q_D_HO246_HO249, Q_D_HO246_HO255, Q_D_HO246_HO258, Q_D_HO246_HO261, Q_D_HO249_HO252, Q_D_HO249_HO255, Q_D_HO249_HO258, Q_D_HO249_HO261, Q_D_HO252_HO255, Q_D_HO252_HO258, Q_D_HO252_HO261, Q_D_HO255_HO258, Q_D_HO258_HO261⟩ hb_ hon hoff
                    refine ⟨_, rfl, fun K hK => ?_⟩
                    have e75 : a.tmps[75]? = some (.pointer (some ⟨gb236, 1, none⟩)) := by rw [ha]; exact (putSel_off rfl).trans rfl
                    replace ha := aS_ ha
                    have HO_237000 := aS_ Q_HO_237000
                    have HO_237001 := aS_ Q_HO_237001
                    have BK236 := aS_ Q_BK236
                    have BK237 := aS_ Q_BK237
                    have HK := aS_ Q_HK
                    have HB := aS_ Q_HB
                    have hc0_ : w'.cell? ⟨gb236, 0, none⟩ = some (.slice Ao12 l0_0.length co12) := (blk_cell BK236.out 0).trans rfl
                    have hc1_ : w'.cell? ⟨gb236, 1, none⟩ = some (.slice Ao13 l0_1.length co13) := (blk_cell BK236.out 1).trans rfl
                    refine value_ (w1 := w') (v := .slice Ao13 l0_1.length co13) (by rfl) rfl ?_ ?_
                    ·go_simp
                     (try simp only [i64_w])
                     try rfl
                    refine hK.out _ _ ⟨v245, v248, v251, v254, v257, v260, gb262, m12_, m13_, (by rw [ha.out]; exact putSel_upk 4 hb_ rfl rfl rfl), Q_HO_237000, Q_HO_237001, Q_BK236, Q_BK237, Q_HK, Q_HB, Q_HO246, Q_HO249, Q_HO252, fun h0_ _ => absurd ((hoff 8 (by kernel_rfl)).symm.trans h0_) (by decide), Q_HO258, fun h0_ => absurd ((hoff 11 (by kernel_rfl)).symm.trans h0_) (by decide), Q_BK262, Q_GW262, Q_GE262, Q_NB236_262, Q_NB262_236, Q_NB237_262, Q_NB262_237, fun h0_ => absurd ((hoff 14 (by kernel_rfl)).symm.trans h0_) (by decide), fun h0_ => absurd ((hoff 12 (by kernel_rfl)).symm.trans h0_) (by decide), Q_X13_, Q_D_HO246_HO249, Q_D_HO246_HO255, Q_D_HO246_HO258, Q_D_HO246_HO261, Q_D_HO249_HO252, Q_D_HO249_HO255, Q_D_HO249_HO258, Q_D_HO249_HO261, Q_D_HO252_HO255, Q_D_HO252_HO258, Q_D_HO252_HO261, Q_D_HO255_HO258, Q_D_HO258_HO261⟩
                   refine steps_cons ?_ ?_
                   ·rintro b a w' ⟨v245, v248, v251, v254, v257, v260, gb262, m12_, m13_, ha, Q_HO_237000, Q_HO_237001, Q_BK236, Q_BK237, Q_HK, Q_HB, Q_HO246, Q_HO249, Q_HO252, Q_HO255, Q_HO258, Q_HO261, Q_BK262, Q_GW262, Q_GE262, Q_NB236_262, Q_NB262_236, Q_NB237_262, Q_NB262_237, Q_BK262_e14, Q_X12_, Q_X13_, Q_D_HO246_HO249, Q_D_HO246_HO255, Q_D_HO246_HO258, Q_D_HO246_HO261, Q_D_HO249_HO252, Q_D_HO249_HO255, Q_D_HO249_HO258, Q_D_HO249_HO261, Q_D_HO252_HO255, Q_D_HO252_HO258, Q_D_HO252_HO261, Q_D_HO255_HO258, Q_D_HO258_HO261⟩ hb_ hon hoff
                    refine ⟨_, rfl, fun K hK => ?_⟩
                    have e76 : a.tmps[76]? = some (.slice Ao13 l0_1.length co13) := by rw [ha]; exact putSel_on (e := (7, 76, .slice Ao13 l0_1.length co13)) 4 rfl rfl (hon 7 (by kernel_rfl)) rfl
                    replace ha := aS_ ha
                    have HO_237000 := aS_ Q_HO_237000
                    have HO_237001 := aS_ Q_HO_237001
                    have BK236 := aS_ Q_BK236
                    have BK237 := aS_ Q_BK237
                    have HK := aS_ Q_HK
                    have HB := aS_ Q_HB
                    have HO249 := aS_ (Q_HO249 (hon 4 (by kernel_rfl)))
                    have HO252 := aS_ (Q_HO252 (hon 5 (by kernel_rfl)))
                    have R_HO_237000 := aS_ (Kd.R_reok rfl (ok := (fun k_ => ((P0_0_ k_ ∨ P0_1_ k_) ∨ w.heap.size ≤ k_) ∧ some k_ ≠ (v248 : Value).ownBlock ∧ some k_ ≠ (v251 : Value).ownBlock ∧ some k_ ≠ (.slice Ao13 l0_1.length co13 : Value).ownBlock)) (Q_HO_237000) (fun k_ e_ => ⟨((Q_HO_237000).1 k_ e_).1, (fun q_ => ((Q_HO249 (hon 4 (by kernel_rfl))).1 k_ q_.symm).2.1 e_.symm), (fun q_ => ((Q_HO252 (hon 5 (by kernel_rfl))).1 k_ q_.symm).2.1 e_.symm), ((Q_HO_237000).1 k_ e_).2⟩))
                    have R_HO_237001 := aS_ (Kd.R_reok rfl (ok := (fun k_ => ((P0_0_ k_ ∨ P0_1_ k_) ∨ w.heap.size ≤ k_) ∧ some k_ ≠ (v248 : Value).ownBlock ∧ some k_ ≠ (v251 : Value).ownBlock ∧ some k_ ≠ (.slice Ao12 l0_0.length co12 : Value).ownBlock)) (Q_HO_237001) (fun k_ e_ => ⟨((Q_HO_237001).1 k_ e_).1, (fun q_ => ((Q_HO249 (hon 4 (by kernel_rfl))).1 k_ q_.symm).2.2 e_.symm), (fun q_ => ((Q_HO252 (hon 5 (by kernel_rfl))).1 k_ q_.symm).2.2 e_.symm), ((Q_HO_237001).1 k_ e_).2⟩))
                    have R_HO249 := aS_ (Kd.R_reok rfl (ok := (fun k_ => ((P0_0_ k_ ∨ P0_1_ k_) ∨ w.heap.size ≤ k_) ∧ some k_ ≠ (v251 : Value).ownBlock ∧ some k_ ≠ (.slice Ao12 l0_0.length co12 : Value).ownBlock ∧ some k_ ≠ (.slice Ao13 l0_1.length co13 : Value).ownBlock)) (Q_HO249 (hon 4 (by kernel_rfl))) (fun k_ e_ => ⟨((Q_HO249 (hon 4 (by kernel_rfl))).1 k_ e_).1, (fun q_ => (Q_D_HO249_HO252 (hon 4 (by kernel_rfl)) (hon 5 (by kernel_rfl))) k_ e_ q_.symm), ((Q_HO249 (hon 4 (by kernel_rfl))).1 k_ e_).2.1, ((Q_HO249 (hon 4 (by kernel_rfl))).1 k_ e_).2.2⟩))
                    have R_HO252 := aS_ (Kd.R_reok rfl (ok := (fun k_ => ((P0_0_ k_ ∨ P0_1_ k_) ∨ w.heap.size ≤ k_) ∧ some k_ ≠ (v248 : Value).ownBlock ∧ some k_ ≠ (.slice Ao12 l0_0.length co12 : Value).ownBlock ∧ some k_ ≠ (.slice Ao13 l0_1.length co13 : Value).ownBlock)) (Q_HO252 (hon 5 (by kernel_rfl))) (fun k_ e_ => ⟨((Q_HO252 (hon 5 (by kernel_rfl))).1 k_ e_).1, (fun q_ => (Q_D_HO249_HO252 (hon 4 (by kernel_rfl)) (hon 5 (by kernel_rfl))) k_ q_.symm e_), ((Q_HO252 (hon 5 (by kernel_rfl))).1 k_ e_).2.1, ((Q_HO252 (hon 5 (by kernel_rfl))).1 k_ e_).2.2⟩))
                    clear HO_237000
                    have HO_237000 := R_HO_237000
                    clear R_HO_237000 HO_237001
                    have HO_237001 := R_HO_237001
                    clear R_HO_237001 HO249
                    have HO249 := R_HO249
                    clear R_HO249 HO252
                    have HO252 := R_HO252
                    clear R_HO252
                    refine goes_ Try.func54 (by kernel_rfl) rfl #[.slice Ao13 l0_1.length co13] (by rfl) rfl rfl (by first | (simp only [List.map_toArray, List.map_cons, List.map_nil, Act.eval, Array.getD_eq_getD_getElem?, Option.getD_some, e76]; done) | (simp only [List.map_toArray, List.map_cons, List.map_nil, Act.eval, Array.getD_eq_getD_getElem?, Option.getD_some, e76]; rfl)) ?_
                    with_reducible refine (spec_l1Own.calls _ _ l0_1 t253 _ ?side1 ?side2 A51.out).mono ?_
                    (case side1 => repeat (first | exact (Kd.R_reads' HO_237001.out).2.2 | (with_reducible refine Kd.C_alloc ?_ _) | (with_reducible refine Kd.C_drewN ?_ _) | (with_reducible refine Kd.C_drew ?_)))
                    (case side2 => exact (Kd.R_reads' HO_237001.out).2.1)
                    rintro e w62 ⟨v254, rfl, ho0, hb⟩
                    have DN_HO246 := fun (h0_ : b 2 = true) (h1_ : b 5 = false) (k_ : Nat) (e1_ : (v254 : Value).ownBlock = some k_) (e2_ : (v245 : Value).ownBlock = some k_) => (show False from Kd.fresh' (Kd.R_lt (Q_HO246 h0_ h1_)) k_ (Kd.R_base ho0 k_ e1_) e2_.symm)
                    have DN_HO249 := fun (h0_ : b 4 = true) (k_ : Nat) (e1_ : (v254 : Value).ownBlock = some k_) (e2_ : (v248 : Value).ownBlock = some k_) => (show False from Kd.fresh' (Kd.R_lt (Q_HO249 h0_)) k_ (Kd.R_base ho0 k_ e1_) e2_.symm)
                    have DN_HO252 := fun (h0_ : b 5 = true) (k_ : Nat) (e1_ : (v254 : Value).ownBlock = some k_) (e2_ : (v251 : Value).ownBlock = some k_) => (show False from Kd.fresh' (Kd.R_lt (Q_HO252 h0_)) k_ (Kd.R_base ho0 k_ e1_) e2_.symm)
                    have DN_HO258 := fun (h0_ : b 10 = true) (k_ : Nat) (e1_ : (v254 : Value).ownBlock = some k_) (e2_ : (v257 : Value).ownBlock = some k_) => (show False from Kd.fresh' (Kd.R_lt (Q_HO258 h0_)) k_ (Kd.R_base ho0 k_ e1_) e2_.symm)
                    refine ⟨_, rfl, ?_⟩
                    have n0_ := aS_ (Kd.R_elder' (by (with_reducible repeat (first | apply rA_ | apply rN_ | apply rD_)); exact HO_237000.out) (Kd.R_base ho0) hb)
                    have n1_ := aS_ (Kd.R_elder' (by (with_reducible repeat (first | apply rA_ | apply rN_ | apply rD_)); exact HO_237001.out) (Kd.R_base ho0) hb)
                    have n2_ := aS_ (Kd.R_elder' (by (with_reducible repeat (first | apply rA_ | apply rN_ | apply rD_)); exact HO249.out) (Kd.R_base ho0) hb)
                    have n3_ := aS_ (Kd.R_elder' (by (with_reducible repeat (first | apply rA_ | apply rN_ | apply rD_)); exact HO252.out) (Kd.R_base ho0) hb)
                    have n4_ := aS_ (Kd.R_lower (Kd.R_new' (Kd.R_new' (Kd.R_new' (Kd.R_new' (Kd.R_newM (M := fun k_ => ((P0_0_ k_ ∨ P0_1_ k_) ∨ w.heap.size ≤ k_)) ho0 (by first | exact HK.out.1 | exact (show Kept w _ (fun k_ => P0_0_ k_ ∨ P0_1_ k_) from by repeat (first | (with_reducible first | exact HK.out | apply Kept.alloc | apply Kept.drewN | apply Kept.drew | refine Kept.setCell ?_ (.inr GW236.out) _ | refine Kept.setCell ?_ (.inr GW237.out) _) | exact HK.out)).1) (fun k_ h_ => .inr h_)) (Kd.R_lt (by (with_reducible repeat (first | apply rA_ | apply rN_ | apply rD_)); exact HO_237000.out))) (Kd.R_lt (by (with_reducible repeat (first | apply rA_ | apply rN_ | apply rD_)); exact HO_237001.out))) (Kd.R_lt (by (with_reducible repeat (first | apply rA_ | apply rN_ | apply rD_)); exact HO249.out))) (Kd.R_lt (by (with_reducible repeat (first | apply rA_ | apply rN_ | apply rD_)); exact HO252.out))) (below_size (by repeat (first | (with_reducible first | exact HB.out | apply bA_ | apply pN_ | apply bD_ | refine bS_ ?_ GE236.out | refine bS_ ?_ GE237.out) | exact HB.out))))
                    have n5_ := aS_ (blk_below (g := gb236) (o := .cells #[.slice Ao12 l0_0.length co12, .slice Ao13 l0_1.length co13] 24 (0, 0)) (by (with_reducible repeat (first | refine kN_ ?_ _ | refine kD_ ?_ | refine kA_ ?_ _)); exact BK236.out) hb)
                    have n6_ := aS_ (blk_below (g := gb237) (o := .cells #[.slice none 0 0, .slice none 0 0] 24 (0, 0)) (by (with_reducible repeat (first | refine kN_ ?_ _ | refine kD_ ?_ | refine kA_ ?_ _)); exact BK237.out) hb)
                    have n7_ := aS_ (Kept.below (S := (fun k_ => P0_0_ k_ ∨ P0_1_ k_)) (by repeat (first | (with_reducible first | exact HK.out | apply Kept.alloc | apply Kept.drewN | apply Kept.drew | refine Kept.setCell ?_ (.inr GW236.out) _ | refine Kept.setCell ?_ (.inr GW237.out) _) | exact HK.out)) hb)
                    have n8_ := aS_ (below_step (by repeat (first | (with_reducible first | exact HB.out | apply bA_ | apply pN_ | apply bD_ | refine bS_ ?_ GE236.out | refine bS_ ?_ GE237.out) | exact HB.out)) hb)
                    have z_HO258 := fun (h0_ : b 10 = true) => (show Kd.R (Kd.int .i64) 3 w62 w0.heap.size (fun k_ => ((P0_0_ k_ ∨ P0_1_ k_) ∨ w.heap.size ≤ k_) ∧ some k_ ≠ (.slice Ao12 l0_0.length co12 : Value).ownBlock ∧ some k_ ≠ (.slice Ao13 l0_1.length co13 : Value).ownBlock) v257 y256 from by first | exact (Kd.R_elder' (by (with_reducible repeat (first | apply rA_ | apply rN_ | apply rD_)); exact (Q_HO258 h0_)) (Kd.R_base ho0) hb) | exact Kd.R_mono (Kd.R_elder' (by (with_reducible repeat (first | apply rA_ | apply rN_ | apply rD_)); exact (Q_HO258 h0_)) (Kd.R_base ho0) hb) (fun _ hk => by first | trivial | exact hk | exact hk.1 | (simp only [hk, ne_eq, not_false_eq_true, and_self])))
                    have z_BK262 := fun (h0_ : b 13 = true) (h1_ : b 14 = false) => (show w62.heap[gb262]? = some (.cells #[.slice none 0 0, .slice none 0 0] 24 (0, 0)) from by first | exact (blk_below (g := gb262) (o := .cells #[.slice none 0 0, .slice none 0 0] 24 (0, 0)) (by (with_reducible repeat (first | refine kN_ ?_ _ | refine kD_ ?_ | refine kA_ ?_ _)); exact (Q_BK262 h0_ h1_)) hb))
                    clear HO_237000 HO_237001 HO249 HO252 BK236 BK237 HK HB
                    have HO_237000 := n0_
                    have HO_237001 := n1_
                    have HO249 := n2_
                    have HO252 := n3_
                    have HO255 := n4_
                    have BK236 := n5_
                    have BK237 := n6_
                    have HK := n7_
                    have HB := n8_
                    clear n0_ n1_ n2_ n3_ n4_ n5_ n6_ n7_ n8_
                    (try clear hb)
                    (try clear hb2)
                    (try clear hk)
                    (try clear hi)
                    (try clear ho0)
                    refine hK.out _ _ ⟨v245, v248, v251, v254, v257, v260, gb262, m12_, m13_, (by rw [ha.out]; exact putSel_upk 5 hb_ rfl rfl rfl), (by (with_reducible repeat (first | apply rA_ | apply rN_ | apply rD_)); exact Kd.R_mono HO_237000.out (fun _ hk => by first | exact ⟨hk.1.1, ⟨hk.1.2.1, ⟨hk.1.2.2.1, ⟨hk.2, hk.1.2.2.2⟩⟩⟩⟩ | (simp only [hk, ne_eq, not_false_eq_true, and_self]))), (by (with_reducible repeat (first | apply rA_ | apply rN_ | apply rD_)); exact Kd.R_mono HO_237001.out (fun _ hk => by first | exact ⟨hk.1.1, ⟨hk.1.2.1, ⟨hk.1.2.2.1, ⟨hk.2, hk.1.2.2.2⟩⟩⟩⟩ | (simp only [hk, ne_eq, not_false_eq_true, and_self]))), (by (with_reducible repeat (first | refine kN_ ?_ _ | refine kD_ ?_ | refine kA_ ?_ _)); exact BK236.out), (by (with_reducible repeat (first | refine kN_ ?_ _ | refine kD_ ?_ | refine kA_ ?_ _)); exact BK237.out), (by repeat (first | (with_reducible first | exact HK.out | apply Kept.alloc | apply Kept.drewN | apply Kept.drew | refine Kept.setCell ?_ (.inr GW236.out) _ | refine Kept.setCell ?_ (.inr GW237.out) _) | exact HK.out)), (by repeat (first | (with_reducible first | exact HB.out | apply bA_ | apply pN_ | apply bD_ | refine bS_ ?_ GE236.out | refine bS_ ?_ GE237.out) | exact HB.out)), fun _ h1_ => absurd ((hon 5 (by kernel_rfl)).symm.trans h1_) (by decide), fun _ => (by (with_reducible repeat (first | apply rA_ | apply rN_ | apply rD_)); exact Kd.R_mono HO249.out (fun _ hk => by first | exact ⟨hk.1.1, ⟨hk.1.2.1, ⟨hk.2, ⟨hk.1.2.2.1, hk.1.2.2.2⟩⟩⟩⟩ | (simp only [hk, ne_eq, not_false_eq_true, and_self]))), fun _ => (by (with_reducible repeat (first | apply rA_ | apply rN_ | apply rD_)); exact Kd.R_mono HO252.out (fun _ hk => by first | exact ⟨hk.1.1, ⟨hk.1.2.1, ⟨hk.2, ⟨hk.1.2.2.1, hk.1.2.2.2⟩⟩⟩⟩ | (simp only [hk, ne_eq, not_false_eq_true, and_self]))), fun _ _ => (by (with_reducible repeat (first | apply rA_ | apply rN_ | apply rD_)); exact Kd.R_mono HO255.out (fun _ hk => by first | exact ⟨hk.1.1.1.1.1, ⟨hk.1.2, ⟨hk.2, ⟨hk.1.1.1.2, hk.1.1.2⟩⟩⟩⟩ | (simp only [hk, ne_eq, not_false_eq_true, and_self]))), z_HO258, fun h0_ => absurd ((hoff 11 (by kernel_rfl)).symm.trans h0_) (by decide), z_BK262, Q_GW262, Q_GE262, Q_NB236_262, Q_NB262_236, Q_NB237_262, Q_NB262_237, fun h0_ => absurd ((hoff 14 (by kernel_rfl)).symm.trans h0_) (by decide), fun h0_ => absurd ((hoff 12 (by kernel_rfl)).symm.trans h0_) (by decide), Q_X13_, Q_D_HO246_HO249, fun h0_ h1_ h2_ h3_ k_ e1_ e2_ => DN_HO246 h0_ h1_ k_ e2_ e1_, Q_D_HO246_HO258, Q_D_HO246_HO261, Q_D_HO249_HO252, fun h0_ h1_ h2_ k_ e1_ e2_ => DN_HO249 h0_ k_ e2_ e1_, Q_D_HO249_HO258, Q_D_HO249_HO261, fun h0_ h1_ h2_ k_ e1_ e2_ => DN_HO252 h0_ k_ e2_ e1_, Q_D_HO252_HO258, Q_D_HO252_HO261, fun h0_ h1_ h2_ k_ e1_ e2_ => DN_HO258 h2_ k_ e1_ e2_, Q_D_HO258_HO261⟩
                   refine steps_cons ?_ ?_
                   ·rintro b a w' ⟨v245, v248, v251, v254, v257, v260, gb262, m12_, m13_, ha, Q_HO_237000, Q_HO_237001, Q_BK236, Q_BK237, Q_HK, Q_HB, Q_HO246, Q_HO249, Q_HO252, Q_HO255, Q_HO258, Q_HO261, Q_BK262, Q_GW262, Q_GE262, Q_NB236_262, Q_NB262_236, Q_NB237_262, Q_NB262_237, Q_BK262_e14, Q_X12_, Q_X13_, Q_D_HO246_HO249, Q_D_HO246_HO255, Q_D_HO246_HO258, Q_D_HO246_HO261, Q_D_HO249_HO252, Q_D_HO249_HO255, Q_D_HO249_HO258, Q_D_HO249_HO261, Q_D_HO252_HO255, Q_D_HO252_HO258, Q_D_HO252_HO261, Q_D_HO255_HO258, Q_D_HO258_HO261⟩ hb_ hon hoff
                    refine ⟨_, rfl, fun K hK => ?_⟩
                    have e78 : a.tmps[78]? = some (.int .i64 x10_3) := by rw [ha]; exact (putSel_off rfl).trans rfl
                    replace ha := aS_ ha
                    have HO_237000 := aS_ Q_HO_237000
                    have HO_237001 := aS_ Q_HO_237001
                    have BK236 := aS_ Q_BK236
                    have BK237 := aS_ Q_BK237
                    have HK := aS_ Q_HK
                    have HB := aS_ Q_HB
                    refine Kd.R_lit_step (Kd.int .i64) _ 3 ?hg (N := 79) ?hd (xs := ([x10_3] : List Int)) (inner := [.int .i64 x10_3]) (ok := fun _ => True) (okp := fun _ => True) ?hr ?hp (fun _ hk => hk) trivial (Below.refl _ _) (Nat.le_refl _) (by simp) ?_; (case hd => rfl); (case hg => rfl); (case hr => first | (go_simp; done) | (go_simp; rfl)); (case hp => exact (Reps.one (show Kd.M (Kd.int .i64) _ _ _ x10_3 [.int .i64 x10_3] from rfl) (Reps.none _ _)))
                    intro v257 w56 ho57 hb hg_ hnew_
                    have DN_HO246 := fun (h0_ : b 2 = true) (h1_ : b 5 = false) (k_ : Nat) (e1_ : (v257 : Value).ownBlock = some k_) (e2_ : (v245 : Value).ownBlock = some k_) => (show False from Kd.fresh' (Kd.R_lt (Q_HO246 h0_ h1_)) k_ (Kd.R_base ho57 k_ e1_) e2_.symm)
                    have DN_HO249 := fun (h0_ : b 4 = true) (k_ : Nat) (e1_ : (v257 : Value).ownBlock = some k_) (e2_ : (v248 : Value).ownBlock = some k_) => (show False from Kd.fresh' (Kd.R_lt (Q_HO249 h0_)) k_ (Kd.R_base ho57 k_ e1_) e2_.symm)
                    have DN_HO252 := fun (h0_ : b 5 = true) (k_ : Nat) (e1_ : (v257 : Value).ownBlock = some k_) (e2_ : (v251 : Value).ownBlock = some k_) => (show False from Kd.fresh' (Kd.R_lt (Q_HO252 h0_)) k_ (Kd.R_base ho57 k_ e1_) e2_.symm)
                    have DN_HO255 := fun (h0_ : b 8 = true) (h1_ : b 11 = false) (k_ : Nat) (e1_ : (v257 : Value).ownBlock = some k_) (e2_ : (v254 : Value).ownBlock = some k_) => (show False from Kd.fresh' (Kd.R_lt (Q_HO255 h0_ h1_)) k_ (Kd.R_base ho57 k_ e1_) e2_.symm)
                    have DN_HO261 := fun (h0_ : b 11 = true) (k_ : Nat) (e1_ : (v257 : Value).ownBlock = some k_) (e2_ : (v260 : Value).ownBlock = some k_) => (show False from Kd.fresh' (Kd.R_lt (Q_HO261 h0_)) k_ (Kd.R_base ho57 k_ e1_) e2_.symm)
                    clear hg_ hnew_
                    (first | rw [← Ny256.out] at ho57 | (simp only [Int.reduceToNat] at ho57; rw [← Ny256.out] at ho57))
                    have n0_ := aS_ (Kd.R_elder' (by (with_reducible repeat (first | apply rA_ | apply rN_ | apply rD_)); exact HO_237000.out) (Kd.R_base ho57) hb)
                    have n1_ := aS_ (Kd.R_elder' (by (with_reducible repeat (first | apply rA_ | apply rN_ | apply rD_)); exact HO_237001.out) (Kd.R_base ho57) hb)
                    have n2_ := aS_ (Kd.R_lower (Kd.R_new' (Kd.R_new' (Kd.R_newM (M := fun k_ => ((P0_0_ k_ ∨ P0_1_ k_) ∨ w.heap.size ≤ k_)) ho57 (by first | exact HK.out.1 | exact (show Kept w _ (fun k_ => P0_0_ k_ ∨ P0_1_ k_) from by repeat (first | (with_reducible first | exact HK.out | apply Kept.alloc | apply Kept.drewN | apply Kept.drew | refine Kept.setCell ?_ (.inr GW236.out) _ | refine Kept.setCell ?_ (.inr GW237.out) _) | exact HK.out)).1) (fun k_ h_ => .inr h_)) (Kd.R_lt (by (with_reducible repeat (first | apply rA_ | apply rN_ | apply rD_)); exact HO_237000.out))) (Kd.R_lt (by (with_reducible repeat (first | apply rA_ | apply rN_ | apply rD_)); exact HO_237001.out))) (below_size (by repeat (first | (with_reducible first | exact HB.out | apply bA_ | apply pN_ | apply bD_ | refine bS_ ?_ GE236.out | refine bS_ ?_ GE237.out) | exact HB.out))))
                    have n3_ := aS_ (blk_below (g := gb236) (o := .cells #[.slice Ao12 l0_0.length co12, .slice Ao13 l0_1.length co13] 24 (0, 0)) (by (with_reducible repeat (first | refine kN_ ?_ _ | refine kD_ ?_ | refine kA_ ?_ _)); exact BK236.out) hb)
                    have n4_ := aS_ (blk_below (g := gb237) (o := .cells #[.slice none 0 0, .slice none 0 0] 24 (0, 0)) (by (with_reducible repeat (first | refine kN_ ?_ _ | refine kD_ ?_ | refine kA_ ?_ _)); exact BK237.out) hb)
                    have n5_ := aS_ (Kept.below (S := (fun k_ => P0_0_ k_ ∨ P0_1_ k_)) (by repeat (first | (with_reducible first | exact HK.out | apply Kept.alloc | apply Kept.drewN | apply Kept.drew | refine Kept.setCell ?_ (.inr GW236.out) _ | refine Kept.setCell ?_ (.inr GW237.out) _) | exact HK.out)) hb)
                    have n6_ := aS_ (below_step (by repeat (first | (with_reducible first | exact HB.out | apply bA_ | apply pN_ | apply bD_ | refine bS_ ?_ GE236.out | refine bS_ ?_ GE237.out) | exact HB.out)) hb)
                    have z_HO246 := fun (h0_ : b 2 = true) (h1_ : b 5 = false) => (show Kd.R (Kd.int .i64) 3 w56 w0.heap.size (fun k_ => ((P0_0_ k_ ∨ P0_1_ k_) ∨ w.heap.size ≤ k_) ∧ some k_ ≠ (.slice Ao12 l0_0.length co12 : Value).ownBlock ∧ some k_ ≠ (.slice Ao13 l0_1.length co13 : Value).ownBlock) v245 t244 from by first | exact (Kd.R_elder' (by (with_reducible repeat (first | apply rA_ | apply rN_ | apply rD_)); exact (Q_HO246 h0_ h1_)) (Kd.R_base ho57) hb) | exact Kd.R_mono (Kd.R_elder' (by (with_reducible repeat (first | apply rA_ | apply rN_ | apply rD_)); exact (Q_HO246 h0_ h1_)) (Kd.R_base ho57) hb) (fun _ hk => by first | trivial | exact hk | exact hk.1 | (simp only [hk, ne_eq, not_false_eq_true, and_self])))
                    have z_HO249 := fun (h0_ : b 4 = true) => (show Kd.R (Kd.int .i64) 3 w56 w0.heap.size (fun k_ => ((P0_0_ k_ ∨ P0_1_ k_) ∨ w.heap.size ≤ k_) ∧ some k_ ≠ (.slice Ao12 l0_0.length co12 : Value).ownBlock ∧ some k_ ≠ (.slice Ao13 l0_1.length co13 : Value).ownBlock) v248 y247 from by first | exact (Kd.R_elder' (by (with_reducible repeat (first | apply rA_ | apply rN_ | apply rD_)); exact (Q_HO249 h0_)) (Kd.R_base ho57) hb) | exact Kd.R_mono (Kd.R_elder' (by (with_reducible repeat (first | apply rA_ | apply rN_ | apply rD_)); exact (Q_HO249 h0_)) (Kd.R_base ho57) hb) (fun _ hk => by first | trivial | exact hk | exact hk.1 | (simp only [hk, ne_eq, not_false_eq_true, and_self])))
                    have z_HO252 := fun (h0_ : b 5 = true) => (show Kd.R (Kd.int .i64) 3 w56 w0.heap.size (fun k_ => ((P0_0_ k_ ∨ P0_1_ k_) ∨ w.heap.size ≤ k_) ∧ some k_ ≠ (.slice Ao12 l0_0.length co12 : Value).ownBlock ∧ some k_ ≠ (.slice Ao13 l0_1.length co13 : Value).ownBlock) v251 y250 from by first | exact (Kd.R_elder' (by (with_reducible repeat (first | apply rA_ | apply rN_ | apply rD_)); exact (Q_HO252 h0_)) (Kd.R_base ho57) hb) | exact Kd.R_mono (Kd.R_elder' (by (with_reducible repeat (first | apply rA_ | apply rN_ | apply rD_)); exact (Q_HO252 h0_)) (Kd.R_base ho57) hb) (fun _ hk => by first | trivial | exact hk | exact hk.1 | (simp only [hk, ne_eq, not_false_eq_true, and_self])))
                    have z_HO255 := fun (h0_ : b 8 = true) (h1_ : b 11 = false) => (show Kd.R (Kd.int .i64) 3 w56 w0.heap.size (fun k_ => ((P0_0_ k_ ∨ P0_1_ k_) ∨ w.heap.size ≤ k_) ∧ some k_ ≠ (.slice Ao12 l0_0.length co12 : Value).ownBlock ∧ some k_ ≠ (.slice Ao13 l0_1.length co13 : Value).ownBlock) v254 t253 from by first | exact (Kd.R_elder' (by (with_reducible repeat (first | apply rA_ | apply rN_ | apply rD_)); exact (Q_HO255 h0_ h1_)) (Kd.R_base ho57) hb) | exact Kd.R_mono (Kd.R_elder' (by (with_reducible repeat (first | apply rA_ | apply rN_ | apply rD_)); exact (Q_HO255 h0_ h1_)) (Kd.R_base ho57) hb) (fun _ hk => by first | trivial | exact hk | exact hk.1 | (simp only [hk, ne_eq, not_false_eq_true, and_self])))
                    have z_BK262 := fun (h0_ : b 13 = true) (h1_ : b 14 = false) => (show w56.heap[gb262]? = some (.cells #[.slice none 0 0, .slice none 0 0] 24 (0, 0)) from by first | exact (blk_below (g := gb262) (o := .cells #[.slice none 0 0, .slice none 0 0] 24 (0, 0)) (by (with_reducible repeat (first | refine kN_ ?_ _ | refine kD_ ?_ | refine kA_ ?_ _)); exact (Q_BK262 h0_ h1_)) hb))
                    clear HO_237000 HO_237001 BK236 BK237 HK HB
                    have HO_237000 := n0_
                    have HO_237001 := n1_
                    have HO258 := n2_
                    have BK236 := n3_
                    have BK237 := n4_
                    have HK := n5_
                    have HB := n6_
                    clear n0_ n1_ n2_ n3_ n4_ n5_ n6_
                    clear hb ho57
                    refine hK.out _ _ ⟨v245, v248, v251, v254, v257, v260, gb262, m12_, m13_, (by rw [ha.out]; exact putSel_upk 6 hb_ rfl rfl rfl), (by (with_reducible repeat (first | apply rA_ | apply rN_ | apply rD_)); exact Kd.R_mono HO_237000.out (fun _ hk => by first | exact ⟨hk.1.1, ⟨hk.2, hk.1.2⟩⟩ | (simp only [hk, ne_eq, not_false_eq_true, and_self]))), (by (with_reducible repeat (first | apply rA_ | apply rN_ | apply rD_)); exact Kd.R_mono HO_237001.out (fun _ hk => by first | exact ⟨hk.1.1, ⟨hk.2, hk.1.2⟩⟩ | (simp only [hk, ne_eq, not_false_eq_true, and_self]))), (by (with_reducible repeat (first | refine kN_ ?_ _ | refine kD_ ?_ | refine kA_ ?_ _)); exact BK236.out), (by (with_reducible repeat (first | refine kN_ ?_ _ | refine kD_ ?_ | refine kA_ ?_ _)); exact BK237.out), (by repeat (first | (with_reducible first | exact HK.out | apply Kept.alloc | apply Kept.drewN | apply Kept.drew | refine Kept.setCell ?_ (.inr GW236.out) _ | refine Kept.setCell ?_ (.inr GW237.out) _) | exact HK.out)), (by repeat (first | (with_reducible first | exact HB.out | apply bA_ | apply pN_ | apply bD_ | refine bS_ ?_ GE236.out | refine bS_ ?_ GE237.out) | exact HB.out)), z_HO246, z_HO249, z_HO252, z_HO255, fun _ => (by (with_reducible repeat (first | apply rA_ | apply rN_ | apply rD_)); exact Kd.R_mono HO258.out (fun _ hk => by first | exact ⟨hk.1.1.1, ⟨hk.1.2, hk.2⟩⟩ | (simp only [hk, ne_eq, not_false_eq_true, and_self]))), fun h0_ => absurd ((hoff 11 (by kernel_rfl)).symm.trans h0_) (by decide), z_BK262, Q_GW262, Q_GE262, Q_NB236_262, Q_NB262_236, Q_NB237_262, Q_NB262_237, fun h0_ => absurd ((hoff 14 (by kernel_rfl)).symm.trans h0_) (by decide), fun h0_ => absurd ((hoff 12 (by kernel_rfl)).symm.trans h0_) (by decide), Q_X13_, Q_D_HO246_HO249, Q_D_HO246_HO255, fun h0_ h1_ h2_ k_ e1_ e2_ => DN_HO246 h0_ h1_ k_ e2_ e1_, Q_D_HO246_HO261, Q_D_HO249_HO252, Q_D_HO249_HO255, fun h0_ h1_ k_ e1_ e2_ => DN_HO249 h0_ k_ e2_ e1_, Q_D_HO249_HO261, Q_D_HO252_HO255, fun h0_ h1_ k_ e1_ e2_ => DN_HO252 h0_ k_ e2_ e1_, Q_D_HO252_HO261, fun h0_ h1_ h2_ k_ e1_ e2_ => DN_HO255 h0_ h1_ k_ e2_ e1_, fun h0_ h1_ k_ e1_ e2_ => DN_HO261 h1_ k_ e1_ e2_⟩
                   refine steps_cons ?_ ?_
                   ·rintro b a w' ⟨v245, v248, v251, v254, v257, v260, gb262, m12_, m13_, ha, Q_HO_237000, Q_HO_237001, Q_BK236, Q_BK237, Q_HK, Q_HB, Q_HO246, Q_HO249, Q_HO252, Q_HO255, Q_HO258, Q_HO261, Q_BK262, Q_GW262, Q_GE262, Q_NB236_262, Q_NB262_236, Q_NB237_262, Q_NB262_237, Q_BK262_e14, Q_X12_, Q_X13_, Q_D_HO246_HO249, Q_D_HO246_HO255, Q_D_HO246_HO258, Q_D_HO246_HO261, Q_D_HO249_HO252, Q_D_HO249_HO255, Q_D_HO249_HO258, Q_D_HO249_HO261, Q_D_HO252_HO255, Q_D_HO252_HO258, Q_D_HO252_HO261, Q_D_HO255_HO258, Q_D_HO258_HO261⟩ hb_ hon hoff
                    refine ⟨_, rfl, fun K hK => ?_⟩
                    have e77 : a.tmps[77]? = some (v254) := by rw [ha]; exact putSel_on (e := (8, 77, v254)) 5 rfl rfl (hon 8 (by kernel_rfl)) rfl
                    have e79 : a.tmps[79]? = some (v257) := by rw [ha]; exact putSel_on (e := (10, 79, v257)) 6 rfl rfl (hon 10 (by kernel_rfl)) rfl
                    replace ha := aS_ ha
                    have HO_237000 := aS_ Q_HO_237000
                    have HO_237001 := aS_ Q_HO_237001
                    have BK236 := aS_ Q_BK236
                    have BK237 := aS_ Q_BK237
                    have HK := aS_ Q_HK
                    have HB := aS_ Q_HB
                    have HO249 := aS_ (Q_HO249 (hon 4 (by kernel_rfl)))
                    have HO252 := aS_ (Q_HO252 (hon 5 (by kernel_rfl)))
                    have HO255 := aS_ (Q_HO255 (hon 8 (by kernel_rfl)) hb_)
                    have HO258 := aS_ (Q_HO258 (hon 10 (by kernel_rfl)))
                    have R_HO_237000 := aS_ (Kd.R_reok rfl (ok := (fun k_ => ((P0_0_ k_ ∨ P0_1_ k_) ∨ w.heap.size ≤ k_) ∧ some k_ ≠ (v248 : Value).ownBlock ∧ some k_ ≠ (v251 : Value).ownBlock ∧ some k_ ≠ (v254 : Value).ownBlock ∧ some k_ ≠ (v257 : Value).ownBlock ∧ some k_ ≠ (.slice Ao13 l0_1.length co13 : Value).ownBlock)) (Q_HO_237000) (fun k_ e_ => ⟨((Q_HO_237000).1 k_ e_).1, (fun q_ => ((Q_HO249 (hon 4 (by kernel_rfl))).1 k_ q_.symm).2.1 e_.symm), (fun q_ => ((Q_HO252 (hon 5 (by kernel_rfl))).1 k_ q_.symm).2.1 e_.symm), (fun q_ => ((Q_HO255 (hon 8 (by kernel_rfl)) hb_).1 k_ q_.symm).2.1 e_.symm), (fun q_ => ((Q_HO258 (hon 10 (by kernel_rfl))).1 k_ q_.symm).2.1 e_.symm), ((Q_HO_237000).1 k_ e_).2⟩))
                    have R_HO_237001 := aS_ (Kd.R_reok rfl (ok := (fun k_ => ((P0_0_ k_ ∨ P0_1_ k_) ∨ w.heap.size ≤ k_) ∧ some k_ ≠ (v248 : Value).ownBlock ∧ some k_ ≠ (v251 : Value).ownBlock ∧ some k_ ≠ (v254 : Value).ownBlock ∧ some k_ ≠ (v257 : Value).ownBlock ∧ some k_ ≠ (.slice Ao12 l0_0.length co12 : Value).ownBlock)) (Q_HO_237001) (fun k_ e_ => ⟨((Q_HO_237001).1 k_ e_).1, (fun q_ => ((Q_HO249 (hon 4 (by kernel_rfl))).1 k_ q_.symm).2.2 e_.symm), (fun q_ => ((Q_HO252 (hon 5 (by kernel_rfl))).1 k_ q_.symm).2.2 e_.symm), (fun q_ => ((Q_HO255 (hon 8 (by kernel_rfl)) hb_).1 k_ q_.symm).2.2 e_.symm), (fun q_ => ((Q_HO258 (hon 10 (by kernel_rfl))).1 k_ q_.symm).2.2 e_.symm), ((Q_HO_237001).1 k_ e_).2⟩))
                    have R_HO249 := aS_ (Kd.R_reok rfl (ok := (fun k_ => ((P0_0_ k_ ∨ P0_1_ k_) ∨ w.heap.size ≤ k_) ∧ some k_ ≠ (v251 : Value).ownBlock ∧ some k_ ≠ (v254 : Value).ownBlock ∧ some k_ ≠ (v257 : Value).ownBlock ∧ some k_ ≠ (.slice Ao12 l0_0.length co12 : Value).ownBlock ∧ some k_ ≠ (.slice Ao13 l0_1.length co13 : Value).ownBlock)) (Q_HO249 (hon 4 (by kernel_rfl))) (fun k_ e_ => ⟨((Q_HO249 (hon 4 (by kernel_rfl))).1 k_ e_).1, (fun q_ => (Q_D_HO249_HO252 (hon 4 (by kernel_rfl)) (hon 5 (by kernel_rfl))) k_ e_ q_.symm), (fun q_ => (Q_D_HO249_HO255 (hon 4 (by kernel_rfl)) (hon 8 (by kernel_rfl)) hb_) k_ e_ q_.symm), (fun q_ => (Q_D_HO249_HO258 (hon 4 (by kernel_rfl)) (hon 10 (by kernel_rfl))) k_ e_ q_.symm), ((Q_HO249 (hon 4 (by kernel_rfl))).1 k_ e_).2.1, ((Q_HO249 (hon 4 (by kernel_rfl))).1 k_ e_).2.2⟩))
                    have R_HO252 := aS_ (Kd.R_reok rfl (ok := (fun k_ => ((P0_0_ k_ ∨ P0_1_ k_) ∨ w.heap.size ≤ k_) ∧ some k_ ≠ (v248 : Value).ownBlock ∧ some k_ ≠ (v254 : Value).ownBlock ∧ some k_ ≠ (v257 : Value).ownBlock ∧ some k_ ≠ (.slice Ao12 l0_0.length co12 : Value).ownBlock ∧ some k_ ≠ (.slice Ao13 l0_1.length co13 : Value).ownBlock)) (Q_HO252 (hon 5 (by kernel_rfl))) (fun k_ e_ => ⟨((Q_HO252 (hon 5 (by kernel_rfl))).1 k_ e_).1, (fun q_ => (Q_D_HO249_HO252 (hon 4 (by kernel_rfl)) (hon 5 (by kernel_rfl))) k_ q_.symm e_), (fun q_ => (Q_D_HO252_HO255 (hon 5 (by kernel_rfl)) (hon 8 (by kernel_rfl)) hb_) k_ e_ q_.symm), (fun q_ => (Q_D_HO252_HO258 (hon 5 (by kernel_rfl)) (hon 10 (by kernel_rfl))) k_ e_ q_.symm), ((Q_HO252 (hon 5 (by kernel_rfl))).1 k_ e_).2.1, ((Q_HO252 (hon 5 (by kernel_rfl))).1 k_ e_).2.2⟩))
                    have R_HO255 := aS_ (Kd.R_reok rfl (ok := (fun k_ => ((P0_0_ k_ ∨ P0_1_ k_) ∨ w.heap.size ≤ k_) ∧ some k_ ≠ (v248 : Value).ownBlock ∧ some k_ ≠ (v251 : Value).ownBlock ∧ some k_ ≠ (v257 : Value).ownBlock ∧ some k_ ≠ (.slice Ao12 l0_0.length co12 : Value).ownBlock ∧ some k_ ≠ (.slice Ao13 l0_1.length co13 : Value).ownBlock)) (Q_HO255 (hon 8 (by kernel_rfl)) hb_) (fun k_ e_ => ⟨((Q_HO255 (hon 8 (by kernel_rfl)) hb_).1 k_ e_).1, (fun q_ => (Q_D_HO249_HO255 (hon 4 (by kernel_rfl)) (hon 8 (by kernel_rfl)) hb_) k_ q_.symm e_), (fun q_ => (Q_D_HO252_HO255 (hon 5 (by kernel_rfl)) (hon 8 (by kernel_rfl)) hb_) k_ q_.symm e_), (fun q_ => (Q_D_HO255_HO258 (hon 8 (by kernel_rfl)) hb_ (hon 10 (by kernel_rfl))) k_ e_ q_.symm), ((Q_HO255 (hon 8 (by kernel_rfl)) hb_).1 k_ e_).2.1, ((Q_HO255 (hon 8 (by kernel_rfl)) hb_).1 k_ e_).2.2⟩))
                    have R_HO258 := aS_ (Kd.R_reok rfl (ok := (fun k_ => ((P0_0_ k_ ∨ P0_1_ k_) ∨ w.heap.size ≤ k_) ∧ some k_ ≠ (v248 : Value).ownBlock ∧ some k_ ≠ (v251 : Value).ownBlock ∧ some k_ ≠ (v254 : Value).ownBlock ∧ some k_ ≠ (.slice Ao12 l0_0.length co12 : Value).ownBlock ∧ some k_ ≠ (.slice Ao13 l0_1.length co13 : Value).ownBlock)) (Q_HO258 (hon 10 (by kernel_rfl))) (fun k_ e_ => ⟨((Q_HO258 (hon 10 (by kernel_rfl))).1 k_ e_).1, (fun q_ => (Q_D_HO249_HO258 (hon 4 (by kernel_rfl)) (hon 10 (by kernel_rfl))) k_ q_.symm e_), (fun q_ => (Q_D_HO252_HO258 (hon 5 (by kernel_rfl)) (hon 10 (by kernel_rfl))) k_ q_.symm e_), (fun q_ => (Q_D_HO255_HO258 (hon 8 (by kernel_rfl)) hb_ (hon 10 (by kernel_rfl))) k_ q_.symm e_), ((Q_HO258 (hon 10 (by kernel_rfl))).1 k_ e_).2.1, ((Q_HO258 (hon 10 (by kernel_rfl))).1 k_ e_).2.2⟩))
                    clear HO_237000
                    have HO_237000 := R_HO_237000
                    clear R_HO_237000 HO_237001
                    have HO_237001 := R_HO_237001
                    clear R_HO_237001 HO249
                    have HO249 := R_HO249
                    clear R_HO249 HO252
                    have HO252 := R_HO252
                    clear R_HO252 HO255
                    have HO255 := R_HO255
                    clear R_HO255 HO258
                    have HO258 := R_HO258
                    clear R_HO258
                    obtain ⟨Ao66, co66, eo66⟩ := Kd.R_slice HO258.out
                    (first | subst eo66 | (injection eo66 with f1_ f2_ f3_; have f4_ := f1_.symm; have f5_ := f3_.symm; clear f1_ f2_ f3_; subst f4_; subst f5_))
                    refine Kd.R_append_rows_step (Kd.int .i64) (w0 := w0) w0.heap.size (by rfl) (.tmp 77) (.tmp 79) 22 3 (.int .i64 0) 8 rfl Try.underlying22 info3 rfl (by decide) (by omega) v254 t253 y256 _ _ _ (fun k_ => ((P0_0_ k_ ∨ P0_1_ k_) ∨ w.heap.size ≤ k_) ∧ some k_ ≠ (.slice Ao12 l0_0.length co12 : Value).ownBlock ∧ some k_ ≠ (.slice Ao13 l0_1.length co13 : Value).ownBlock ∧ some k_ ≠ (v248 : Value).ownBlock ∧ some k_ ≠ (v251 : Value).ownBlock ∧ some k_ ≠ (.slice Ao66 y256.length co66 : Value).ownBlock) (fun _ => False) (ev_tmp8 e77) (ev_tmp8 e79) ?aO ?aR (fun _ _ h => h) (fun _ h => h.elim) ?aF ?aB ?aS ?aL ?_
                    (case aR => repeat (first | exact (Kd.R_reads' HO258.out).2.2 | (with_reducible refine Kd.C_alloc ?_ _) | (with_reducible refine Kd.C_drewN ?_ _) | (with_reducible refine Kd.C_drew ?_)))
                    (case aB => exact (by repeat (first | (with_reducible first | exact HB.out | apply bA_ | apply pN_ | apply bD_ | refine bS_ ?_ GE236.out | refine bS_ ?_ GE237.out) | exact HB.out)))
                    (case aF => exact (fun k_ hk => ⟨(.inr (Nat.le_trans (by first | exact HK.out.1 | exact (show Kept w _ (fun k_ => P0_0_ k_ ∨ P0_1_ k_) from by repeat (first | (with_reducible first | exact HK.out | apply Kept.alloc | apply Kept.drewN | apply Kept.drew | refine Kept.setCell ?_ (.inr GW236.out) _ | refine Kept.setCell ?_ (.inr GW237.out) _) | exact HK.out)).1) hk)), Kd.fresh' (Kd.R_lt (by (with_reducible repeat (first | apply rA_ | apply rN_ | apply rD_)); exact HO_237000.out)) k_ hk, Kd.fresh' (Kd.R_lt (by (with_reducible repeat (first | apply rA_ | apply rN_ | apply rD_)); exact HO_237001.out)) k_ hk, Kd.fresh' (Kd.R_lt (by (with_reducible repeat (first | apply rA_ | apply rN_ | apply rD_)); exact HO249.out)) k_ hk, Kd.fresh' (Kd.R_lt (by (with_reducible repeat (first | apply rA_ | apply rN_ | apply rD_)); exact HO252.out)) k_ hk, Kd.fresh' (Kd.R_lt (by (with_reducible repeat (first | apply rA_ | apply rN_ | apply rD_)); exact HO258.out)) k_ hk⟩))
                    (case aO => exact (by (with_reducible repeat (first | apply rA_ | apply rN_ | apply rD_)); exact Kd.R_mono HO255.out (fun _ hk => by first | exact ⟨hk.1, ⟨hk.2.2.2.2.1, ⟨hk.2.2.2.2.2, ⟨hk.2.1, ⟨hk.2.2.1, hk.2.2.2.1⟩⟩⟩⟩⟩ | (simp only [hk, ne_eq, not_false_eq_true, and_self]))))
                    (case aS => exact (below_size (by repeat (first | (with_reducible first | exact HB.out | apply bA_ | apply pN_ | apply bD_ | refine bS_ ?_ GE236.out | refine bS_ ?_ GE237.out) | exact HB.out))))
                    (case aL => have := LMc52.out; omega)
                    intro v260 w65 ho hb hg hat
                    have DN_HO246 := fun (h0_ : b 2 = true) (h1_ : b 5 = false) (k_ : Nat) (e1_ : (v260 : Value).ownBlock = some k_) (e2_ : (v245 : Value).ownBlock = some k_) => (show False from Or.elim hat (fun q_ => Q_D_HO246_HO255 h0_ h1_ (hon 8 (by kernel_rfl)) hb_ k_ e2_ (q_.symm.trans e1_)) (fun ⟨b_, q_, l_⟩ => Kd.fresh' (Kd.R_lt (Q_HO246 h0_ h1_)) k_ (by rw [q_] at e1_; cases e1_; exact l_) e2_.symm))
                    have DN_HO249 := fun (h0_ : b 4 = true) (k_ : Nat) (e1_ : (v260 : Value).ownBlock = some k_) (e2_ : (v248 : Value).ownBlock = some k_) => (show False from Or.elim hat (fun q_ => Q_D_HO249_HO255 h0_ (hon 8 (by kernel_rfl)) hb_ k_ e2_ (q_.symm.trans e1_)) (fun ⟨b_, q_, l_⟩ => Kd.fresh' (Kd.R_lt (Q_HO249 h0_)) k_ (by rw [q_] at e1_; cases e1_; exact l_) e2_.symm))
                    have DN_HO252 := fun (h0_ : b 5 = true) (k_ : Nat) (e1_ : (v260 : Value).ownBlock = some k_) (e2_ : (v251 : Value).ownBlock = some k_) => (show False from Or.elim hat (fun q_ => Q_D_HO252_HO255 h0_ (hon 8 (by kernel_rfl)) hb_ k_ e2_ (q_.symm.trans e1_)) (fun ⟨b_, q_, l_⟩ => Kd.fresh' (Kd.R_lt (Q_HO252 h0_)) k_ (by rw [q_] at e1_; cases e1_; exact l_) e2_.symm))
                    have DN_HO258 := fun (h0_ : b 10 = true) (k_ : Nat) (e1_ : (v260 : Value).ownBlock = some k_) (e2_ : (.slice Ao66 y256.length co66 : Value).ownBlock = some k_) => (show False from Or.elim hat (fun q_ => Q_D_HO255_HO258 (hon 8 (by kernel_rfl)) hb_ h0_ k_ (q_.symm.trans e1_) e2_) (fun ⟨b_, q_, l_⟩ => Kd.fresh' (Kd.R_lt (Q_HO258 h0_)) k_ (by rw [q_] at e1_; cases e1_; exact l_) e2_.symm))
                    rw [← Ny259.out] at ho
                    have n0_ := aS_ (Kd.R_after (ok := (fun k_ => ((P0_0_ k_ ∨ P0_1_ k_) ∨ w.heap.size ≤ k_) ∧ some k_ ≠ (.slice Ao13 l0_1.length co13 : Value).ownBlock ∧ some k_ ≠ (v248 : Value).ownBlock ∧ some k_ ≠ (v251 : Value).ownBlock ∧ some k_ ≠ (.slice Ao66 y256.length co66 : Value).ownBlock)) (by (with_reducible repeat (first | apply rA_ | apply rN_ | apply rD_)); exact Kd.R_mono HO_237000.out (fun _ hk => by first | exact ⟨⟨hk.1, ⟨hk.2.2.2.2.2, ⟨hk.2.1, ⟨hk.2.2.1, hk.2.2.2.2.1⟩⟩⟩⟩, hk.2.2.2.1⟩ | (simp only [hk, ne_eq, not_false_eq_true, and_self]))) hg hat)
                    have n1_ := aS_ (Kd.R_after (ok := (fun k_ => ((P0_0_ k_ ∨ P0_1_ k_) ∨ w.heap.size ≤ k_) ∧ some k_ ≠ (.slice Ao12 l0_0.length co12 : Value).ownBlock ∧ some k_ ≠ (v248 : Value).ownBlock ∧ some k_ ≠ (v251 : Value).ownBlock ∧ some k_ ≠ (.slice Ao66 y256.length co66 : Value).ownBlock)) (by (with_reducible repeat (first | apply rA_ | apply rN_ | apply rD_)); exact Kd.R_mono HO_237001.out (fun _ hk => by first | exact ⟨⟨hk.1, ⟨hk.2.2.2.2.2, ⟨hk.2.1, ⟨hk.2.2.1, hk.2.2.2.2.1⟩⟩⟩⟩, hk.2.2.2.1⟩ | (simp only [hk, ne_eq, not_false_eq_true, and_self]))) hg hat)
                    have n2_ := aS_ (blk_grown (g := gb236) (o := .cells #[.slice Ao12 l0_0.length co12, .slice Ao13 l0_1.length co13] 24 (0, 0)) (by (with_reducible repeat (first | refine kN_ ?_ _ | refine kD_ ?_ | refine kA_ ?_ _)); exact BK236.out) hg (Kd.R_ne HO255.out BK236.out (by decide)))
                    have n3_ := aS_ (blk_grown (g := gb237) (o := .cells #[.slice none 0 0, .slice none 0 0] 24 (0, 0)) (by (with_reducible repeat (first | refine kN_ ?_ _ | refine kD_ ?_ | refine kA_ ?_ _)); exact BK237.out) hg (Kd.R_ne HO255.out BK237.out (by decide)))
                    have n4_ := aS_ (Kd.R_after (ok := (fun k_ => ((P0_0_ k_ ∨ P0_1_ k_) ∨ w.heap.size ≤ k_) ∧ some k_ ≠ (.slice Ao12 l0_0.length co12 : Value).ownBlock ∧ some k_ ≠ (.slice Ao13 l0_1.length co13 : Value).ownBlock ∧ some k_ ≠ (v251 : Value).ownBlock ∧ some k_ ≠ (.slice Ao66 y256.length co66 : Value).ownBlock)) (by (with_reducible repeat (first | apply rA_ | apply rN_ | apply rD_)); exact Kd.R_mono HO249.out (fun _ hk => by first | exact ⟨⟨hk.1, ⟨hk.2.2.2.2.1, ⟨hk.2.2.2.2.2, ⟨hk.2.1, hk.2.2.2.1⟩⟩⟩⟩, hk.2.2.1⟩ | (simp only [hk, ne_eq, not_false_eq_true, and_self]))) hg hat)
                    have n5_ := aS_ (Kd.R_after (ok := (fun k_ => ((P0_0_ k_ ∨ P0_1_ k_) ∨ w.heap.size ≤ k_) ∧ some k_ ≠ (.slice Ao12 l0_0.length co12 : Value).ownBlock ∧ some k_ ≠ (.slice Ao13 l0_1.length co13 : Value).ownBlock ∧ some k_ ≠ (v248 : Value).ownBlock ∧ some k_ ≠ (.slice Ao66 y256.length co66 : Value).ownBlock)) (by (with_reducible repeat (first | apply rA_ | apply rN_ | apply rD_)); exact Kd.R_mono HO252.out (fun _ hk => by first | exact ⟨⟨hk.1, ⟨hk.2.2.2.2.1, ⟨hk.2.2.2.2.2, ⟨hk.2.1, hk.2.2.2.1⟩⟩⟩⟩, hk.2.2.1⟩ | (simp only [hk, ne_eq, not_false_eq_true, and_self]))) hg hat)
                    have n6_ := aS_ (Kd.R_after (ok := (fun k_ => ((P0_0_ k_ ∨ P0_1_ k_) ∨ w.heap.size ≤ k_) ∧ some k_ ≠ (.slice Ao12 l0_0.length co12 : Value).ownBlock ∧ some k_ ≠ (.slice Ao13 l0_1.length co13 : Value).ownBlock ∧ some k_ ≠ (v248 : Value).ownBlock ∧ some k_ ≠ (v251 : Value).ownBlock)) (by (with_reducible repeat (first | apply rA_ | apply rN_ | apply rD_)); exact Kd.R_mono HO258.out (fun _ hk => by first | exact ⟨⟨hk.1, ⟨hk.2.2.2.2.1, ⟨hk.2.2.2.2.2, ⟨hk.2.1, hk.2.2.1⟩⟩⟩⟩, hk.2.2.2.1⟩ | (simp only [hk, ne_eq, not_false_eq_true, and_self]))) hg hat)
                    have n7_ := aS_ (hb)
                    have n8_ := aS_ (Kept.of_grown (S := (fun k_ => P0_0_ k_ ∨ P0_1_ k_)) hg (by repeat (first | (with_reducible first | exact HK.out | apply Kept.alloc | apply Kept.drewN | apply Kept.drew | refine Kept.setCell ?_ (.inr GW236.out) _ | refine Kept.setCell ?_ (.inr GW237.out) _) | exact HK.out)) (fun k_ e_ => (HO255.out.1 k_ e_).1))
                    have n9_ := aS_ (ho)
                    have z_BK262 := fun (h0_ : b 13 = true) (h1_ : b 14 = false) => (show w65.heap[gb262]? = some (.cells #[.slice none 0 0, .slice none 0 0] 24 (0, 0)) from by first | exact (blk_grown (g := gb262) (o := .cells #[.slice none 0 0, .slice none 0 0] 24 (0, 0)) (by (with_reducible repeat (first | refine kN_ ?_ _ | refine kD_ ?_ | refine kA_ ?_ _)); exact (Q_BK262 h0_ h1_)) hg (Kd.R_ne HO255.out (Q_BK262 h0_ h1_) (by decide))))
                    clear HO_237000 HO_237001 BK236 BK237 HO249 HO252 HO258 HB HK HO255
                    have HO_237000 := n0_
                    have HO_237001 := n1_
                    have BK236 := n2_
                    have BK237 := n3_
                    have HO249 := n4_
                    have HO252 := n5_
                    have HO258 := n6_
                    have HB := n7_
                    have HK := n8_
                    have HO261 := n9_
                    clear n0_ n1_ n2_ n3_ n4_ n5_ n6_ n7_ n8_ n9_
                    clear ho hb hg hat
                    obtain ⟨Ao67, co67, eo67⟩ := Kd.R_slice HO261.out
                    (first | subst eo67 | (injection eo67 with f1_ f2_ f3_; have f4_ := f1_.symm; have f5_ := f3_.symm; clear f1_ f2_ f3_; subst f4_; subst f5_))
                    obtain ⟨Ao68, co68, eo68⟩ := Kd.R_slice HO252.out
                    (first | subst eo68 | (injection eo68 with f1_ f2_ f3_; have f4_ := f1_.symm; have f5_ := f3_.symm; clear f1_ f2_ f3_; subst f4_; subst f5_))
                    refine hK.out _ _ ⟨v245, v248, .slice Ao68 y250.length co68, v254, .slice Ao66 y256.length co66, .slice Ao67 y259.length co67, gb262, m12_, m13_, (by rw [ha.out]; exact putSel_upk 7 hb_ rfl rfl rfl), (by (with_reducible repeat (first | apply rA_ | apply rN_ | apply rD_)); exact Kd.R_mono HO_237000.out (fun _ hk => by first | exact ⟨hk.1.1, ⟨hk.1.2.2.1, ⟨hk.1.2.2.2.1, ⟨hk.1.2.2.2.2, ⟨hk.2, hk.1.2.1⟩⟩⟩⟩⟩ | (simp only [hk, ne_eq, not_false_eq_true, and_self]))), (by (with_reducible repeat (first | apply rA_ | apply rN_ | apply rD_)); exact Kd.R_mono HO_237001.out (fun _ hk => by first | exact ⟨hk.1.1, ⟨hk.1.2.2.1, ⟨hk.1.2.2.2.1, ⟨hk.1.2.2.2.2, ⟨hk.2, hk.1.2.1⟩⟩⟩⟩⟩ | (simp only [hk, ne_eq, not_false_eq_true, and_self]))), (by (with_reducible repeat (first | refine kN_ ?_ _ | refine kD_ ?_ | refine kA_ ?_ _)); exact BK236.out), (by (with_reducible repeat (first | refine kN_ ?_ _ | refine kD_ ?_ | refine kA_ ?_ _)); exact BK237.out), (by repeat (first | (with_reducible first | exact HK.out | apply Kept.alloc | apply Kept.drewN | apply Kept.drew | refine Kept.setCell ?_ (.inr GW236.out) _ | refine Kept.setCell ?_ (.inr GW237.out) _) | exact HK.out)), (by repeat (first | (with_reducible first | exact HB.out | apply bA_ | apply pN_ | apply bD_ | refine bS_ ?_ GE236.out | refine bS_ ?_ GE237.out) | exact HB.out)), fun _ h1_ => absurd ((hon 5 (by kernel_rfl)).symm.trans h1_) (by decide), fun _ => (by (with_reducible repeat (first | apply rA_ | apply rN_ | apply rD_)); exact Kd.R_mono HO249.out (fun _ hk => by first | exact ⟨hk.1.1, ⟨hk.1.2.2.2.1, ⟨hk.1.2.2.2.2, ⟨hk.2, ⟨hk.1.2.1, hk.1.2.2.1⟩⟩⟩⟩⟩ | (simp only [hk, ne_eq, not_false_eq_true, and_self]))), fun _ => (by (with_reducible repeat (first | apply rA_ | apply rN_ | apply rD_)); exact Kd.R_mono HO252.out (fun _ hk => by first | exact ⟨hk.1.1, ⟨hk.1.2.2.2.1, ⟨hk.1.2.2.2.2, ⟨hk.2, ⟨hk.1.2.1, hk.1.2.2.1⟩⟩⟩⟩⟩ | (simp only [hk, ne_eq, not_false_eq_true, and_self]))), fun _ h1_ => absurd ((up_self b 11).symm.trans h1_) (by decide), fun _ => (by (with_reducible repeat (first | apply rA_ | apply rN_ | apply rD_)); exact Kd.R_mono HO258.out (fun _ hk => by first | exact ⟨hk.1.1, ⟨hk.1.2.2.2.1, ⟨hk.1.2.2.2.2, ⟨hk.2, ⟨hk.1.2.1, hk.1.2.2.1⟩⟩⟩⟩⟩ | (simp only [hk, ne_eq, not_false_eq_true, and_self]))), fun _ => (by (with_reducible repeat (first | apply rA_ | apply rN_ | apply rD_)); exact Kd.R_mono HO261.out (fun _ hk => by first | exact ⟨hk.1, ⟨hk.2.2.2.1, ⟨hk.2.2.2.2.1, ⟨hk.2.2.2.2.2, ⟨hk.2.1, hk.2.2.1⟩⟩⟩⟩⟩ | (simp only [hk, ne_eq, not_false_eq_true, and_self]))), z_BK262, Q_GW262, Q_GE262, Q_NB236_262, Q_NB262_236, Q_NB237_262, Q_NB262_237, fun h0_ => absurd ((hoff 14 (by kernel_rfl)).symm.trans h0_) (by decide), fun h0_ => absurd ((hoff 12 (by kernel_rfl)).symm.trans h0_) (by decide), Q_X13_, Q_D_HO246_HO249, fun h0_ h1_ h2_ h3_ _ _ _ => absurd ((up_self b 11).symm.trans h3_) (by decide), Q_D_HO246_HO258, fun h0_ h1_ h2_ k_ e1_ e2_ => DN_HO246 h0_ h1_ k_ e2_ e1_, Q_D_HO249_HO252, fun h0_ h1_ h2_ _ _ _ => absurd ((up_self b 11).symm.trans h2_) (by decide), Q_D_HO249_HO258, fun h0_ h1_ k_ e1_ e2_ => DN_HO249 h0_ k_ e2_ e1_, fun h0_ h1_ h2_ _ _ _ => absurd ((up_self b 11).symm.trans h2_) (by decide), Q_D_HO252_HO258, fun h0_ h1_ k_ e1_ e2_ => DN_HO252 h0_ k_ e2_ e1_, fun h0_ h1_ h2_ _ _ _ => absurd ((up_self b 11).symm.trans h1_) (by decide), fun h0_ h1_ k_ e1_ e2_ => DN_HO258 h0_ k_ e2_ e1_⟩
                   refine steps_cons ?_ ?_
                   ·rintro b a w' ⟨v245, v248, v251, v254, v257, v260, gb262, m12_, m13_, ha, Q_HO_237000, Q_HO_237001, Q_BK236, Q_BK237, Q_HK, Q_HB, Q_HO246, Q_HO249, Q_HO252, Q_HO255, Q_HO258, Q_HO261, Q_BK262, Q_GW262, Q_GE262, Q_NB236_262, Q_NB262_236, Q_NB237_262, Q_NB262_237, Q_BK262_e14, Q_X12_, Q_X13_, Q_D_HO246_HO249, Q_D_HO246_HO255, Q_D_HO246_HO258, Q_D_HO246_HO261, Q_D_HO249_HO252, Q_D_HO249_HO255, Q_D_HO249_HO258, Q_D_HO249_HO261, Q_D_HO252_HO255, Q_D_HO252_HO258, Q_D_HO252_HO261, Q_D_HO255_HO258, Q_D_HO258_HO261⟩ hb_ hon hoff
                    refine ⟨_, rfl, fun K hK => ?_⟩
                    have e74 : a.tmps[74]? = some (v251) := by rw [ha]; exact putSel_on (e := (5, 74, v251)) 3 rfl rfl (hon 5 (by kernel_rfl)) rfl
                    have e80 : a.tmps[80]? = some (v260) := by rw [ha]; exact putSel_on (e := (11, 80, v260)) 7 rfl rfl (hon 11 (by kernel_rfl)) rfl
                    replace ha := aS_ ha
                    have HO_237000 := aS_ Q_HO_237000
                    have HO_237001 := aS_ Q_HO_237001
                    have BK236 := aS_ Q_BK236
                    have BK237 := aS_ Q_BK237
                    have HK := aS_ Q_HK
                    have HB := aS_ Q_HB
                    have HO249 := aS_ (Q_HO249 (hon 4 (by kernel_rfl)))
                    have HO252 := aS_ (Q_HO252 (hon 5 (by kernel_rfl)))
                    have HO258 := aS_ (Q_HO258 (hon 10 (by kernel_rfl)))
                    have HO261 := aS_ (Q_HO261 (hon 11 (by kernel_rfl)))
                    have R_HO_237000 := aS_ (Kd.R_reok rfl (ok := (fun k_ => ((P0_0_ k_ ∨ P0_1_ k_) ∨ w.heap.size ≤ k_) ∧ some k_ ≠ (v248 : Value).ownBlock ∧ some k_ ≠ (v251 : Value).ownBlock ∧ some k_ ≠ (v257 : Value).ownBlock ∧ some k_ ≠ (v260 : Value).ownBlock ∧ some k_ ≠ (.slice Ao13 l0_1.length co13 : Value).ownBlock)) (Q_HO_237000) (fun k_ e_ => ⟨((Q_HO_237000).1 k_ e_).1, (fun q_ => ((Q_HO249 (hon 4 (by kernel_rfl))).1 k_ q_.symm).2.1 e_.symm), (fun q_ => ((Q_HO252 (hon 5 (by kernel_rfl))).1 k_ q_.symm).2.1 e_.symm), (fun q_ => ((Q_HO258 (hon 10 (by kernel_rfl))).1 k_ q_.symm).2.1 e_.symm), (fun q_ => ((Q_HO261 (hon 11 (by kernel_rfl))).1 k_ q_.symm).2.1 e_.symm), ((Q_HO_237000).1 k_ e_).2⟩))
                    have R_HO_237001 := aS_ (Kd.R_reok rfl (ok := (fun k_ => ((P0_0_ k_ ∨ P0_1_ k_) ∨ w.heap.size ≤ k_) ∧ some k_ ≠ (v248 : Value).ownBlock ∧ some k_ ≠ (v251 : Value).ownBlock ∧ some k_ ≠ (v257 : Value).ownBlock ∧ some k_ ≠ (v260 : Value).ownBlock ∧ some k_ ≠ (.slice Ao12 l0_0.length co12 : Value).ownBlock)) (Q_HO_237001) (fun k_ e_ => ⟨((Q_HO_237001).1 k_ e_).1, (fun q_ => ((Q_HO249 (hon 4 (by kernel_rfl))).1 k_ q_.symm).2.2 e_.symm), (fun q_ => ((Q_HO252 (hon 5 (by kernel_rfl))).1 k_ q_.symm).2.2 e_.symm), (fun q_ => ((Q_HO258 (hon 10 (by kernel_rfl))).1 k_ q_.symm).2.2 e_.symm), (fun q_ => ((Q_HO261 (hon 11 (by kernel_rfl))).1 k_ q_.symm).2.2 e_.symm), ((Q_HO_237001).1 k_ e_).2⟩))
                    have R_HO249 := aS_ (Kd.R_reok rfl (ok := (fun k_ => ((P0_0_ k_ ∨ P0_1_ k_) ∨ w.heap.size ≤ k_) ∧ some k_ ≠ (v251 : Value).ownBlock ∧ some k_ ≠ (v257 : Value).ownBlock ∧ some k_ ≠ (v260 : Value).ownBlock ∧ some k_ ≠ (.slice Ao12 l0_0.length co12 : Value).ownBlock ∧ some k_ ≠ (.slice Ao13 l0_1.length co13 : Value).ownBlock)) (Q_HO249 (hon 4 (by kernel_rfl))) (fun k_ e_ => ⟨((Q_HO249 (hon 4 (by kernel_rfl))).1 k_ e_).1, (fun q_ => (Q_D_HO249_HO252 (hon 4 (by kernel_rfl)) (hon 5 (by kernel_rfl))) k_ e_ q_.symm), (fun q_ => (Q_D_HO249_HO258 (hon 4 (by kernel_rfl)) (hon 10 (by kernel_rfl))) k_ e_ q_.symm), (fun q_ => (Q_D_HO249_HO261 (hon 4 (by kernel_rfl)) (hon 11 (by kernel_rfl))) k_ e_ q_.symm), ((Q_HO249 (hon 4 (by kernel_rfl))).1 k_ e_).2.1, ((Q_HO249 (hon 4 (by kernel_rfl))).1 k_ e_).2.2⟩))
                    have R_HO252 := aS_ (Kd.R_reok rfl (ok := (fun k_ => ((P0_0_ k_ ∨ P0_1_ k_) ∨ w.heap.size ≤ k_) ∧ some k_ ≠ (v248 : Value).ownBlock ∧ some k_ ≠ (v257 : Value).ownBlock ∧ some k_ ≠ (v260 : Value).ownBlock ∧ some k_ ≠ (.slice Ao12 l0_0.length co12 : Value).ownBlock ∧ some k_ ≠ (.slice Ao13 l0_1.length co13 : Value).ownBlock)) (Q_HO252 (hon 5 (by kernel_rfl))) (fun k_ e_ => ⟨((Q_HO252 (hon 5 (by kernel_rfl))).1 k_ e_).1, (fun q_ => (Q_D_HO249_HO252 (hon 4 (by kernel_rfl)) (hon 5 (by kernel_rfl))) k_ q_.symm e_), (fun q_ => (Q_D_HO252_HO258 (hon 5 (by kernel_rfl)) (hon 10 (by kernel_rfl))) k_ e_ q_.symm), (fun q_ => (Q_D_HO252_HO261 (hon 5 (by kernel_rfl)) (hon 11 (by kernel_rfl))) k_ e_ q_.symm), ((Q_HO252 (hon 5 (by kernel_rfl))).1 k_ e_).2.1, ((Q_HO252 (hon 5 (by kernel_rfl))).1 k_ e_).2.2⟩))
                    have R_HO258 := aS_ (Kd.R_reok rfl (ok := (fun k_ => ((P0_0_ k_ ∨ P0_1_ k_) ∨ w.heap.size ≤ k_) ∧ some k_ ≠ (v248 : Value).ownBlock ∧ some k_ ≠ (v251 : Value).ownBlock ∧ some k_ ≠ (v260 : Value).ownBlock ∧ some k_ ≠ (.slice Ao12 l0_0.length co12 : Value).ownBlock ∧ some k_ ≠ (.slice Ao13 l0_1.length co13 : Value).ownBlock)) (Q_HO258 (hon 10 (by kernel_rfl))) (fun k_ e_ => ⟨((Q_HO258 (hon 10 (by kernel_rfl))).1 k_ e_).1, (fun q_ => (Q_D_HO249_HO258 (hon 4 (by kernel_rfl)) (hon 10 (by kernel_rfl))) k_ q_.symm e_), (fun q_ => (Q_D_HO252_HO258 (hon 5 (by kernel_rfl)) (hon 10 (by kernel_rfl))) k_ q_.symm e_), (fun q_ => (Q_D_HO258_HO261 (hon 10 (by kernel_rfl)) (hon 11 (by kernel_rfl))) k_ e_ q_.symm), ((Q_HO258 (hon 10 (by kernel_rfl))).1 k_ e_).2.1, ((Q_HO258 (hon 10 (by kernel_rfl))).1 k_ e_).2.2⟩))
                    have R_HO261 := aS_ (Kd.R_reok rfl (ok := (fun k_ => ((P0_0_ k_ ∨ P0_1_ k_) ∨ w.heap.size ≤ k_) ∧ some k_ ≠ (v248 : Value).ownBlock ∧ some k_ ≠ (v251 : Value).ownBlock ∧ some k_ ≠ (v257 : Value).ownBlock ∧ some k_ ≠ (.slice Ao12 l0_0.length co12 : Value).ownBlock ∧ some k_ ≠ (.slice Ao13 l0_1.length co13 : Value).ownBlock)) (Q_HO261 (hon 11 (by kernel_rfl))) (fun k_ e_ => ⟨((Q_HO261 (hon 11 (by kernel_rfl))).1 k_ e_).1, (fun q_ => (Q_D_HO249_HO261 (hon 4 (by kernel_rfl)) (hon 11 (by kernel_rfl))) k_ q_.symm e_), (fun q_ => (Q_D_HO252_HO261 (hon 5 (by kernel_rfl)) (hon 11 (by kernel_rfl))) k_ q_.symm e_), (fun q_ => (Q_D_HO258_HO261 (hon 10 (by kernel_rfl)) (hon 11 (by kernel_rfl))) k_ q_.symm e_), ((Q_HO261 (hon 11 (by kernel_rfl))).1 k_ e_).2.1, ((Q_HO261 (hon 11 (by kernel_rfl))).1 k_ e_).2.2⟩))
                    clear HO_237000
                    have HO_237000 := R_HO_237000
                    clear R_HO_237000 HO_237001
                    have HO_237001 := R_HO_237001
                    clear R_HO_237001 HO249
                    have HO249 := R_HO249
                    clear R_HO249 HO252
                    have HO252 := R_HO252
                    clear R_HO252 HO258
                    have HO258 := R_HO258
                    clear R_HO258 HO261
                    have HO261 := R_HO261
                    clear R_HO261
                    obtain ⟨Ao12_0, co12_0, eo_⟩ := Kd.R_slice HO252.out
                    subst eo_
                    obtain ⟨Ao12_1, co12_1, eo_⟩ := Kd.R_slice HO261.out
                    subst eo_
                    refine value_ (w1 := w') (v := .agg #[.slice Ao12_0 y250.length co12_0, .slice Ao12_1 y259.length co12_1]) (by rfl) rfl ?_ ?_
                    ·go_simp
                     (try simp only [i64_w])
                     try rfl
                    refine hK.out _ _ ⟨v245, v248, .slice Ao12_0 y250.length co12_0, v254, v257, .slice Ao12_1 y259.length co12_1, gb262, (.agg #[.slice Ao12_0 y250.length co12_0, .slice Ao12_1 y259.length co12_1]), m13_, (by rw [ha.out]; exact putSel_upk 8 hb_ rfl rfl rfl), Q_HO_237000, Q_HO_237001, Q_BK236, Q_BK237, Q_HK, Q_HB, fun _ h1_ => absurd ((hon 5 (by kernel_rfl)).symm.trans h1_) (by decide), Q_HO249, Q_HO252, fun _ h1_ => absurd ((hon 11 (by kernel_rfl)).symm.trans h1_) (by decide), Q_HO258, Q_HO261, Q_BK262, Q_GW262, Q_GE262, Q_NB236_262, Q_NB262_236, Q_NB237_262, Q_NB262_237, fun h0_ => absurd ((hoff 14 (by kernel_rfl)).symm.trans h0_) (by decide), fun _ => rfl, Q_X13_, Q_D_HO246_HO249, Q_D_HO246_HO255, Q_D_HO246_HO258, Q_D_HO246_HO261, Q_D_HO249_HO252, Q_D_HO249_HO255, Q_D_HO249_HO258, Q_D_HO249_HO261, Q_D_HO252_HO255, Q_D_HO252_HO258, Q_D_HO252_HO261, Q_D_HO255_HO258, Q_D_HO258_HO261⟩
                   refine steps_cons ?_ ?_
                   ·rintro b a w' ⟨v245, v248, v251, v254, v257, v260, gb262, m12_, m13_, ha, Q_HO_237000, Q_HO_237001, Q_BK236, Q_BK237, Q_HK, Q_HB, Q_HO246, Q_HO249, Q_HO252, Q_HO255, Q_HO258, Q_HO261, Q_BK262, Q_GW262, Q_GE262, Q_NB236_262, Q_NB262_236, Q_NB237_262, Q_NB262_237, Q_BK262_e14, Q_X12_, Q_X13_, Q_D_HO246_HO249, Q_D_HO246_HO255, Q_D_HO246_HO258, Q_D_HO246_HO261, Q_D_HO249_HO252, Q_D_HO249_HO255, Q_D_HO249_HO258, Q_D_HO249_HO261, Q_D_HO252_HO255, Q_D_HO252_HO258, Q_D_HO252_HO261, Q_D_HO255_HO258, Q_D_HO258_HO261⟩ hb_ hon hoff
                    refine ⟨_, rfl, fun K hK => ?_⟩
                    replace ha := aS_ ha
                    have HO_237000 := aS_ Q_HO_237000
                    have HO_237001 := aS_ Q_HO_237001
                    have BK236 := aS_ Q_BK236
                    have BK237 := aS_ Q_BK237
                    have HK := aS_ Q_HK
                    have HB := aS_ Q_HB
                    refine box_step ?hg (N := 11) ?hd (cs := #[.slice none 0 0, .slice none 0 0]) (t := 24) ?hr ?_; (case hd => rfl); (case hg => rfl); (case hr => first | (go_simp; done) | (go_simp; rfl))
                    intro gb262 hg w56 hbox hb
                    have n0_ := aS_ (Kd.R_below (by (with_reducible repeat (first | apply rA_ | apply rN_ | apply rD_)); exact HO_237000.out) hb)
                    have n1_ := aS_ (Kd.R_below (by (with_reducible repeat (first | apply rA_ | apply rN_ | apply rD_)); exact HO_237001.out) hb)
                    have n2_ := aS_ (blk_below (g := gb236) (o := .cells #[.slice Ao12 l0_0.length co12, .slice Ao13 l0_1.length co13] 24 (0, 0)) (by (with_reducible repeat (first | refine kN_ ?_ _ | refine kD_ ?_ | refine kA_ ?_ _)); exact BK236.out) hb)
                    have n3_ := aS_ (blk_below (g := gb237) (o := .cells #[.slice none 0 0, .slice none 0 0] 24 (0, 0)) (by (with_reducible repeat (first | refine kN_ ?_ _ | refine kD_ ?_ | refine kA_ ?_ _)); exact BK237.out) hb)
                    have n4_ := aS_ (Kept.below (S := (fun k_ => P0_0_ k_ ∨ P0_1_ k_)) (by repeat (first | (with_reducible first | exact HK.out | apply Kept.alloc | apply Kept.drewN | apply Kept.drew | refine Kept.setCell ?_ (.inr GW236.out) _ | refine Kept.setCell ?_ (.inr GW237.out) _) | exact HK.out)) hb)
                    have n5_ := aS_ (below_step (by repeat (first | (with_reducible first | exact HB.out | apply bA_ | apply pN_ | apply bD_ | refine bS_ ?_ GE236.out | refine bS_ ?_ GE237.out) | exact HB.out)) hb)
                    have n6_ := aS_ (hbox)
                    have n7_ := aS_ ((by rw [hg]; exact (by first | exact HK.out.1 | exact (show Kept w _ (fun k_ => P0_0_ k_ ∨ P0_1_ k_) from by repeat (first | (with_reducible first | exact HK.out | apply Kept.alloc | apply Kept.drewN | apply Kept.drew | refine Kept.setCell ?_ (.inr GW236.out) _ | refine Kept.setCell ?_ (.inr GW237.out) _) | exact HK.out)).1) : w.heap.size ≤ gb262))
                    have n8_ := aS_ ((by rw [hg]; exact (below_size (by repeat (first | (with_reducible first | exact HB.out | apply bA_ | apply pN_ | apply bD_ | refine bS_ ?_ GE236.out | refine bS_ ?_ GE237.out) | exact HB.out))) : w0.heap.size ≤ gb262))
                    have n9_ := aS_ ((by rw [hg]; exact Nat.ne_of_lt (blk_lt (g := gb236) (o := .cells #[.slice Ao12 l0_0.length co12, .slice Ao13 l0_1.length co13] 24 (0, 0)) (by (with_reducible repeat (first | refine kN_ ?_ _ | refine kD_ ?_ | refine kA_ ?_ _)); exact BK236.out)) : gb236 ≠ gb262))
                    have n10_ := aS_ ((by rw [hg]; exact Nat.ne_of_gt (blk_lt (g := gb236) (o := .cells #[.slice Ao12 l0_0.length co12, .slice Ao13 l0_1.length co13] 24 (0, 0)) (by (with_reducible repeat (first | refine kN_ ?_ _ | refine kD_ ?_ | refine kA_ ?_ _)); exact BK236.out)) : gb262 ≠ gb236))
                    have n11_ := aS_ ((by rw [hg]; exact Nat.ne_of_lt (blk_lt (g := gb237) (o := .cells #[.slice none 0 0, .slice none 0 0] 24 (0, 0)) (by (with_reducible repeat (first | refine kN_ ?_ _ | refine kD_ ?_ | refine kA_ ?_ _)); exact BK237.out)) : gb237 ≠ gb262))
                    have n12_ := aS_ ((by rw [hg]; exact Nat.ne_of_gt (blk_lt (g := gb237) (o := .cells #[.slice none 0 0, .slice none 0 0] 24 (0, 0)) (by (with_reducible repeat (first | refine kN_ ?_ _ | refine kD_ ?_ | refine kA_ ?_ _)); exact BK237.out)) : gb262 ≠ gb237))
                    have z_HO246 := fun (h0_ : b 2 = true) (h1_ : b 5 = false) => (show Kd.R (Kd.int .i64) 3 w56 w0.heap.size (fun k_ => ((P0_0_ k_ ∨ P0_1_ k_) ∨ w.heap.size ≤ k_) ∧ some k_ ≠ (.slice Ao12 l0_0.length co12 : Value).ownBlock ∧ some k_ ≠ (.slice Ao13 l0_1.length co13 : Value).ownBlock) v245 t244 from by first | exact (Kd.R_below (by (with_reducible repeat (first | apply rA_ | apply rN_ | apply rD_)); exact (Q_HO246 h0_ h1_)) hb) | exact Kd.R_mono (Kd.R_below (by (with_reducible repeat (first | apply rA_ | apply rN_ | apply rD_)); exact (Q_HO246 h0_ h1_)) hb) (fun _ hk => by first | trivial | exact hk | exact hk.1 | (simp only [hk, ne_eq, not_false_eq_true, and_self])))
                    have z_HO249 := fun (h0_ : b 4 = true) => (show Kd.R (Kd.int .i64) 3 w56 w0.heap.size (fun k_ => ((P0_0_ k_ ∨ P0_1_ k_) ∨ w.heap.size ≤ k_) ∧ some k_ ≠ (.slice Ao12 l0_0.length co12 : Value).ownBlock ∧ some k_ ≠ (.slice Ao13 l0_1.length co13 : Value).ownBlock) v248 y247 from by first | exact (Kd.R_below (by (with_reducible repeat (first | apply rA_ | apply rN_ | apply rD_)); exact (Q_HO249 h0_)) hb) | exact Kd.R_mono (Kd.R_below (by (with_reducible repeat (first | apply rA_ | apply rN_ | apply rD_)); exact (Q_HO249 h0_)) hb) (fun _ hk => by first | trivial | exact hk | exact hk.1 | (simp only [hk, ne_eq, not_false_eq_true, and_self])))
                    have z_HO252 := fun (h0_ : b 5 = true) => (show Kd.R (Kd.int .i64) 3 w56 w0.heap.size (fun k_ => ((P0_0_ k_ ∨ P0_1_ k_) ∨ w.heap.size ≤ k_) ∧ some k_ ≠ (.slice Ao12 l0_0.length co12 : Value).ownBlock ∧ some k_ ≠ (.slice Ao13 l0_1.length co13 : Value).ownBlock) v251 y250 from by first | exact (Kd.R_below (by (with_reducible repeat (first | apply rA_ | apply rN_ | apply rD_)); exact (Q_HO252 h0_)) hb) | exact Kd.R_mono (Kd.R_below (by (with_reducible repeat (first | apply rA_ | apply rN_ | apply rD_)); exact (Q_HO252 h0_)) hb) (fun _ hk => by first | trivial | exact hk | exact hk.1 | (simp only [hk, ne_eq, not_false_eq_true, and_self])))
                    have z_HO255 := fun (h0_ : b 8 = true) (h1_ : b 11 = false) => (show Kd.R (Kd.int .i64) 3 w56 w0.heap.size (fun k_ => ((P0_0_ k_ ∨ P0_1_ k_) ∨ w.heap.size ≤ k_) ∧ some k_ ≠ (.slice Ao12 l0_0.length co12 : Value).ownBlock ∧ some k_ ≠ (.slice Ao13 l0_1.length co13 : Value).ownBlock) v254 t253 from by first | exact (Kd.R_below (by (with_reducible repeat (first | apply rA_ | apply rN_ | apply rD_)); exact (Q_HO255 h0_ h1_)) hb) | exact Kd.R_mono (Kd.R_below (by (with_reducible repeat (first | apply rA_ | apply rN_ | apply rD_)); exact (Q_HO255 h0_ h1_)) hb) (fun _ hk => by first | trivial | exact hk | exact hk.1 | (simp only [hk, ne_eq, not_false_eq_true, and_self])))
                    have z_HO258 := fun (h0_ : b 10 = true) => (show Kd.R (Kd.int .i64) 3 w56 w0.heap.size (fun k_ => ((P0_0_ k_ ∨ P0_1_ k_) ∨ w.heap.size ≤ k_) ∧ some k_ ≠ (.slice Ao12 l0_0.length co12 : Value).ownBlock ∧ some k_ ≠ (.slice Ao13 l0_1.length co13 : Value).ownBlock) v257 y256 from by first | exact (Kd.R_below (by (with_reducible repeat (first | apply rA_ | apply rN_ | apply rD_)); exact (Q_HO258 h0_)) hb) | exact Kd.R_mono (Kd.R_below (by (with_reducible repeat (first | apply rA_ | apply rN_ | apply rD_)); exact (Q_HO258 h0_)) hb) (fun _ hk => by first | trivial | exact hk | exact hk.1 | (simp only [hk, ne_eq, not_false_eq_true, and_self])))
                    have z_HO261 := fun (h0_ : b 11 = true) => (show Kd.R (Kd.int .i64) 3 w56 w0.heap.size (fun k_ => ((P0_0_ k_ ∨ P0_1_ k_) ∨ w.heap.size ≤ k_) ∧ some k_ ≠ (.slice Ao12 l0_0.length co12 : Value).ownBlock ∧ some k_ ≠ (.slice Ao13 l0_1.length co13 : Value).ownBlock) v260 y259 from by first | exact (Kd.R_below (by (with_reducible repeat (first | apply rA_ | apply rN_ | apply rD_)); exact (Q_HO261 h0_)) hb) | exact Kd.R_mono (Kd.R_below (by (with_reducible repeat (first | apply rA_ | apply rN_ | apply rD_)); exact (Q_HO261 h0_)) hb) (fun _ hk => by first | trivial | exact hk | exact hk.1 | (simp only [hk, ne_eq, not_false_eq_true, and_self])))
                    clear HO_237000 HO_237001 BK236 BK237 HK HB
                    have HO_237000 := n0_
                    have HO_237001 := n1_
                    have BK236 := n2_
                    have BK237 := n3_
                    have HK := n4_
                    have HB := n5_
                    have BK262 := n6_
                    have GW262 := n7_
                    have GE262 := n8_
                    have NB236_262 := n9_
                    have NB262_236 := n10_
                    have NB237_262 := n11_
                    have NB262_237 := n12_
                    clear n0_ n1_ n2_ n3_ n4_ n5_ n6_ n7_ n8_ n9_ n10_ n11_ n12_
                    clear hb hbox hg
                    refine hK.out _ _ ⟨v245, v248, v251, v254, v257, v260, gb262, m12_, (.pointer (some ⟨gb262, 0, none⟩)), (by rw [ha.out]; exact putSel_upk 9 hb_ rfl rfl rfl), (by (with_reducible repeat (first | apply rA_ | apply rN_ | apply rD_)); exact HO_237000.out), (by (with_reducible repeat (first | apply rA_ | apply rN_ | apply rD_)); exact HO_237001.out), (by (with_reducible repeat (first | refine kN_ ?_ _ | refine kD_ ?_ | refine kA_ ?_ _)); exact BK236.out), (by (with_reducible repeat (first | refine kN_ ?_ _ | refine kD_ ?_ | refine kA_ ?_ _)); exact BK237.out), (by repeat (first | (with_reducible first | exact HK.out | apply Kept.alloc | apply Kept.drewN | apply Kept.drew | refine Kept.setCell ?_ (.inr GW236.out) _ | refine Kept.setCell ?_ (.inr GW237.out) _ | refine Kept.setCell ?_ (.inr GW262.out) _) | exact HK.out)), (by repeat (first | (with_reducible first | exact HB.out | apply bA_ | apply pN_ | apply bD_ | refine bS_ ?_ GE236.out | refine bS_ ?_ GE237.out | refine bS_ ?_ GE262.out) | exact HB.out)), z_HO246, z_HO249, z_HO252, z_HO255, z_HO258, z_HO261, fun _ _ => (by (with_reducible repeat (first | refine kN_ ?_ _ | refine kD_ ?_ | refine kA_ ?_ _)); exact BK262.out), fun _ => GW262.out, fun _ => GE262.out, fun _ => NB236_262.out, fun _ => NB262_236.out, fun _ => NB237_262.out, fun _ => NB262_237.out, fun h0_ => absurd ((hoff 14 (by kernel_rfl)).symm.trans h0_) (by decide), Q_X12_, fun _ => rfl, Q_D_HO246_HO249, Q_D_HO246_HO255, Q_D_HO246_HO258, Q_D_HO246_HO261, Q_D_HO249_HO252, Q_D_HO249_HO255, Q_D_HO249_HO258, Q_D_HO249_HO261, Q_D_HO252_HO255, Q_D_HO252_HO258, Q_D_HO252_HO261, Q_D_HO255_HO258, Q_D_HO258_HO261⟩
                   refine steps_cons ?_ ?_
                   ·rintro b a w' ⟨v245, v248, v251, v254, v257, v260, gb262, m12_, m13_, ha, Q_HO_237000, Q_HO_237001, Q_BK236, Q_BK237, Q_HK, Q_HB, Q_HO246, Q_HO249, Q_HO252, Q_HO255, Q_HO258, Q_HO261, Q_BK262, Q_GW262, Q_GE262, Q_NB236_262, Q_NB262_236, Q_NB237_262, Q_NB262_237, Q_BK262_e14, Q_X12_, Q_X13_, Q_D_HO246_HO249, Q_D_HO246_HO255, Q_D_HO246_HO258, Q_D_HO246_HO261, Q_D_HO249_HO252, Q_D_HO249_HO255, Q_D_HO249_HO258, Q_D_HO249_HO261, Q_D_HO252_HO255, Q_D_HO252_HO258, Q_D_HO252_HO261, Q_D_HO255_HO258, Q_D_HO258_HO261⟩ hb_ hon hoff
                    refine ⟨_, rfl, fun K hK => ?_⟩
                    have e11 : a.tmps[11]? = some (m13_) := by rw [ha]; exact putSel_on (e := (13, 11, m13_)) 9 rfl rfl (hon 13 (by kernel_rfl)) rfl
                    rw [Q_X13_ (hon 13 (by kernel_rfl))] at e11
                    have e81 : a.tmps[81]? = some (m12_) := by rw [ha]; exact putSel_on (e := (12, 81, m12_)) 8 rfl rfl (hon 12 (by kernel_rfl)) rfl
                    rw [Q_X12_ (hon 12 (by kernel_rfl))] at e81
                    replace ha := aS_ ha
                    have HO_237000 := aS_ Q_HO_237000
                    have HO_237001 := aS_ Q_HO_237001
                    have BK236 := aS_ Q_BK236
                    have BK237 := aS_ Q_BK237
                    have HK := aS_ Q_HK
                    have HB := aS_ Q_HB
                    have HO249 := aS_ (Q_HO249 (hon 4 (by kernel_rfl)))
                    have HO252 := aS_ (Q_HO252 (hon 5 (by kernel_rfl)))
                    have HO258 := aS_ (Q_HO258 (hon 10 (by kernel_rfl)))
                    have HO261 := aS_ (Q_HO261 (hon 11 (by kernel_rfl)))
                    have R_HO_237000 := aS_ (Kd.R_reok rfl (ok := (fun k_ => ((P0_0_ k_ ∨ P0_1_ k_) ∨ w.heap.size ≤ k_) ∧ some k_ ≠ (v248 : Value).ownBlock ∧ some k_ ≠ (v251 : Value).ownBlock ∧ some k_ ≠ (v257 : Value).ownBlock ∧ some k_ ≠ (v260 : Value).ownBlock ∧ some k_ ≠ (.slice Ao13 l0_1.length co13 : Value).ownBlock)) (Q_HO_237000) (fun k_ e_ => ⟨((Q_HO_237000).1 k_ e_).1, (fun q_ => ((Q_HO249 (hon 4 (by kernel_rfl))).1 k_ q_.symm).2.1 e_.symm), (fun q_ => ((Q_HO252 (hon 5 (by kernel_rfl))).1 k_ q_.symm).2.1 e_.symm), (fun q_ => ((Q_HO258 (hon 10 (by kernel_rfl))).1 k_ q_.symm).2.1 e_.symm), (fun q_ => ((Q_HO261 (hon 11 (by kernel_rfl))).1 k_ q_.symm).2.1 e_.symm), ((Q_HO_237000).1 k_ e_).2⟩))
                    have R_HO_237001 := aS_ (Kd.R_reok rfl (ok := (fun k_ => ((P0_0_ k_ ∨ P0_1_ k_) ∨ w.heap.size ≤ k_) ∧ some k_ ≠ (v248 : Value).ownBlock ∧ some k_ ≠ (v251 : Value).ownBlock ∧ some k_ ≠ (v257 : Value).ownBlock ∧ some k_ ≠ (v260 : Value).ownBlock ∧ some k_ ≠ (.slice Ao12 l0_0.length co12 : Value).ownBlock)) (Q_HO_237001) (fun k_ e_ => ⟨((Q_HO_237001).1 k_ e_).1, (fun q_ => ((Q_HO249 (hon 4 (by kernel_rfl))).1 k_ q_.symm).2.2 e_.symm), (fun q_ => ((Q_HO252 (hon 5 (by kernel_rfl))).1 k_ q_.symm).2.2 e_.symm), (fun q_ => ((Q_HO258 (hon 10 (by kernel_rfl))).1 k_ q_.symm).2.2 e_.symm), (fun q_ => ((Q_HO261 (hon 11 (by kernel_rfl))).1 k_ q_.symm).2.2 e_.symm), ((Q_HO_237001).1 k_ e_).2⟩))
                    have R_HO249 := aS_ (Kd.R_reok rfl (ok := (fun k_ => ((P0_0_ k_ ∨ P0_1_ k_) ∨ w.heap.size ≤ k_) ∧ some k_ ≠ (v251 : Value).ownBlock ∧ some k_ ≠ (v257 : Value).ownBlock ∧ some k_ ≠ (v260 : Value).ownBlock ∧ some k_ ≠ (.slice Ao12 l0_0.length co12 : Value).ownBlock ∧ some k_ ≠ (.slice Ao13 l0_1.length co13 : Value).ownBlock)) (Q_HO249 (hon 4 (by kernel_rfl))) (fun k_ e_ => ⟨((Q_HO249 (hon 4 (by kernel_rfl))).1 k_ e_).1, (fun q_ => (Q_D_HO249_HO252 (hon 4 (by kernel_rfl)) (hon 5 (by kernel_rfl))) k_ e_ q_.symm), (fun q_ => (Q_D_HO249_HO258 (hon 4 (by kernel_rfl)) (hon 10 (by kernel_rfl))) k_ e_ q_.symm), (fun q_ => (Q_D_HO249_HO261 (hon 4 (by kernel_rfl)) (hon 11 (by kernel_rfl))) k_ e_ q_.symm), ((Q_HO249 (hon 4 (by kernel_rfl))).1 k_ e_).2.1, ((Q_HO249 (hon 4 (by kernel_rfl))).1 k_ e_).2.2⟩))
                    have R_HO252 := aS_ (Kd.R_reok rfl (ok := (fun k_ => ((P0_0_ k_ ∨ P0_1_ k_) ∨ w.heap.size ≤ k_) ∧ some k_ ≠ (v248 : Value).ownBlock ∧ some k_ ≠ (v257 : Value).ownBlock ∧ some k_ ≠ (v260 : Value).ownBlock ∧ some k_ ≠ (.slice Ao12 l0_0.length co12 : Value).ownBlock ∧ some k_ ≠ (.slice Ao13 l0_1.length co13 : Value).ownBlock)) (Q_HO252 (hon 5 (by kernel_rfl))) (fun k_ e_ => ⟨((Q_HO252 (hon 5 (by kernel_rfl))).1 k_ e_).1, (fun q_ => (Q_D_HO249_HO252 (hon 4 (by kernel_rfl)) (hon 5 (by kernel_rfl))) k_ q_.symm e_), (fun q_ => (Q_D_HO252_HO258 (hon 5 (by kernel_rfl)) (hon 10 (by kernel_rfl))) k_ e_ q_.symm), (fun q_ => (Q_D_HO252_HO261 (hon 5 (by kernel_rfl)) (hon 11 (by kernel_rfl))) k_ e_ q_.symm), ((Q_HO252 (hon 5 (by kernel_rfl))).1 k_ e_).2.1, ((Q_HO252 (hon 5 (by kernel_rfl))).1 k_ e_).2.2⟩))
                    have R_HO258 := aS_ (Kd.R_reok rfl (ok := (fun k_ => ((P0_0_ k_ ∨ P0_1_ k_) ∨ w.heap.size ≤ k_) ∧ some k_ ≠ (v248 : Value).ownBlock ∧ some k_ ≠ (v251 : Value).ownBlock ∧ some k_ ≠ (v260 : Value).ownBlock ∧ some k_ ≠ (.slice Ao12 l0_0.length co12 : Value).ownBlock ∧ some k_ ≠ (.slice Ao13 l0_1.length co13 : Value).ownBlock)) (Q_HO258 (hon 10 (by kernel_rfl))) (fun k_ e_ => ⟨((Q_HO258 (hon 10 (by kernel_rfl))).1 k_ e_).1, (fun q_ => (Q_D_HO249_HO258 (hon 4 (by kernel_rfl)) (hon 10 (by kernel_rfl))) k_ q_.symm e_), (fun q_ => (Q_D_HO252_HO258 (hon 5 (by kernel_rfl)) (hon 10 (by kernel_rfl))) k_ q_.symm e_), (fun q_ => (Q_D_HO258_HO261 (hon 10 (by kernel_rfl)) (hon 11 (by kernel_rfl))) k_ e_ q_.symm), ((Q_HO258 (hon 10 (by kernel_rfl))).1 k_ e_).2.1, ((Q_HO258 (hon 10 (by kernel_rfl))).1 k_ e_).2.2⟩))
                    have R_HO261 := aS_ (Kd.R_reok rfl (ok := (fun k_ => ((P0_0_ k_ ∨ P0_1_ k_) ∨ w.heap.size ≤ k_) ∧ some k_ ≠ (v248 : Value).ownBlock ∧ some k_ ≠ (v251 : Value).ownBlock ∧ some k_ ≠ (v257 : Value).ownBlock ∧ some k_ ≠ (.slice Ao12 l0_0.length co12 : Value).ownBlock ∧ some k_ ≠ (.slice Ao13 l0_1.length co13 : Value).ownBlock)) (Q_HO261 (hon 11 (by kernel_rfl))) (fun k_ e_ => ⟨((Q_HO261 (hon 11 (by kernel_rfl))).1 k_ e_).1, (fun q_ => (Q_D_HO249_HO261 (hon 4 (by kernel_rfl)) (hon 11 (by kernel_rfl))) k_ q_.symm e_), (fun q_ => (Q_D_HO252_HO261 (hon 5 (by kernel_rfl)) (hon 11 (by kernel_rfl))) k_ q_.symm e_), (fun q_ => (Q_D_HO258_HO261 (hon 10 (by kernel_rfl)) (hon 11 (by kernel_rfl))) k_ q_.symm e_), ((Q_HO261 (hon 11 (by kernel_rfl))).1 k_ e_).2.1, ((Q_HO261 (hon 11 (by kernel_rfl))).1 k_ e_).2.2⟩))
                    clear HO_237000
                    have HO_237000 := R_HO_237000
                    clear R_HO_237000 HO_237001
                    have HO_237001 := R_HO_237001
                    clear R_HO_237001 HO249
                    have HO249 := R_HO249
                    clear R_HO249 HO252
                    have HO252 := R_HO252
                    clear R_HO252 HO258
                    have HO258 := R_HO258
                    clear R_HO258 HO261
                    have HO261 := R_HO261
                    clear R_HO261
                    have BK262 := aS_ (Q_BK262 (hon 13 (by kernel_rfl)) hb_)
                    have GW262 := aS_ (Q_GW262 (hon 13 (by kernel_rfl)))
                    have GE262 := aS_ (Q_GE262 (hon 13 (by kernel_rfl)))
                    have NB236_262 := aS_ (Q_NB236_262 (hon 13 (by kernel_rfl)))
                    have NB262_236 := aS_ (Q_NB262_236 (hon 13 (by kernel_rfl)))
                    have NB237_262 := aS_ (Q_NB237_262 (hon 13 (by kernel_rfl)))
                    have NB262_237 := aS_ (Q_NB262_237 (hon 13 (by kernel_rfl)))
                    obtain ⟨Ao70, co70, eo70⟩ := Kd.R_slice HO261.out
                    (first | subst eo70 | (injection eo70 with f1_ f2_ f3_; have f4_ := f1_.symm; have f5_ := f3_.symm; clear f1_ f2_ f3_; subst f4_; subst f5_))
                    obtain ⟨Ao71, co71, eo71⟩ := Kd.R_slice HO252.out
                    (first | subst eo71 | (injection eo71 with f1_ f2_ f3_; have f4_ := f1_.symm; have f5_ := f3_.symm; clear f1_ f2_ f3_; subst f4_; subst f5_))
                    have hs72 : w'.cell? ⟨gb262, 0, none⟩ = some (.slice none 0 0) := (blk_cell BK262.out 0).trans rfl
                    have hfs72 := blk_frozen BK262.out 0
                    have hns72_0 := NB236_262.out
                    have hns72_1 := NB237_262.out
                    have hms72_0 := NB262_236.out
                    have hms72_1 := NB262_237.out
                    have hs73 : w'.cell? ⟨gb262, 1, none⟩ = some (.slice none 0 0) := (blk_cell BK262.out 1).trans rfl
                    have hfs73 := blk_frozen BK262.out 1
                    have hns73_0 := NB236_262.out
                    have hns73_1 := NB237_262.out
                    have hms73_0 := NB262_236.out
                    have hms73_1 := NB262_237.out
                    refine skip_ (w1 := ?_) (by rfl) rfl ?_ ?_
                    rotate_left
                    ·go_simp
                     rfl
                    refine hK.out _ _ ⟨v245, v248, .slice Ao71 y250.length co71, v254, v257, .slice Ao70 y259.length co70, gb262, m12_, m13_, (by rw [ha.out]; exact putSel_none (v := undef) rfl), (by (with_reducible repeat (first | apply rA_ | apply rN_ | apply rD_)); exact Kd.R_mono (Kd.R_far (p := ⟨gb262, 1, none⟩) (Kd.R_far (p := ⟨gb262, 0, none⟩) (Kd.R_types HO_237000.out BK262.out (by decide)) (fun _ hk => hk.2) (.slice Ao71 y250.length co71)) (fun _ hk => hk.2) (.slice Ao70 y259.length co70)) (fun _ hk => by first | exact ⟨hk.1.1, ⟨hk.1.2.1, ⟨hk.1.2.2.1, ⟨hk.1.2.2.2.1, ⟨hk.1.2.2.2.2.1, hk.1.2.2.2.2.2⟩⟩⟩⟩⟩ | (simp only [hk, ne_eq, not_false_eq_true, and_self]))), (by (with_reducible repeat (first | apply rA_ | apply rN_ | apply rD_)); exact Kd.R_mono (Kd.R_far (p := ⟨gb262, 1, none⟩) (Kd.R_far (p := ⟨gb262, 0, none⟩) (Kd.R_types HO_237001.out BK262.out (by decide)) (fun _ hk => hk.2) (.slice Ao71 y250.length co71)) (fun _ hk => hk.2) (.slice Ao70 y259.length co70)) (fun _ hk => by first | exact ⟨hk.1.1, ⟨hk.1.2.1, ⟨hk.1.2.2.1, ⟨hk.1.2.2.2.1, ⟨hk.1.2.2.2.2.1, hk.1.2.2.2.2.2⟩⟩⟩⟩⟩ | (simp only [hk, ne_eq, not_false_eq_true, and_self]))), (by (with_reducible repeat (first | refine kN_ ?_ _ | refine kD_ ?_ | refine kA_ ?_ _)); refine blk_far ?_ NB236_262.out _; (with_reducible repeat (first | refine kN_ ?_ _ | refine kD_ ?_ | refine kA_ ?_ _)); refine blk_far ?_ NB236_262.out _; (with_reducible repeat (first | refine kN_ ?_ _ | refine kD_ ?_ | refine kA_ ?_ _)); exact BK236.out), (by (with_reducible repeat (first | refine kN_ ?_ _ | refine kD_ ?_ | refine kA_ ?_ _)); refine blk_far ?_ NB237_262.out _; (with_reducible repeat (first | refine kN_ ?_ _ | refine kD_ ?_ | refine kA_ ?_ _)); refine blk_far ?_ NB237_262.out _; (with_reducible repeat (first | refine kN_ ?_ _ | refine kD_ ?_ | refine kA_ ?_ _)); exact BK237.out), (by repeat (first | (with_reducible first | exact HK.out | apply Kept.alloc | apply Kept.drewN | apply Kept.drew | refine Kept.setCell ?_ (.inr GW236.out) _ | refine Kept.setCell ?_ (.inr GW237.out) _ | refine Kept.setCell ?_ (.inr GW262.out) _) | exact HK.out)), (by repeat (first | (with_reducible first | exact HB.out | apply bA_ | apply pN_ | apply bD_ | refine bS_ ?_ GE236.out | refine bS_ ?_ GE237.out | refine bS_ ?_ GE262.out) | exact HB.out)), fun _ h1_ => absurd ((hon 5 (by kernel_rfl)).symm.trans h1_) (by decide), fun _ => (by (with_reducible repeat (first | apply rA_ | apply rN_ | apply rD_)); exact Kd.R_mono (Kd.R_far (p := ⟨gb262, 1, none⟩) (Kd.R_far (p := ⟨gb262, 0, none⟩) (Kd.R_types HO249.out BK262.out (by decide)) (fun _ hk => hk.2) (.slice Ao71 y250.length co71)) (fun _ hk => hk.2) (.slice Ao70 y259.length co70)) (fun _ hk => by first | exact ⟨hk.1.1, ⟨hk.1.2.1, ⟨hk.1.2.2.1, ⟨hk.1.2.2.2.1, ⟨hk.1.2.2.2.2.1, hk.1.2.2.2.2.2⟩⟩⟩⟩⟩ | (simp only [hk, ne_eq, not_false_eq_true, and_self]))), fun _ => (by (with_reducible repeat (first | apply rA_ | apply rN_ | apply rD_)); exact Kd.R_mono (Kd.R_far (p := ⟨gb262, 1, none⟩) (Kd.R_far (p := ⟨gb262, 0, none⟩) (Kd.R_types HO252.out BK262.out (by decide)) (fun _ hk => hk.2) (.slice Ao71 y250.length co71)) (fun _ hk => hk.2) (.slice Ao70 y259.length co70)) (fun _ hk => by first | exact ⟨hk.1.1, ⟨hk.1.2.1, ⟨hk.1.2.2.1, ⟨hk.1.2.2.2.1, ⟨hk.1.2.2.2.2.1, hk.1.2.2.2.2.2⟩⟩⟩⟩⟩ | (simp only [hk, ne_eq, not_false_eq_true, and_self]))), fun _ h1_ => absurd ((hon 11 (by kernel_rfl)).symm.trans h1_) (by decide), fun _ => (by (with_reducible repeat (first | apply rA_ | apply rN_ | apply rD_)); exact Kd.R_mono (Kd.R_far (p := ⟨gb262, 1, none⟩) (Kd.R_far (p := ⟨gb262, 0, none⟩) (Kd.R_types HO258.out BK262.out (by decide)) (fun _ hk => hk.2) (.slice Ao71 y250.length co71)) (fun _ hk => hk.2) (.slice Ao70 y259.length co70)) (fun _ hk => by first | exact ⟨hk.1.1, ⟨hk.1.2.1, ⟨hk.1.2.2.1, ⟨hk.1.2.2.2.1, ⟨hk.1.2.2.2.2.1, hk.1.2.2.2.2.2⟩⟩⟩⟩⟩ | (simp only [hk, ne_eq, not_false_eq_true, and_self]))), fun _ => (by (with_reducible repeat (first | apply rA_ | apply rN_ | apply rD_)); exact Kd.R_mono (Kd.R_far (p := ⟨gb262, 1, none⟩) (Kd.R_far (p := ⟨gb262, 0, none⟩) (Kd.R_types HO261.out BK262.out (by decide)) (fun _ hk => hk.2) (.slice Ao71 y250.length co71)) (fun _ hk => hk.2) (.slice Ao70 y259.length co70)) (fun _ hk => by first | exact ⟨hk.1.1, ⟨hk.1.2.1, ⟨hk.1.2.2.1, ⟨hk.1.2.2.2.1, ⟨hk.1.2.2.2.2.1, hk.1.2.2.2.2.2⟩⟩⟩⟩⟩ | (simp only [hk, ne_eq, not_false_eq_true, and_self]))), fun _ h1_ => absurd ((up_self b 14).symm.trans h1_) (by decide), fun _ => GW262.out, fun _ => GE262.out, fun _ => NB236_262.out, fun _ => NB262_236.out, fun _ => NB237_262.out, fun _ => NB262_237.out, fun _ => (by (with_reducible repeat (first | refine kN_ ?_ _ | refine kD_ ?_ | refine kA_ ?_ _)); refine blk_put (cs := #[.slice Ao71 y250.length co71, .slice none 0 0]) ?_ 1 _ rfl; (with_reducible repeat (first | refine kN_ ?_ _ | refine kD_ ?_ | refine kA_ ?_ _)); refine blk_put (cs := #[.slice none 0 0, .slice none 0 0]) ?_ 0 _ rfl; (with_reducible repeat (first | refine kN_ ?_ _ | refine kD_ ?_ | refine kA_ ?_ _)); exact BK262.out), Q_X12_, Q_X13_, Q_D_HO246_HO249, Q_D_HO246_HO255, Q_D_HO246_HO258, Q_D_HO246_HO261, Q_D_HO249_HO252, Q_D_HO249_HO255, Q_D_HO249_HO258, Q_D_HO249_HO261, Q_D_HO252_HO255, Q_D_HO252_HO258, Q_D_HO252_HO261, Q_D_HO255_HO258, Q_D_HO258_HO261⟩
                   exact steps_nil
                  rintro b a w71 hall ⟨v245, v248, v251, v254, v257, v260, gb262, m12_, m13_, ha, Q_HO_237000, Q_HO_237001, Q_BK236, Q_BK237, Q_HK, Q_HB, Q_HO246, Q_HO249, Q_HO252, Q_HO255, Q_HO258, Q_HO261, Q_BK262, Q_GW262, Q_GE262, Q_NB236_262, Q_NB262_236, Q_NB237_262, Q_NB262_237, Q_BK262_e14, Q_X12_, Q_X13_, Q_D_HO246_HO249, Q_D_HO246_HO255, Q_D_HO246_HO258, Q_D_HO246_HO261, Q_D_HO249_HO252, Q_D_HO249_HO255, Q_D_HO249_HO258, Q_D_HO249_HO261, Q_D_HO252_HO255, Q_D_HO252_HO258, Q_D_HO252_HO261, Q_D_HO255_HO258, Q_D_HO258_HO261⟩
                  clear BK236 BK237 HB HK HO_237000 HO_237001
                  have hb1_ := hall 1 (by kernel_rfl)
                  have hb2_ := hall 2 (by kernel_rfl)
                  have hb4_ := hall 4 (by kernel_rfl)
                  have hb5_ := hall 5 (by kernel_rfl)
                  have hb7_ := hall 7 (by kernel_rfl)
                  have hb8_ := hall 8 (by kernel_rfl)
                  have hb10_ := hall 10 (by kernel_rfl)
                  have hb11_ := hall 11 (by kernel_rfl)
                  have hb12_ := hall 12 (by kernel_rfl)
                  have hb13_ := hall 13 (by kernel_rfl)
                  have hb14_ := hall 14 (by kernel_rfl)
                  subst ha
                  obtain rfl := Q_X12_ hb12_
                  obtain rfl := Q_X13_ hb13_
                  simp only [putSel, hb1_, hb2_, hb4_, hb5_, hb7_, hb8_, hb10_, hb11_, hb12_, hb13_, hb14_, if_true, Act.put, List.setIfInBounds_toArray, List.set_cons_zero, List.set_cons_succ]
                  have BK236 := aS_ Q_BK236
                  clear Q_BK236
                  have BK237 := aS_ Q_BK237
                  clear Q_BK237
                  have HK := aS_ Q_HK
                  clear Q_HK
                  have HB := aS_ Q_HB
                  clear Q_HB
                  have HO_237000 := aS_ (Kd.R_reok rfl (ok := (fun k_ => ((P0_0_ k_ ∨ P0_1_ k_) ∨ w.heap.size ≤ k_) ∧ some k_ ≠ (v248 : Value).ownBlock ∧ some k_ ≠ (v251 : Value).ownBlock ∧ some k_ ≠ (v257 : Value).ownBlock ∧ some k_ ≠ (v260 : Value).ownBlock ∧ some k_ ≠ (.slice Ao13 l0_1.length co13 : Value).ownBlock)) (Q_HO_237000) (fun k_ e_ => ⟨((Q_HO_237000).1 k_ e_).1, (fun q_ => ((Q_HO249 hb4_).1 k_ q_.symm).2.1 e_.symm), (fun q_ => ((Q_HO252 hb5_).1 k_ q_.symm).2.1 e_.symm), (fun q_ => ((Q_HO258 hb10_).1 k_ q_.symm).2.1 e_.symm), (fun q_ => ((Q_HO261 hb11_).1 k_ q_.symm).2.1 e_.symm), ((Q_HO_237000).1 k_ e_).2⟩))
                  have HO_237001 := aS_ (Kd.R_reok rfl (ok := (fun k_ => ((P0_0_ k_ ∨ P0_1_ k_) ∨ w.heap.size ≤ k_) ∧ some k_ ≠ (v248 : Value).ownBlock ∧ some k_ ≠ (v251 : Value).ownBlock ∧ some k_ ≠ (v257 : Value).ownBlock ∧ some k_ ≠ (v260 : Value).ownBlock ∧ some k_ ≠ (.slice Ao12 l0_0.length co12 : Value).ownBlock)) (Q_HO_237001) (fun k_ e_ => ⟨((Q_HO_237001).1 k_ e_).1, (fun q_ => ((Q_HO249 hb4_).1 k_ q_.symm).2.2 e_.symm), (fun q_ => ((Q_HO252 hb5_).1 k_ q_.symm).2.2 e_.symm), (fun q_ => ((Q_HO258 hb10_).1 k_ q_.symm).2.2 e_.symm), (fun q_ => ((Q_HO261 hb11_).1 k_ q_.symm).2.2 e_.symm), ((Q_HO_237001).1 k_ e_).2⟩))
                  have HO249 := aS_ (Kd.R_reok rfl (ok := (fun k_ => ((P0_0_ k_ ∨ P0_1_ k_) ∨ w.heap.size ≤ k_) ∧ some k_ ≠ (v251 : Value).ownBlock ∧ some k_ ≠ (v257 : Value).ownBlock ∧ some k_ ≠ (v260 : Value).ownBlock ∧ some k_ ≠ (.slice Ao12 l0_0.length co12 : Value).ownBlock ∧ some k_ ≠ (.slice Ao13 l0_1.length co13 : Value).ownBlock)) (Q_HO249 hb4_) (fun k_ e_ => ⟨((Q_HO249 hb4_).1 k_ e_).1, (fun q_ => (Q_D_HO249_HO252 hb4_ hb5_) k_ e_ q_.symm), (fun q_ => (Q_D_HO249_HO258 hb4_ hb10_) k_ e_ q_.symm), (fun q_ => (Q_D_HO249_HO261 hb4_ hb11_) k_ e_ q_.symm), ((Q_HO249 hb4_).1 k_ e_).2.1, ((Q_HO249 hb4_).1 k_ e_).2.2⟩))
                  have HO252 := aS_ (Kd.R_reok rfl (ok := (fun k_ => ((P0_0_ k_ ∨ P0_1_ k_) ∨ w.heap.size ≤ k_) ∧ some k_ ≠ (v248 : Value).ownBlock ∧ some k_ ≠ (v257 : Value).ownBlock ∧ some k_ ≠ (v260 : Value).ownBlock ∧ some k_ ≠ (.slice Ao12 l0_0.length co12 : Value).ownBlock ∧ some k_ ≠ (.slice Ao13 l0_1.length co13 : Value).ownBlock)) (Q_HO252 hb5_) (fun k_ e_ => ⟨((Q_HO252 hb5_).1 k_ e_).1, (fun q_ => (Q_D_HO249_HO252 hb4_ hb5_) k_ q_.symm e_), (fun q_ => (Q_D_HO252_HO258 hb5_ hb10_) k_ e_ q_.symm), (fun q_ => (Q_D_HO252_HO261 hb5_ hb11_) k_ e_ q_.symm), ((Q_HO252 hb5_).1 k_ e_).2.1, ((Q_HO252 hb5_).1 k_ e_).2.2⟩))
                  have HO258 := aS_ (Kd.R_reok rfl (ok := (fun k_ => ((P0_0_ k_ ∨ P0_1_ k_) ∨ w.heap.size ≤ k_) ∧ some k_ ≠ (v248 : Value).ownBlock ∧ some k_ ≠ (v251 : Value).ownBlock ∧ some k_ ≠ (v260 : Value).ownBlock ∧ some k_ ≠ (.slice Ao12 l0_0.length co12 : Value).ownBlock ∧ some k_ ≠ (.slice Ao13 l0_1.length co13 : Value).ownBlock)) (Q_HO258 hb10_) (fun k_ e_ => ⟨((Q_HO258 hb10_).1 k_ e_).1, (fun q_ => (Q_D_HO249_HO258 hb4_ hb10_) k_ q_.symm e_), (fun q_ => (Q_D_HO252_HO258 hb5_ hb10_) k_ q_.symm e_), (fun q_ => (Q_D_HO258_HO261 hb10_ hb11_) k_ e_ q_.symm), ((Q_HO258 hb10_).1 k_ e_).2.1, ((Q_HO258 hb10_).1 k_ e_).2.2⟩))
                  have HO261 := aS_ (Kd.R_reok rfl (ok := (fun k_ => ((P0_0_ k_ ∨ P0_1_ k_) ∨ w.heap.size ≤ k_) ∧ some k_ ≠ (v248 : Value).ownBlock ∧ some k_ ≠ (v251 : Value).ownBlock ∧ some k_ ≠ (v257 : Value).ownBlock ∧ some k_ ≠ (.slice Ao12 l0_0.length co12 : Value).ownBlock ∧ some k_ ≠ (.slice Ao13 l0_1.length co13 : Value).ownBlock)) (Q_HO261 hb11_) (fun k_ e_ => ⟨((Q_HO261 hb11_).1 k_ e_).1, (fun q_ => (Q_D_HO249_HO261 hb4_ hb11_) k_ q_.symm e_), (fun q_ => (Q_D_HO252_HO261 hb5_ hb11_) k_ q_.symm e_), (fun q_ => (Q_D_HO258_HO261 hb10_ hb11_) k_ q_.symm e_), ((Q_HO261 hb11_).1 k_ e_).2.1, ((Q_HO261 hb11_).1 k_ e_).2.2⟩))
                  clear Q_HO_237000 Q_HO_237001 Q_HO246 Q_HO249 Q_HO252 Q_HO255 Q_HO258 Q_D_HO246_HO249 Q_D_HO246_HO255 Q_D_HO246_HO258 Q_D_HO246_HO261 Q_D_HO249_HO252 Q_D_HO249_HO255 Q_D_HO249_HO258 Q_D_HO249_HO261 Q_D_HO252_HO255 Q_D_HO252_HO258 Q_D_HO252_HO261 Q_D_HO255_HO258 Q_D_HO258_HO261 Q_HO261 Q_BK262
                  have GW262 := aS_ (Q_GW262 hb13_)
                  clear Q_GW262
                  have GE262 := aS_ (Q_GE262 hb13_)
                  clear Q_GE262
                  have NB236_262 := aS_ (Q_NB236_262 hb13_)
                  clear Q_NB236_262
                  have NB262_236 := aS_ (Q_NB262_236 hb13_)
                  clear Q_NB262_236
                  have NB237_262 := aS_ (Q_NB237_262 hb13_)
                  clear Q_NB237_262
                  have NB262_237 := aS_ (Q_NB262_237 hb13_)
                  clear Q_NB262_237
                  have BK262 := aS_ (Q_BK262_e14 hb14_)
                  clear Q_BK262_e14
                  clear hall hb1_ hb2_ hb4_ hb5_ hb7_ hb8_ hb10_ hb11_ hb12_ hb13_ hb14_
                  obtain ⟨Ao72, co72, eo72⟩ := Kd.R_slice HO261.out
                  (first | subst eo72 | (injection eo72 with f1_ f2_ f3_; have f4_ := f1_.symm; have f5_ := f3_.symm; clear f1_ f2_ f3_; subst f4_; subst f5_))
                  obtain ⟨Ao73, co73, eo73⟩ := Kd.R_slice HO252.out
                  (first | subst eo73 | (injection eo73 with f1_ f2_ f3_; have f4_ := f1_.symm; have f5_ := f3_.symm; clear f1_ f2_ f3_; subst f4_; subst f5_))
                  have hnb74 := NB262_236.out
                  have hnc74 := NB236_262.out
                  have hnb75 := NB262_237.out
                  have hnc75 := NB237_262.out
                  have hcz76_0 : w71.cell? ⟨gb262, 0, none⟩ = some (.slice Ao73 y250.length co73) := (blk_cell BK262.out 0).trans rfl
                  have hcz76_1 : w71.cell? ⟨gb262, 1, none⟩ = some (.slice Ao72 y259.length co72) := (blk_cell BK262.out 1).trans rfl
                  have hfz76_0 := blk_frozen BK262.out 0
                  have hfz76_1 := blk_frozen BK262.out 1
                  have H := Hc54.out
                  clear Hc54
                  by_cases c54 : t269 = true
                  ·subst c54
                   rw [if_pos rfl] at H
                   simp only [Option.some.injEq, Prod.mk.injEq] at H
                   obtain ⟨rfl, rfl, rfl⟩ := H
                   try go_wp2_with (first | ((with_reducible refine gate_callee (f := 34) rfl ?_); refine goesL_ (some 85) rfl rfl Try.func34 (by kernel_rfl) rfl #[.agg #[.slice Ao73 y250.length co73, .slice Ao72 y259.length co72], .slice (some ad239) l1.length c1] rfl (by (try simp only [List.map_toArray, List.map_cons, List.map_nil]); first | done | rfl | (simp only [List.length_drop, List.length_take]; rfl)) ?_; (with_reducible refine (ih kj33 (by have := HJ10.out; have := HK2.out; have := HK3.out; have := HJ33.out; omega) (fun k_ => some k_ = (.slice Ao73 y250.length co73 : Value).ownBlock) (.slice Ao73 y250.length co73) y250 (fun k_ => some k_ = (.slice Ao72 y259.length co72 : Value).ownBlock) (.slice Ao72 y259.length co72) y259 _ _ l1 t263 t266 true w0 _ ?side1 ?side2 ?side3 ?side4 ?side5 ?side6 ?side7 A53.out).mono ?_); (case side1 => repeat (first | (with_reducible first | exact HB.out | apply bA_ | apply pN_ | apply bD_ | refine bS_ ?_ GE236.out | refine bS_ ?_ GE237.out | refine bS_ ?_ GE262.out) | exact HB.out)); (case side2 => exact Kd.R_tight rfl HO252.out); (case side3 => exact fun k_ e_ => (HO252.out.1 k_ e_.symm).2.2.2.1); (case side4 => exact Kd.R_tight rfl HO261.out); (case side5 => exact fun k_ e_ => (HO261.out.1 k_ e_.symm).2.2.1); (case side6 => exact Kd.C_kept_call HR1.out (by repeat (first | (with_reducible first | exact HK.out | apply Kept.alloc | apply Kept.drewN | apply Kept.drew | refine Kept.setCell ?_ (.inr GW236.out) _ | refine Kept.setCell ?_ (.inr GW237.out) _ | refine Kept.setCell ?_ (.inr GW262.out) _) | exact HK.out)) (fun k_ hs_ => Or.elim hs_ (fun e_ => (fun e_ => (HO252.out.1 k_ e_.symm).1) e_) (fun e_ => (fun e_ => (HO261.out.1 k_ e_.symm).1) e_))); (case side7 => exact HC1.out); rintro e w77 ⟨v264, v267, rfl, ho0, ho1, hb, hkp⟩; refine ⟨_, rfl, ?_⟩; have n0_ := aS_ (Kd.R_mono (ok' := fun k_ => ((P0_0_ k_ ∨ P0_1_ k_) ∨ w.heap.size ≤ k_) ∧ some k_ ≠ (.slice Ao13 l0_1.length co13 : Value).ownBlock ∧ some k_ ≠ (v248 : Value).ownBlock ∧ some k_ ≠ (v257 : Value).ownBlock ∧ some k_ ≠ (v264 : Value).ownBlock ∧ some k_ ≠ (v267 : Value).ownBlock) (Kd.R_keptB (HO_237000.out) hkp (fun k_ hk_ hs_ => Or.elim hs_ (fun e_ => (hk_.2.2.1) e_) (fun e_ => (hk_.2.2.2.2.1) e_))) (fun k_ hk_ => ⟨hk_.1.1, hk_.1.2.2.2.2.2, hk_.1.2.1, hk_.1.2.2.2.1, fun e_ => Or.elim (ho0.1 k_ e_.symm).1 (fun hs_ => hk_.2.1 hs_) (fun hn_ => Nat.not_le.2 hk_.2.2 hn_), fun e_ => Or.elim (ho1.1 k_ e_.symm).1 (fun hs_ => hk_.2.1 hs_) (fun hn_ => Nat.not_le.2 hk_.2.2 hn_)⟩)); have n1_ := aS_ (Kd.R_mono (ok' := fun k_ => ((P0_0_ k_ ∨ P0_1_ k_) ∨ w.heap.size ≤ k_) ∧ some k_ ≠ (.slice Ao12 l0_0.length co12 : Value).ownBlock ∧ some k_ ≠ (v248 : Value).ownBlock ∧ some k_ ≠ (v257 : Value).ownBlock ∧ some k_ ≠ (v264 : Value).ownBlock ∧ some k_ ≠ (v267 : Value).ownBlock) (Kd.R_keptB (HO_237001.out) hkp (fun k_ hk_ hs_ => Or.elim hs_ (fun e_ => (hk_.2.2.1) e_) (fun e_ => (hk_.2.2.2.2.1) e_))) (fun k_ hk_ => ⟨hk_.1.1, hk_.1.2.2.2.2.2, hk_.1.2.1, hk_.1.2.2.2.1, fun e_ => Or.elim (ho0.1 k_ e_.symm).1 (fun hs_ => hk_.2.1 hs_) (fun hn_ => Nat.not_le.2 hk_.2.2 hn_), fun e_ => Or.elim (ho1.1 k_ e_.symm).1 (fun hs_ => hk_.2.1 hs_) (fun hn_ => Nat.not_le.2 hk_.2.2 hn_)⟩)); have n2_ := aS_ (blk_kept (by (with_reducible repeat (first | refine kN_ ?_ _ | refine kD_ ?_ | refine kA_ ?_ _)); exact BK236.out) hkp (fun hs_ => Or.elim hs_ (fun e_ => (fun e_ => (Kd.R_ne HO252.out BK236.out (by decide)) e_) e_) (fun e_ => (fun e_ => (Kd.R_ne HO261.out BK236.out (by decide)) e_) e_))); have n3_ := aS_ (blk_kept (by (with_reducible repeat (first | refine kN_ ?_ _ | refine kD_ ?_ | refine kA_ ?_ _)); exact BK237.out) hkp (fun hs_ => Or.elim hs_ (fun e_ => (fun e_ => (Kd.R_ne HO252.out BK237.out (by decide)) e_) e_) (fun e_ => (fun e_ => (Kd.R_ne HO261.out BK237.out (by decide)) e_) e_))); have n4_ := aS_ (Kd.R_mono (ok' := fun k_ => ((P0_0_ k_ ∨ P0_1_ k_) ∨ w.heap.size ≤ k_) ∧ some k_ ≠ (.slice Ao12 l0_0.length co12 : Value).ownBlock ∧ some k_ ≠ (.slice Ao13 l0_1.length co13 : Value).ownBlock ∧ some k_ ≠ (v257 : Value).ownBlock ∧ some k_ ≠ (v264 : Value).ownBlock ∧ some k_ ≠ (v267 : Value).ownBlock) (Kd.R_keptB (HO249.out) hkp (fun k_ hk_ hs_ => Or.elim hs_ (fun e_ => (hk_.2.1) e_) (fun e_ => (hk_.2.2.2.1) e_))) (fun k_ hk_ => ⟨hk_.1.1, hk_.1.2.2.2.2.1, hk_.1.2.2.2.2.2, hk_.1.2.2.1, fun e_ => Or.elim (ho0.1 k_ e_.symm).1 (fun hs_ => hk_.2.1 hs_) (fun hn_ => Nat.not_le.2 hk_.2.2 hn_), fun e_ => Or.elim (ho1.1 k_ e_.symm).1 (fun hs_ => hk_.2.1 hs_) (fun hn_ => Nat.not_le.2 hk_.2.2 hn_)⟩)); have n5_ := aS_ (Kd.R_mono (ok' := fun k_ => ((P0_0_ k_ ∨ P0_1_ k_) ∨ w.heap.size ≤ k_) ∧ some k_ ≠ (.slice Ao12 l0_0.length co12 : Value).ownBlock ∧ some k_ ≠ (.slice Ao13 l0_1.length co13 : Value).ownBlock ∧ some k_ ≠ (v248 : Value).ownBlock ∧ some k_ ≠ (v264 : Value).ownBlock ∧ some k_ ≠ (v267 : Value).ownBlock) (Kd.R_keptB (HO258.out) hkp (fun k_ hk_ hs_ => Or.elim hs_ (fun e_ => (hk_.2.2.1) e_) (fun e_ => (hk_.2.2.2.1) e_))) (fun k_ hk_ => ⟨hk_.1.1, hk_.1.2.2.2.2.1, hk_.1.2.2.2.2.2, hk_.1.2.1, fun e_ => Or.elim (ho0.1 k_ e_.symm).1 (fun hs_ => hk_.2.1 hs_) (fun hn_ => Nat.not_le.2 hk_.2.2 hn_), fun e_ => Or.elim (ho1.1 k_ e_.symm).1 (fun hs_ => hk_.2.1 hs_) (fun hn_ => Nat.not_le.2 hk_.2.2 hn_)⟩)); have n6_ := aS_ (blk_kept (by (with_reducible repeat (first | refine kN_ ?_ _ | refine kD_ ?_ | refine kA_ ?_ _)); exact BK262.out) hkp (fun hs_ => Or.elim hs_ (fun e_ => (fun e_ => (Kd.R_ne HO252.out BK262.out (by decide)) e_) e_) (fun e_ => (fun e_ => (Kd.R_ne HO261.out BK262.out (by decide)) e_) e_))); have n7_ := aS_ (Kd.R_mono (ok' := fun k_ => ((P0_0_ k_ ∨ P0_1_ k_) ∨ w.heap.size ≤ k_) ∧ some k_ ≠ (v267 : Value).ownBlock ∧ some k_ ≠ (.slice Ao12 l0_0.length co12 : Value).ownBlock ∧ some k_ ≠ (.slice Ao13 l0_1.length co13 : Value).ownBlock ∧ some k_ ≠ (v248 : Value).ownBlock ∧ some k_ ≠ (v257 : Value).ownBlock) ho0 (fun k_ hk_ => ⟨Or.elim hk_.1 (fun hs_ => Or.elim hs_ (fun hs_ => (HO252.out.1 k_ (hs_).symm).1) (fun hs_ => (HO261.out.1 k_ (hs_).symm).1)) (fun hn_ => (.inr (Nat.le_trans (by first | exact HK.out.1 | exact (show Kept w _ (fun k_ => P0_0_ k_ ∨ P0_1_ k_) from by repeat (first | (with_reducible first | exact HK.out | apply Kept.alloc | apply Kept.drewN | apply Kept.drew | refine Kept.setCell ?_ (.inr GW236.out) _ | refine Kept.setCell ?_ (.inr GW237.out) _ | refine Kept.setCell ?_ (.inr GW262.out) _) | exact HK.out)).1) hn_))), hk_.2, Or.elim hk_.1 (fun hs_ => Or.elim hs_ (fun hs_ => fun e_ => (((HO_237000.out).1 k_ e_.symm).2.2.1) hs_) (fun hs_ => fun e_ => (((HO_237000.out).1 k_ e_.symm).2.2.2.2.1) hs_)) (fun hn_ => (Kd.fresh' (Kd.R_lt (by (with_reducible repeat (first | apply rA_ | apply rN_ | apply rD_)); exact HO_237000.out)) k_ hn_)), Or.elim hk_.1 (fun hs_ => Or.elim hs_ (fun hs_ => fun e_ => (((HO_237001.out).1 k_ e_.symm).2.2.1) hs_) (fun hs_ => fun e_ => (((HO_237001.out).1 k_ e_.symm).2.2.2.2.1) hs_)) (fun hn_ => (Kd.fresh' (Kd.R_lt (by (with_reducible repeat (first | apply rA_ | apply rN_ | apply rD_)); exact HO_237001.out)) k_ hn_)), Or.elim hk_.1 (fun hs_ => Or.elim hs_ (fun hs_ => fun e_ => (((HO249.out).1 k_ e_.symm).2.1) hs_) (fun hs_ => fun e_ => (((HO249.out).1 k_ e_.symm).2.2.2.1) hs_)) (fun hn_ => (Kd.fresh' (Kd.R_lt (by (with_reducible repeat (first | apply rA_ | apply rN_ | apply rD_)); exact HO249.out)) k_ hn_)), Or.elim hk_.1 (fun hs_ => Or.elim hs_ (fun hs_ => fun e_ => (((HO258.out).1 k_ e_.symm).2.2.1) hs_) (fun hs_ => fun e_ => (((HO258.out).1 k_ e_.symm).2.2.2.1) hs_)) (fun hn_ => (Kd.fresh' (Kd.R_lt (by (with_reducible repeat (first | apply rA_ | apply rN_ | apply rD_)); exact HO258.out)) k_ hn_))⟩)); have n8_ := aS_ (Kd.R_mono (ok' := fun k_ => ((P0_0_ k_ ∨ P0_1_ k_) ∨ w.heap.size ≤ k_) ∧ some k_ ≠ (v264 : Value).ownBlock ∧ some k_ ≠ (.slice Ao12 l0_0.length co12 : Value).ownBlock ∧ some k_ ≠ (.slice Ao13 l0_1.length co13 : Value).ownBlock ∧ some k_ ≠ (v248 : Value).ownBlock ∧ some k_ ≠ (v257 : Value).ownBlock) ho1 (fun k_ hk_ => ⟨Or.elim hk_.1 (fun hs_ => Or.elim hs_ (fun hs_ => (HO252.out.1 k_ (hs_).symm).1) (fun hs_ => (HO261.out.1 k_ (hs_).symm).1)) (fun hn_ => (.inr (Nat.le_trans (by first | exact HK.out.1 | exact (show Kept w _ (fun k_ => P0_0_ k_ ∨ P0_1_ k_) from by repeat (first | (with_reducible first | exact HK.out | apply Kept.alloc | apply Kept.drewN | apply Kept.drew | refine Kept.setCell ?_ (.inr GW236.out) _ | refine Kept.setCell ?_ (.inr GW237.out) _ | refine Kept.setCell ?_ (.inr GW262.out) _) | exact HK.out)).1) hn_))), hk_.2, Or.elim hk_.1 (fun hs_ => Or.elim hs_ (fun hs_ => fun e_ => (((HO_237000.out).1 k_ e_.symm).2.2.1) hs_) (fun hs_ => fun e_ => (((HO_237000.out).1 k_ e_.symm).2.2.2.2.1) hs_)) (fun hn_ => (Kd.fresh' (Kd.R_lt (by (with_reducible repeat (first | apply rA_ | apply rN_ | apply rD_)); exact HO_237000.out)) k_ hn_)), Or.elim hk_.1 (fun hs_ => Or.elim hs_ (fun hs_ => fun e_ => (((HO_237001.out).1 k_ e_.symm).2.2.1) hs_) (fun hs_ => fun e_ => (((HO_237001.out).1 k_ e_.symm).2.2.2.2.1) hs_)) (fun hn_ => (Kd.fresh' (Kd.R_lt (by (with_reducible repeat (first | apply rA_ | apply rN_ | apply rD_)); exact HO_237001.out)) k_ hn_)), Or.elim hk_.1 (fun hs_ => Or.elim hs_ (fun hs_ => fun e_ => (((HO249.out).1 k_ e_.symm).2.1) hs_) (fun hs_ => fun e_ => (((HO249.out).1 k_ e_.symm).2.2.2.1) hs_)) (fun hn_ => (Kd.fresh' (Kd.R_lt (by (with_reducible repeat (first | apply rA_ | apply rN_ | apply rD_)); exact HO249.out)) k_ hn_)), Or.elim hk_.1 (fun hs_ => Or.elim hs_ (fun hs_ => fun e_ => (((HO258.out).1 k_ e_.symm).2.2.1) hs_) (fun hs_ => fun e_ => (((HO258.out).1 k_ e_.symm).2.2.2.1) hs_)) (fun hn_ => (Kd.fresh' (Kd.R_lt (by (with_reducible repeat (first | apply rA_ | apply rN_ | apply rD_)); exact HO258.out)) k_ hn_))⟩)); have n9_ := aS_ (Kept.then_ (S := (fun k_ => P0_0_ k_ ∨ P0_1_ k_)) (by repeat (first | (with_reducible first | exact HK.out | apply Kept.alloc | apply Kept.drewN | apply Kept.drew | refine Kept.setCell ?_ (.inr GW236.out) _ | refine Kept.setCell ?_ (.inr GW237.out) _ | refine Kept.setCell ?_ (.inr GW262.out) _) | exact HK.out)) hkp (fun k_ hs_ => Or.elim hs_ (fun e_ => (fun e_ => (HO252.out.1 k_ e_.symm).1) e_) (fun e_ => (fun e_ => (HO261.out.1 k_ e_.symm).1) e_))); have n10_ := aS_ (hb); clear HO_237000; clear HO_237001; clear BK236; clear BK237; clear HO249; clear HO258; clear BK262; clear HK; clear HB; clear HO252; clear HO261; have HO_237000 := n0_; have HO_237001 := n1_; have BK236 := n2_; have BK237 := n3_; have HO249 := n4_; have HO258 := n5_; have BK262 := n6_; have HO265 := n7_; have HO268 := n8_; have HK := n9_; have HB := n10_; clear n0_ n1_ n2_ n3_ n4_ n5_ n6_ n7_ n8_ n9_ n10_; (try clear hb); (try clear hkp); (try clear ho0); (try clear ho1)) | ((with_reducible refine gate_dst (N := 12) rfl ?_); refine box_event ?hg (N := 12) ?hd (cs := #[.slice none 0 0, .slice none 0 0]) (t := 24) ?hr ?_; (case hd => rfl); (case hg => rfl); (case hr => first | (go_simp; done) | (go_simp; rfl)); intro gb270 hg w78 hbox hb; have n0_ := aS_ (Kd.R_below (by (with_reducible repeat (first | apply rA_ | apply rN_ | apply rD_)); exact HO_237000.out) hb); have n1_ := aS_ (Kd.R_below (by (with_reducible repeat (first | apply rA_ | apply rN_ | apply rD_)); exact HO_237001.out) hb); have n2_ := aS_ (Kd.R_below (by (with_reducible repeat (first | apply rA_ | apply rN_ | apply rD_)); exact HO249.out) hb); have n3_ := aS_ (Kd.R_below (by (with_reducible repeat (first | apply rA_ | apply rN_ | apply rD_)); exact HO258.out) hb); have n4_ := aS_ (Kd.R_below (by (with_reducible repeat (first | apply rA_ | apply rN_ | apply rD_)); exact HO265.out) hb); have n5_ := aS_ (Kd.R_below (by (with_reducible repeat (first | apply rA_ | apply rN_ | apply rD_)); exact HO268.out) hb); have n6_ := aS_ (blk_below (g := gb236) (o := .cells #[.slice Ao12 l0_0.length co12, .slice Ao13 l0_1.length co13] 24 (0, 0)) (by (with_reducible repeat (first | refine kN_ ?_ _ | refine kD_ ?_ | refine kA_ ?_ _)); exact BK236.out) hb); have n7_ := aS_ (blk_below (g := gb237) (o := .cells #[.slice none 0 0, .slice none 0 0] 24 (0, 0)) (by (with_reducible repeat (first | refine kN_ ?_ _ | refine kD_ ?_ | refine kA_ ?_ _)); exact BK237.out) hb); have n8_ := aS_ (blk_below (g := gb262) (o := .cells #[.slice Ao73 y250.length co73, .slice Ao72 y259.length co72] 24 (0, 0)) (by (with_reducible repeat (first | refine kN_ ?_ _ | refine kD_ ?_ | refine kA_ ?_ _)); exact BK262.out) hb); have n9_ := aS_ (Kept.below (S := (fun k_ => P0_0_ k_ ∨ P0_1_ k_)) (by repeat (first | (with_reducible first | exact HK.out | apply Kept.alloc | apply Kept.drewN | apply Kept.drew | refine Kept.setCell ?_ (.inr GW236.out) _ | refine Kept.setCell ?_ (.inr GW237.out) _ | refine Kept.setCell ?_ (.inr GW262.out) _) | exact HK.out)) hb); have n10_ := aS_ (below_step (by repeat (first | (with_reducible first | exact HB.out | apply bA_ | apply pN_ | apply bD_ | refine bS_ ?_ GE236.out | refine bS_ ?_ GE237.out | refine bS_ ?_ GE262.out) | exact HB.out)) hb); have n11_ := aS_ (hbox); have n12_ := aS_ ((by rw [hg]; exact (by first | exact HK.out.1 | exact (show Kept w _ (fun k_ => P0_0_ k_ ∨ P0_1_ k_) from by repeat (first | (with_reducible first | exact HK.out | apply Kept.alloc | apply Kept.drewN | apply Kept.drew | refine Kept.setCell ?_ (.inr GW236.out) _ | refine Kept.setCell ?_ (.inr GW237.out) _ | refine Kept.setCell ?_ (.inr GW262.out) _) | exact HK.out)).1) : w.heap.size ≤ gb270)); have n13_ := aS_ ((by rw [hg]; exact (below_size (by repeat (first | (with_reducible first | exact HB.out | apply bA_ | apply pN_ | apply bD_ | refine bS_ ?_ GE236.out | refine bS_ ?_ GE237.out | refine bS_ ?_ GE262.out) | exact HB.out))) : w0.heap.size ≤ gb270)); have n14_ := aS_ ((by rw [hg]; exact Nat.ne_of_lt (blk_lt (g := gb236) (o := .cells #[.slice Ao12 l0_0.length co12, .slice Ao13 l0_1.length co13] 24 (0, 0)) (by (with_reducible repeat (first | refine kN_ ?_ _ | refine kD_ ?_ | refine kA_ ?_ _)); exact BK236.out)) : gb236 ≠ gb270)); have n15_ := aS_ ((by rw [hg]; exact Nat.ne_of_gt (blk_lt (g := gb236) (o := .cells #[.slice Ao12 l0_0.length co12, .slice Ao13 l0_1.length co13] 24 (0, 0)) (by (with_reducible repeat (first | refine kN_ ?_ _ | refine kD_ ?_ | refine kA_ ?_ _)); exact BK236.out)) : gb270 ≠ gb236)); have n16_ := aS_ ((by rw [hg]; exact Nat.ne_of_lt (blk_lt (g := gb237) (o := .cells #[.slice none 0 0, .slice none 0 0] 24 (0, 0)) (by (with_reducible repeat (first | refine kN_ ?_ _ | refine kD_ ?_ | refine kA_ ?_ _)); exact BK237.out)) : gb237 ≠ gb270)); have n17_ := aS_ ((by rw [hg]; exact Nat.ne_of_gt (blk_lt (g := gb237) (o := .cells #[.slice none 0 0, .slice none 0 0] 24 (0, 0)) (by (with_reducible repeat (first | refine kN_ ?_ _ | refine kD_ ?_ | refine kA_ ?_ _)); exact BK237.out)) : gb270 ≠ gb237)); have n18_ := aS_ ((by rw [hg]; exact Nat.ne_of_lt (blk_lt (g := gb262) (o := .cells #[.slice Ao73 y250.length co73, .slice Ao72 y259.length co72] 24 (0, 0)) (by (with_reducible repeat (first | refine kN_ ?_ _ | refine kD_ ?_ | refine kA_ ?_ _)); exact BK262.out)) : gb262 ≠ gb270)); have n19_ := aS_ ((by rw [hg]; exact Nat.ne_of_gt (blk_lt (g := gb262) (o := .cells #[.slice Ao73 y250.length co73, .slice Ao72 y259.length co72] 24 (0, 0)) (by (with_reducible repeat (first | refine kN_ ?_ _ | refine kD_ ?_ | refine kA_ ?_ _)); exact BK262.out)) : gb270 ≠ gb262)); clear HO_237000; clear HO_237001; clear HO249; clear HO258; clear HO265; clear HO268; clear BK236; clear BK237; clear BK262; clear HK; clear HB; have HO_237000 := n0_; have HO_237001 := n1_; have HO249 := n2_; have HO258 := n3_; have HO265 := n4_; have HO268 := n5_; have BK236 := n6_; have BK237 := n7_; have BK262 := n8_; have HK := n9_; have HB := n10_; have BK270 := n11_; have GW270 := n12_; have GE270 := n13_; have NB236_270 := n14_; have NB270_236 := n15_; have NB237_270 := n16_; have NB270_237 := n17_; have NB262_270 := n18_; have NB270_262 := n19_; clear n0_ n1_ n2_ n3_ n4_ n5_ n6_ n7_ n8_ n9_ n10_ n11_ n12_ n13_ n14_ n15_ n16_ n17_ n18_ n19_; clear hb hbox hg; obtain ⟨Ao79, co79, eo79⟩ := Kd.R_slice HO265.out; subst eo79; have hnb80 := NB270_236.out; have hnc80 := NB236_270.out; have hnb81 := NB270_237.out; have hnc81 := NB237_270.out; have hnb82 := NB270_262.out; have hnc82 := NB262_270.out; have hcz83_0 : w78.cell? ⟨gb270, 0, none⟩ = some (.slice none 0 0) := (blk_cell BK270.out 0).trans rfl; have hcz83_1 : w78.cell? ⟨gb270, 1, none⟩ = some (.slice none 0 0) := (blk_cell BK270.out 1).trans rfl; have hfz83_0 := blk_frozen BK270.out 0; have hfz83_1 := blk_frozen BK270.out 1; obtain ⟨Ao84, co84, eo84⟩ := Kd.R_slice HO268.out; subst eo84; have hnb85 := NB237_236.out; have hnc85 := NB236_237.out; have hcz86_0 : w78.cell? ⟨gb237, 0, none⟩ = some (.slice none 0 0) := (blk_cell BK237.out 0).trans rfl; have hcz86_1 : w78.cell? ⟨gb237, 1, none⟩ = some (.slice none 0 0) := (blk_cell BK237.out 1).trans rfl; have hfz86_0 := blk_frozen BK237.out 0; have hfz86_1 := blk_frozen BK237.out 1))
                   refine bodyPost_ret (results_ct rfl _ _ gb237 24 #[.slice Ao79 t263.length co79, .slice Ao84 t266.length co84] (0, 0) _ rfl (by (with_reducible repeat (first | refine kN_ ?_ _ | refine kD_ ?_ | refine kA_ ?_ _)); refine blk_put (cs := #[.slice Ao79 t263.length co79, .slice none 0 0]) ?_ 1 _ rfl; (with_reducible repeat (first | refine kN_ ?_ _ | refine kD_ ?_ | refine kA_ ?_ _)); refine blk_put (cs := #[.slice none 0 0, .slice none 0 0]) ?_ 0 _ rfl; (with_reducible repeat (first | refine kN_ ?_ _ | refine kD_ ?_ | refine kA_ ?_ _)); refine blk_far ?_ NB237_270.out _; (with_reducible repeat (first | refine kN_ ?_ _ | refine kD_ ?_ | refine kA_ ?_ _)); refine blk_far ?_ NB237_270.out _; (with_reducible repeat (first | refine kN_ ?_ _ | refine kD_ ?_ | refine kA_ ?_ _)); exact BK237.out) Try.underlying24 rfl (by kernel_rfl)) rfl ?_
                   exact ⟨_, _, by first | rfl | (simp [errW_none, errW_some] <;> rfl) | (simp [*, errW_none, errW_some] <;> rfl), by (with_reducible repeat (first | apply rA_ | apply rN_ | apply rD_)); exact Kd.R_mono (Kd.R_far (p := ⟨gb237, 1, none⟩) (Kd.R_far (p := ⟨gb237, 0, none⟩) (Kd.R_far (p := ⟨gb270, 1, none⟩) (Kd.R_far (p := ⟨gb270, 0, none⟩) (Kd.R_types (Kd.R_types HO265.out BK270.out (by decide)) BK237.out (by decide)) (fun _ hk => hk.1.2) (.slice Ao79 t263.length co79)) (fun _ hk => hk.1.2) (.slice Ao84 t266.length co84)) (fun _ hk => hk.2) (.slice Ao79 t263.length co79)) (fun _ hk => hk.2) (.slice Ao84 t266.length co84)) (fun _ hk => by first | exact ⟨hk.1.1.1, hk.1.1.2.1⟩ | (simp only [hk, ne_eq, not_false_eq_true, and_self])), by (with_reducible repeat (first | apply rA_ | apply rN_ | apply rD_)); exact Kd.R_mono (Kd.R_far (p := ⟨gb237, 1, none⟩) (Kd.R_far (p := ⟨gb237, 0, none⟩) (Kd.R_far (p := ⟨gb270, 1, none⟩) (Kd.R_far (p := ⟨gb270, 0, none⟩) (Kd.R_types (Kd.R_types HO268.out BK270.out (by decide)) BK237.out (by decide)) (fun _ hk => hk.1.2) (.slice Ao79 t263.length co79)) (fun _ hk => hk.1.2) (.slice Ao84 t266.length co84)) (fun _ hk => hk.2) (.slice Ao79 t263.length co79)) (fun _ hk => hk.2) (.slice Ao84 t266.length co84)) (fun _ hk => by first | exact ⟨hk.1.1.1, hk.1.1.2.1⟩ | (simp only [hk, ne_eq, not_false_eq_true, and_self])), by repeat (first | (with_reducible first | exact HB.out | apply bA_ | apply pN_ | apply bD_ | refine bS_ ?_ GE236.out | refine bS_ ?_ GE237.out | refine bS_ ?_ GE262.out | refine bS_ ?_ GE270.out) | exact HB.out), by repeat (first | (with_reducible first | exact HK.out | apply Kept.alloc | apply Kept.drewN | apply Kept.drew | refine Kept.setCell ?_ (.inr GW236.out) _ | refine Kept.setCell ?_ (.inr GW237.out) _ | refine Kept.setCell ?_ (.inr GW262.out) _ | refine Kept.setCell ?_ (.inr GW270.out) _) | exact HK.out)⟩
                  ·replace c54 := Bool.eq_false_iff.mpr c54
                   subst c54
                   rw [if_neg (show ¬ (false = true) by decide)] at H
                   have H' := aS_ H
                   clear H
                   try go_wp2_with (first | ((with_reducible refine gate_callee (f := 34) rfl ?_); refine goesL_ (some 85) rfl rfl Try.func34 (by kernel_rfl) rfl #[.agg #[.slice Ao73 y250.length co73, .slice Ao72 y259.length co72], .slice (some ad239) l1.length c1] rfl (by (try simp only [List.map_toArray, List.map_cons, List.map_nil]); first | done | rfl | (simp only [List.length_drop, List.length_take]; rfl)) ?_; (with_reducible refine (ih kj33 (by have := HJ10.out; have := HK2.out; have := HK3.out; have := HJ33.out; omega) (fun k_ => some k_ = (.slice Ao73 y250.length co73 : Value).ownBlock) (.slice Ao73 y250.length co73) y250 (fun k_ => some k_ = (.slice Ao72 y259.length co72 : Value).ownBlock) (.slice Ao72 y259.length co72) y259 _ _ l1 t263 t266 false w0 _ ?side1 ?side2 ?side3 ?side4 ?side5 ?side6 ?side7 A53.out).mono ?_); (case side1 => repeat (first | (with_reducible first | exact HB.out | apply bA_ | apply pN_ | apply bD_ | refine bS_ ?_ GE236.out | refine bS_ ?_ GE237.out | refine bS_ ?_ GE262.out) | exact HB.out)); (case side2 => exact Kd.R_tight rfl HO252.out); (case side3 => exact fun k_ e_ => (HO252.out.1 k_ e_.symm).2.2.2.1); (case side4 => exact Kd.R_tight rfl HO261.out); (case side5 => exact fun k_ e_ => (HO261.out.1 k_ e_.symm).2.2.1); (case side6 => exact Kd.C_kept_call HR1.out (by repeat (first | (with_reducible first | exact HK.out | apply Kept.alloc | apply Kept.drewN | apply Kept.drew | refine Kept.setCell ?_ (.inr GW236.out) _ | refine Kept.setCell ?_ (.inr GW237.out) _ | refine Kept.setCell ?_ (.inr GW262.out) _) | exact HK.out)) (fun k_ hs_ => Or.elim hs_ (fun e_ => (fun e_ => (HO252.out.1 k_ e_.symm).1) e_) (fun e_ => (fun e_ => (HO261.out.1 k_ e_.symm).1) e_))); (case side7 => exact HC1.out); rintro e w109 ⟨v264, v267, rfl, ho0, ho1, hb, hkp⟩; refine ⟨_, rfl, ?_⟩; have n0_ := aS_ (Kd.R_mono (ok' := fun k_ => ((P0_0_ k_ ∨ P0_1_ k_) ∨ w.heap.size ≤ k_) ∧ some k_ ≠ (.slice Ao13 l0_1.length co13 : Value).ownBlock ∧ some k_ ≠ (v248 : Value).ownBlock ∧ some k_ ≠ (v257 : Value).ownBlock ∧ some k_ ≠ (v264 : Value).ownBlock ∧ some k_ ≠ (v267 : Value).ownBlock) (Kd.R_keptB (HO_237000.out) hkp (fun k_ hk_ hs_ => Or.elim hs_ (fun e_ => (hk_.2.2.1) e_) (fun e_ => (hk_.2.2.2.2.1) e_))) (fun k_ hk_ => ⟨hk_.1.1, hk_.1.2.2.2.2.2, hk_.1.2.1, hk_.1.2.2.2.1, fun e_ => Or.elim (ho0.1 k_ e_.symm).1 (fun hs_ => hk_.2.1 hs_) (fun hn_ => Nat.not_le.2 hk_.2.2 hn_), fun e_ => Or.elim (ho1.1 k_ e_.symm).1 (fun hs_ => hk_.2.1 hs_) (fun hn_ => Nat.not_le.2 hk_.2.2 hn_)⟩)); have n1_ := aS_ (Kd.R_mono (ok' := fun k_ => ((P0_0_ k_ ∨ P0_1_ k_) ∨ w.heap.size ≤ k_) ∧ some k_ ≠ (.slice Ao12 l0_0.length co12 : Value).ownBlock ∧ some k_ ≠ (v248 : Value).ownBlock ∧ some k_ ≠ (v257 : Value).ownBlock ∧ some k_ ≠ (v264 : Value).ownBlock ∧ some k_ ≠ (v267 : Value).ownBlock) (Kd.R_keptB (HO_237001.out) hkp (fun k_ hk_ hs_ => Or.elim hs_ (fun e_ => (hk_.2.2.1) e_) (fun e_ => (hk_.2.2.2.2.1) e_))) (fun k_ hk_ => ⟨hk_.1.1, hk_.1.2.2.2.2.2, hk_.1.2.1, hk_.1.2.2.2.1, fun e_ => Or.elim (ho0.1 k_ e_.symm).1 (fun hs_ => hk_.2.1 hs_) (fun hn_ => Nat.not_le.2 hk_.2.2 hn_), fun e_ => Or.elim (ho1.1 k_ e_.symm).1 (fun hs_ => hk_.2.1 hs_) (fun hn_ => Nat.not_le.2 hk_.2.2 hn_)⟩)); have n2_ := aS_ (blk_kept (by (with_reducible repeat (first | refine kN_ ?_ _ | refine kD_ ?_ | refine kA_ ?_ _)); exact BK236.out) hkp (fun hs_ => Or.elim hs_ (fun e_ => (fun e_ => (Kd.R_ne HO252.out BK236.out (by decide)) e_) e_) (fun e_ => (fun e_ => (Kd.R_ne HO261.out BK236.out (by decide)) e_) e_))); have n3_ := aS_ (blk_kept (by (with_reducible repeat (first | refine kN_ ?_ _ | refine kD_ ?_ | refine kA_ ?_ _)); exact BK237.out) hkp (fun hs_ => Or.elim hs_ (fun e_ => (fun e_ => (Kd.R_ne HO252.out BK237.out (by decide)) e_) e_) (fun e_ => (fun e_ => (Kd.R_ne HO261.out BK237.out (by decide)) e_) e_))); have n4_ := aS_ (Kd.R_mono (ok' := fun k_ => ((P0_0_ k_ ∨ P0_1_ k_) ∨ w.heap.size ≤ k_) ∧ some k_ ≠ (.slice Ao12 l0_0.length co12 : Value).ownBlock ∧ some k_ ≠ (.slice Ao13 l0_1.length co13 : Value).ownBlock ∧ some k_ ≠ (v257 : Value).ownBlock ∧ some k_ ≠ (v264 : Value).ownBlock ∧ some k_ ≠ (v267 : Value).ownBlock) (Kd.R_keptB (HO249.out) hkp (fun k_ hk_ hs_ => Or.elim hs_ (fun e_ => (hk_.2.1) e_) (fun e_ => (hk_.2.2.2.1) e_))) (fun k_ hk_ => ⟨hk_.1.1, hk_.1.2.2.2.2.1, hk_.1.2.2.2.2.2, hk_.1.2.2.1, fun e_ => Or.elim (ho0.1 k_ e_.symm).1 (fun hs_ => hk_.2.1 hs_) (fun hn_ => Nat.not_le.2 hk_.2.2 hn_), fun e_ => Or.elim (ho1.1 k_ e_.symm).1 (fun hs_ => hk_.2.1 hs_) (fun hn_ => Nat.not_le.2 hk_.2.2 hn_)⟩)); have n5_ := aS_ (Kd.R_mono (ok' := fun k_ => ((P0_0_ k_ ∨ P0_1_ k_) ∨ w.heap.size ≤ k_) ∧ some k_ ≠ (.slice Ao12 l0_0.length co12 : Value).ownBlock ∧ some k_ ≠ (.slice Ao13 l0_1.length co13 : Value).ownBlock ∧ some k_ ≠ (v248 : Value).ownBlock ∧ some k_ ≠ (v264 : Value).ownBlock ∧ some k_ ≠ (v267 : Value).ownBlock) (Kd.R_keptB (HO258.out) hkp (fun k_ hk_ hs_ => Or.elim hs_ (fun e_ => (hk_.2.2.1) e_) (fun e_ => (hk_.2.2.2.1) e_))) (fun k_ hk_ => ⟨hk_.1.1, hk_.1.2.2.2.2.1, hk_.1.2.2.2.2.2, hk_.1.2.1, fun e_ => Or.elim (ho0.1 k_ e_.symm).1 (fun hs_ => hk_.2.1 hs_) (fun hn_ => Nat.not_le.2 hk_.2.2 hn_), fun e_ => Or.elim (ho1.1 k_ e_.symm).1 (fun hs_ => hk_.2.1 hs_) (fun hn_ => Nat.not_le.2 hk_.2.2 hn_)⟩)); have n6_ := aS_ (blk_kept (by (with_reducible repeat (first | refine kN_ ?_ _ | refine kD_ ?_ | refine kA_ ?_ _)); exact BK262.out) hkp (fun hs_ => Or.elim hs_ (fun e_ => (fun e_ => (Kd.R_ne HO252.out BK262.out (by decide)) e_) e_) (fun e_ => (fun e_ => (Kd.R_ne HO261.out BK262.out (by decide)) e_) e_))); have n7_ := aS_ (Kd.R_mono (ok' := fun k_ => ((P0_0_ k_ ∨ P0_1_ k_) ∨ w.heap.size ≤ k_) ∧ some k_ ≠ (v267 : Value).ownBlock ∧ some k_ ≠ (.slice Ao12 l0_0.length co12 : Value).ownBlock ∧ some k_ ≠ (.slice Ao13 l0_1.length co13 : Value).ownBlock ∧ some k_ ≠ (v248 : Value).ownBlock ∧ some k_ ≠ (v257 : Value).ownBlock) ho0 (fun k_ hk_ => ⟨Or.elim hk_.1 (fun hs_ => Or.elim hs_ (fun hs_ => (HO252.out.1 k_ (hs_).symm).1) (fun hs_ => (HO261.out.1 k_ (hs_).symm).1)) (fun hn_ => (.inr (Nat.le_trans (by first | exact HK.out.1 | exact (show Kept w _ (fun k_ => P0_0_ k_ ∨ P0_1_ k_) from by repeat (first | (with_reducible first | exact HK.out | apply Kept.alloc | apply Kept.drewN | apply Kept.drew | refine Kept.setCell ?_ (.inr GW236.out) _ | refine Kept.setCell ?_ (.inr GW237.out) _ | refine Kept.setCell ?_ (.inr GW262.out) _) | exact HK.out)).1) hn_))), hk_.2, Or.elim hk_.1 (fun hs_ => Or.elim hs_ (fun hs_ => fun e_ => (((HO_237000.out).1 k_ e_.symm).2.2.1) hs_) (fun hs_ => fun e_ => (((HO_237000.out).1 k_ e_.symm).2.2.2.2.1) hs_)) (fun hn_ => (Kd.fresh' (Kd.R_lt (by (with_reducible repeat (first | apply rA_ | apply rN_ | apply rD_)); exact HO_237000.out)) k_ hn_)), Or.elim hk_.1 (fun hs_ => Or.elim hs_ (fun hs_ => fun e_ => (((HO_237001.out).1 k_ e_.symm).2.2.1) hs_) (fun hs_ => fun e_ => (((HO_237001.out).1 k_ e_.symm).2.2.2.2.1) hs_)) (fun hn_ => (Kd.fresh' (Kd.R_lt (by (with_reducible repeat (first | apply rA_ | apply rN_ | apply rD_)); exact HO_237001.out)) k_ hn_)), Or.elim hk_.1 (fun hs_ => Or.elim hs_ (fun hs_ => fun e_ => (((HO249.out).1 k_ e_.symm).2.1) hs_) (fun hs_ => fun e_ => (((HO249.out).1 k_ e_.symm).2.2.2.1) hs_)) (fun hn_ => (Kd.fresh' (Kd.R_lt (by (with_reducible repeat (first | apply rA_ | apply rN_ | apply rD_)); exact HO249.out)) k_ hn_)), Or.elim hk_.1 (fun hs_ => Or.elim hs_ (fun hs_ => fun e_ => (((HO258.out).1 k_ e_.symm).2.2.1) hs_) (fun hs_ => fun e_ => (((HO258.out).1 k_ e_.symm).2.2.2.1) hs_)) (fun hn_ => (Kd.fresh' (Kd.R_lt (by (with_reducible repeat (first | apply rA_ | apply rN_ | apply rD_)); exact HO258.out)) k_ hn_))⟩)); have n8_ := aS_ (Kd.R_mono (ok' := fun k_ => ((P0_0_ k_ ∨ P0_1_ k_) ∨ w.heap.size ≤ k_) ∧ some k_ ≠ (v264 : Value).ownBlock ∧ some k_ ≠ (.slice Ao12 l0_0.length co12 : Value).ownBlock ∧ some k_ ≠ (.slice Ao13 l0_1.length co13 : Value).ownBlock ∧ some k_ ≠ (v248 : Value).ownBlock ∧ some k_ ≠ (v257 : Value).ownBlock) ho1 (fun k_ hk_ => ⟨Or.elim hk_.1 (fun hs_ => Or.elim hs_ (fun hs_ => (HO252.out.1 k_ (hs_).symm).1) (fun hs_ => (HO261.out.1 k_ (hs_).symm).1)) (fun hn_ => (.inr (Nat.le_trans (by first | exact HK.out.1 | exact (show Kept w _ (fun k_ => P0_0_ k_ ∨ P0_1_ k_) from by repeat (first | (with_reducible first | exact HK.out | apply Kept.alloc | apply Kept.drewN | apply Kept.drew | refine Kept.setCell ?_ (.inr GW236.out) _ | refine Kept.setCell ?_ (.inr GW237.out) _ | refine Kept.setCell ?_ (.inr GW262.out) _) | exact HK.out)).1) hn_))), hk_.2, Or.elim hk_.1 (fun hs_ => Or.elim hs_ (fun hs_ => fun e_ => (((HO_237000.out).1 k_ e_.symm).2.2.1) hs_) (fun hs_ => fun e_ => (((HO_237000.out).1 k_ e_.symm).2.2.2.2.1) hs_)) (fun hn_ => (Kd.fresh' (Kd.R_lt (by (with_reducible repeat (first | apply rA_ | apply rN_ | apply rD_)); exact HO_237000.out)) k_ hn_)), Or.elim hk_.1 (fun hs_ => Or.elim hs_ (fun hs_ => fun e_ => (((HO_237001.out).1 k_ e_.symm).2.2.1) hs_) (fun hs_ => fun e_ => (((HO_237001.out).1 k_ e_.symm).2.2.2.2.1) hs_)) (fun hn_ => (Kd.fresh' (Kd.R_lt (by (with_reducible repeat (first | apply rA_ | apply rN_ | apply rD_)); exact HO_237001.out)) k_ hn_)), Or.elim hk_.1 (fun hs_ => Or.elim hs_ (fun hs_ => fun e_ => (((HO249.out).1 k_ e_.symm).2.1) hs_) (fun hs_ => fun e_ => (((HO249.out).1 k_ e_.symm).2.2.2.1) hs_)) (fun hn_ => (Kd.fresh' (Kd.R_lt (by (with_reducible repeat (first | apply rA_ | apply rN_ | apply rD_)); exact HO249.out)) k_ hn_)), Or.elim hk_.1 (fun hs_ => Or.elim hs_ (fun hs_ => fun e_ => (((HO258.out).1 k_ e_.symm).2.2.1) hs_) (fun hs_ => fun e_ => (((HO258.out).1 k_ e_.symm).2.2.2.1) hs_)) (fun hn_ => (Kd.fresh' (Kd.R_lt (by (with_reducible repeat (first | apply rA_ | apply rN_ | apply rD_)); exact HO258.out)) k_ hn_))⟩)); have n9_ := aS_ (Kept.then_ (S := (fun k_ => P0_0_ k_ ∨ P0_1_ k_)) (by repeat (first | (with_reducible first | exact HK.out | apply Kept.alloc | apply Kept.drewN | apply Kept.drew | refine Kept.setCell ?_ (.inr GW236.out) _ | refine Kept.setCell ?_ (.inr GW237.out) _ | refine Kept.setCell ?_ (.inr GW262.out) _) | exact HK.out)) hkp (fun k_ hs_ => Or.elim hs_ (fun e_ => (fun e_ => (HO252.out.1 k_ e_.symm).1) e_) (fun e_ => (fun e_ => (HO261.out.1 k_ e_.symm).1) e_))); have n10_ := aS_ (hb); clear HO_237000; clear HO_237001; clear BK236; clear BK237; clear HO249; clear HO258; clear BK262; clear HK; clear HB; clear HO252; clear HO261; have HO_237000 := n0_; have HO_237001 := n1_; have BK236 := n2_; have BK237 := n3_; have HO249 := n4_; have HO258 := n5_; have BK262 := n6_; have HO265 := n7_; have HO268 := n8_; have HK := n9_; have HB := n10_; clear n0_ n1_ n2_ n3_ n4_ n5_ n6_ n7_ n8_ n9_ n10_; (try clear hb); (try clear hkp); (try clear ho0); (try clear ho1)) | ((with_reducible refine gate_dst (N := 12) rfl ?_); refine box_event ?hg (N := 12) ?hd (cs := #[.slice none 0 0, .slice none 0 0]) (t := 24) ?hr ?_; (case hd => rfl); (case hg => rfl); (case hr => first | (go_simp; done) | (go_simp; rfl)); intro gb270 hg w110 hbox hb; have n0_ := aS_ (Kd.R_below (by (with_reducible repeat (first | apply rA_ | apply rN_ | apply rD_)); exact HO_237000.out) hb); have n1_ := aS_ (Kd.R_below (by (with_reducible repeat (first | apply rA_ | apply rN_ | apply rD_)); exact HO_237001.out) hb); have n2_ := aS_ (Kd.R_below (by (with_reducible repeat (first | apply rA_ | apply rN_ | apply rD_)); exact HO249.out) hb); have n3_ := aS_ (Kd.R_below (by (with_reducible repeat (first | apply rA_ | apply rN_ | apply rD_)); exact HO258.out) hb); have n4_ := aS_ (Kd.R_below (by (with_reducible repeat (first | apply rA_ | apply rN_ | apply rD_)); exact HO265.out) hb); have n5_ := aS_ (Kd.R_below (by (with_reducible repeat (first | apply rA_ | apply rN_ | apply rD_)); exact HO268.out) hb); have n6_ := aS_ (blk_below (g := gb236) (o := .cells #[.slice Ao12 l0_0.length co12, .slice Ao13 l0_1.length co13] 24 (0, 0)) (by (with_reducible repeat (first | refine kN_ ?_ _ | refine kD_ ?_ | refine kA_ ?_ _)); exact BK236.out) hb); have n7_ := aS_ (blk_below (g := gb237) (o := .cells #[.slice none 0 0, .slice none 0 0] 24 (0, 0)) (by (with_reducible repeat (first | refine kN_ ?_ _ | refine kD_ ?_ | refine kA_ ?_ _)); exact BK237.out) hb); have n8_ := aS_ (blk_below (g := gb262) (o := .cells #[.slice Ao73 y250.length co73, .slice Ao72 y259.length co72] 24 (0, 0)) (by (with_reducible repeat (first | refine kN_ ?_ _ | refine kD_ ?_ | refine kA_ ?_ _)); exact BK262.out) hb); have n9_ := aS_ (Kept.below (S := (fun k_ => P0_0_ k_ ∨ P0_1_ k_)) (by repeat (first | (with_reducible first | exact HK.out | apply Kept.alloc | apply Kept.drewN | apply Kept.drew | refine Kept.setCell ?_ (.inr GW236.out) _ | refine Kept.setCell ?_ (.inr GW237.out) _ | refine Kept.setCell ?_ (.inr GW262.out) _) | exact HK.out)) hb); have n10_ := aS_ (below_step (by repeat (first | (with_reducible first | exact HB.out | apply bA_ | apply pN_ | apply bD_ | refine bS_ ?_ GE236.out | refine bS_ ?_ GE237.out | refine bS_ ?_ GE262.out) | exact HB.out)) hb); have n11_ := aS_ (hbox); have n12_ := aS_ ((by rw [hg]; exact (by first | exact HK.out.1 | exact (show Kept w _ (fun k_ => P0_0_ k_ ∨ P0_1_ k_) from by repeat (first | (with_reducible first | exact HK.out | apply Kept.alloc | apply Kept.drewN | apply Kept.drew | refine Kept.setCell ?_ (.inr GW236.out) _ | refine Kept.setCell ?_ (.inr GW237.out) _ | refine Kept.setCell ?_ (.inr GW262.out) _) | exact HK.out)).1) : w.heap.size ≤ gb270)); have n13_ := aS_ ((by rw [hg]; exact (below_size (by repeat (first | (with_reducible first | exact HB.out | apply bA_ | apply pN_ | apply bD_ | refine bS_ ?_ GE236.out | refine bS_ ?_ GE237.out | refine bS_ ?_ GE262.out) | exact HB.out))) : w0.heap.size ≤ gb270)); have n14_ := aS_ ((by rw [hg]; exact Nat.ne_of_lt (blk_lt (g := gb236) (o := .cells #[.slice Ao12 l0_0.length co12, .slice Ao13 l0_1.length co13] 24 (0, 0)) (by (with_reducible repeat (first | refine kN_ ?_ _ | refine kD_ ?_ | refine kA_ ?_ _)); exact BK236.out)) : gb236 ≠ gb270)); have n15_ := aS_ ((by rw [hg]; exact Nat.ne_of_gt (blk_lt (g := gb236) (o := .cells #[.slice Ao12 l0_0.length co12, .slice Ao13 l0_1.length co13] 24 (0, 0)) (by (with_reducible repeat (first | refine kN_ ?_ _ | refine kD_ ?_ | refine kA_ ?_ _)); exact BK236.out)) : gb270 ≠ gb236)); have n16_ := aS_ ((by rw [hg]; exact Nat.ne_of_lt (blk_lt (g := gb237) (o := .cells #[.slice none 0 0, .slice none 0 0] 24 (0, 0)) (by (with_reducible repeat (first | refine kN_ ?_ _ | refine kD_ ?_ | refine kA_ ?_ _)); exact BK237.out)) : gb237 ≠ gb270)); have n17_ := aS_ ((by rw [hg]; exact Nat.ne_of_gt (blk_lt (g := gb237) (o := .cells #[.slice none 0 0, .slice none 0 0] 24 (0, 0)) (by (with_reducible repeat (first | refine kN_ ?_ _ | refine kD_ ?_ | refine kA_ ?_ _)); exact BK237.out)) : gb270 ≠ gb237)); have n18_ := aS_ ((by rw [hg]; exact Nat.ne_of_lt (blk_lt (g := gb262) (o := .cells #[.slice Ao73 y250.length co73, .slice Ao72 y259.length co72] 24 (0, 0)) (by (with_reducible repeat (first | refine kN_ ?_ _ | refine kD_ ?_ | refine kA_ ?_ _)); exact BK262.out)) : gb262 ≠ gb270)); have n19_ := aS_ ((by rw [hg]; exact Nat.ne_of_gt (blk_lt (g := gb262) (o := .cells #[.slice Ao73 y250.length co73, .slice Ao72 y259.length co72] 24 (0, 0)) (by (with_reducible repeat (first | refine kN_ ?_ _ | refine kD_ ?_ | refine kA_ ?_ _)); exact BK262.out)) : gb270 ≠ gb262)); clear HO_237000; clear HO_237001; clear HO249; clear HO258; clear HO265; clear HO268; clear BK236; clear BK237; clear BK262; clear HK; clear HB; have HO_237000 := n0_; have HO_237001 := n1_; have HO249 := n2_; have HO258 := n3_; have HO265 := n4_; have HO268 := n5_; have BK236 := n6_; have BK237 := n7_; have BK262 := n8_; have HK := n9_; have HB := n10_; have BK270 := n11_; have GW270 := n12_; have GE270 := n13_; have NB236_270 := n14_; have NB270_236 := n15_; have NB237_270 := n16_; have NB270_237 := n17_; have NB262_270 := n18_; have NB270_262 := n19_; clear n0_ n1_ n2_ n3_ n4_ n5_ n6_ n7_ n8_ n9_ n10_ n11_ n12_ n13_ n14_ n15_ n16_ n17_ n18_ n19_; clear hb hbox hg; obtain ⟨Ao111, co111, eo111⟩ := Kd.R_slice HO265.out; subst eo111; have hnb112 := NB270_236.out; have hnc112 := NB236_270.out; have hnb113 := NB270_237.out; have hnc113 := NB237_270.out; have hnb114 := NB270_262.out; have hnc114 := NB262_270.out; have hcz115_0 : w110.cell? ⟨gb270, 0, none⟩ = some (.slice none 0 0) := (blk_cell BK270.out 0).trans rfl; have hcz115_1 : w110.cell? ⟨gb270, 1, none⟩ = some (.slice none 0 0) := (blk_cell BK270.out 1).trans rfl; have hfz115_0 := blk_frozen BK270.out 0; have hfz115_1 := blk_frozen BK270.out 1; obtain ⟨Ao116, co116, eo116⟩ := Kd.R_slice HO268.out; subst eo116))
                   go_roundg kj33
                   case measure => have := HJ10.out; have := HK2.out; have := HK3.out; have := HJ33.out; omega
                   case rel => exact ⟨(wrap64 (x10_3 + 1)), (by first | rfl | (simp; done) | (simp [*]; done)), H', ⟨by have := HJ10.out; have := HK2.out; have := HK3.out; have := HJ33.out; omega⟩, ⟨by (with_reducible repeat (first | apply rA_ | apply rN_ | apply rD_)); exact Kd.R_mono (Kd.R_far (p := ⟨gb270, 1, none⟩) (Kd.R_far (p := ⟨gb270, 0, none⟩) (Kd.R_types HO_237000.out BK270.out (by decide)) (fun _ hk => hk.2) (.slice Ao111 t263.length co111)) (fun _ hk => hk.2) (.slice Ao116 t266.length co116)) (fun _ hk => by first | exact ⟨hk.1.1, hk.1.2.1⟩ | (simp only [hk, ne_eq, not_false_eq_true, and_self]))⟩, ⟨by (with_reducible repeat (first | apply rA_ | apply rN_ | apply rD_)); exact Kd.R_mono (Kd.R_far (p := ⟨gb270, 1, none⟩) (Kd.R_far (p := ⟨gb270, 0, none⟩) (Kd.R_types HO_237001.out BK270.out (by decide)) (fun _ hk => hk.2) (.slice Ao111 t263.length co111)) (fun _ hk => hk.2) (.slice Ao116 t266.length co116)) (fun _ hk => by first | exact ⟨hk.1.1, hk.1.2.1⟩ | (simp only [hk, ne_eq, not_false_eq_true, and_self]))⟩, ⟨by (with_reducible repeat (first | refine kN_ ?_ _ | refine kD_ ?_ | refine kA_ ?_ _)); refine blk_far ?_ NB236_270.out _; (with_reducible repeat (first | refine kN_ ?_ _ | refine kD_ ?_ | refine kA_ ?_ _)); refine blk_far ?_ NB236_270.out _; (with_reducible repeat (first | refine kN_ ?_ _ | refine kD_ ?_ | refine kA_ ?_ _)); exact BK236.out⟩, ⟨by (with_reducible repeat (first | refine kN_ ?_ _ | refine kD_ ?_ | refine kA_ ?_ _)); refine blk_far ?_ NB237_270.out _; (with_reducible repeat (first | refine kN_ ?_ _ | refine kD_ ?_ | refine kA_ ?_ _)); refine blk_far ?_ NB237_270.out _; (with_reducible repeat (first | refine kN_ ?_ _ | refine kD_ ?_ | refine kA_ ?_ _)); exact BK237.out⟩, ⟨by repeat (first | (with_reducible first | exact HK.out | apply Kept.alloc | apply Kept.drewN | apply Kept.drew | refine Kept.setCell ?_ (.inr GW236.out) _ | refine Kept.setCell ?_ (.inr GW237.out) _ | refine Kept.setCell ?_ (.inr GW262.out) _ | refine Kept.setCell ?_ (.inr GW270.out) _) | exact HK.out)⟩, ⟨by repeat (first | (with_reducible first | exact HB.out | apply bA_ | apply pN_ | apply bD_ | refine bS_ ?_ GE236.out | refine bS_ ?_ GE237.out | refine bS_ ?_ GE262.out | refine bS_ ?_ GE270.out) | exact HB.out)⟩⟩
                 ·rw [if_neg c52] at H
                  exact absurd H (by simp)
                ·rw [if_neg c50] at H
                 exact absurd H (by simp)
            ·rw [if_neg c33] at H
             have c33b0 : decide (x10_3 ≤ (l0_0.length : Int)) = false := decide_eq_false c33
             clear c33
             have H' := aS_ H
             clear H
             go_wp2
             go_roundg k3
             case measure => have := HJ10.out; have := HK2.out; have := HK3.out; omega
             case rel => exact ⟨(wrap64 (x32_2 + 1)), (by first | rfl | (simp; done) | (simp [*]; done)), H', ⟨by have := HJ10.out; have := HK2.out; have := HK3.out; omega⟩, ⟨by (with_reducible repeat (first | apply rA_ | apply rN_ | apply rD_)); exact HO_237000.out⟩, ⟨by (with_reducible repeat (first | apply rA_ | apply rN_ | apply rD_)); exact HO_237001.out⟩, ⟨by (with_reducible repeat (first | refine kN_ ?_ _ | refine kD_ ?_ | refine kA_ ?_ _)); exact BK236.out⟩, ⟨by (with_reducible repeat (first | refine kN_ ?_ _ | refine kD_ ?_ | refine kA_ ?_ _)); exact BK237.out⟩, ⟨by repeat (first | (with_reducible first | exact HK.out | apply Kept.alloc | apply Kept.drewN | apply Kept.drew | refine Kept.setCell ?_ (.inr GW236.out) _ | refine Kept.setCell ?_ (.inr GW237.out) _) | exact HK.out)⟩, ⟨by repeat (first | (with_reducible first | exact HB.out | apply bA_ | apply pN_ | apply bD_ | refine bS_ ?_ GE236.out | refine bS_ ?_ GE237.out) | exact HB.out)⟩⟩
        ·rw [if_neg c26] at H
         exact absurd H (by simp)
       ·rw [if_neg c25] at H
        exact absurd H (by simp)
      ·rw [if_neg c24] at H
       have c24b0 : decide (x32_2 < (l1.length : Int)) = false := decide_eq_false c24
       clear c24
       simp only [Option.some.injEq, Prod.mk.injEq] at H
       obtain ⟨rfl, rfl, rfl⟩ := H
       have hnb117 := NB237_236.out
       have hnc117 := NB236_237.out
       have hcz118_0 : wr.cell? ⟨gb237, 0, none⟩ = some (.slice none 0 0) := (blk_cell BK237.out 0).trans rfl
       have hcz118_1 : wr.cell? ⟨gb237, 1, none⟩ = some (.slice none 0 0) := (blk_cell BK237.out 1).trans rfl
       have hfz118_0 := blk_frozen BK237.out 0
       have hfz118_1 := blk_frozen BK237.out 1
       go_wp2
       refine bodyPost_ret (results_ct rfl _ _ gb237 24 #[.slice none 0 0, .slice none 0 0] (0, 0) _ rfl (by (with_reducible repeat (first | refine kN_ ?_ _ | refine kD_ ?_ | refine kA_ ?_ _)); refine blk_put (cs := #[.slice none 0 0, .slice none 0 0]) ?_ 1 _ rfl; (with_reducible repeat (first | refine kN_ ?_ _ | refine kD_ ?_ | refine kA_ ?_ _)); refine blk_put (cs := #[.slice none 0 0, .slice none 0 0]) ?_ 0 _ rfl; (with_reducible repeat (first | refine kN_ ?_ _ | refine kD_ ?_ | refine kA_ ?_ _)); exact BK237.out) Try.underlying24 rfl (by kernel_rfl)) rfl ?_
       exact ⟨_, _, by first | rfl | (simp [errW_none, errW_some] <;> rfl) | (simp [*, errW_none, errW_some] <;> rfl), by first | exact Kd.R_nil _ _ _ _ _ | exact Kd.N_nil _ _ _ _ _ | exact Kd.V_nil _ _ _ _ _ | exact Kd.Q_nil _ _ _ _ _ | exact Kd.S_nil _ _ _ _ _, by first | exact Kd.R_nil _ _ _ _ _ | exact Kd.N_nil _ _ _ _ _ | exact Kd.V_nil _ _ _ _ _ | exact Kd.Q_nil _ _ _ _ _ | exact Kd.S_nil _ _ _ _ _, by repeat (first | (with_reducible first | exact HB.out | apply bA_ | apply pN_ | apply bD_ | refine bS_ ?_ GE236.out | refine bS_ ?_ GE237.out) | exact HB.out), by repeat (first | (with_reducible first | exact HK.out | apply Kept.alloc | apply Kept.drewN | apply Kept.drew | refine Kept.setCell ?_ (.inr GW236.out) _ | refine Kept.setCell ?_ (.inr GW237.out) _) | exact HK.out)⟩
end Go.Proofs.Ytaeepkgclaacjaa.G
