/- The law FnExactAllRegions: part 2 of the printed functions and the facts on them that its row leans on (merged by this session's slim.py). -/
import Derived.Test.YtbfbgpopbcodcaaZFnExactAllRegions1
namespace Go.Proofs.Ytbfbgpopbcodcaa.G
open Go.RowKit Go.Proofs.YtbfbgpopbcodcaaW.PrintWords Go.Proofs.YtbfbgpopbcodcaaW.PrintLast Go.Proofs.YtbfbgpopbcodcaaW.PrintMore
attribute [local go_sem] max2_int min2_int max_two min_two max_three min_three max_four min_four   -- for this text's walks alone
set_option linter.unusedVariables false
set_option linter.unusedSimpArgs false
/-! ### spec_reGoOn: function 11 -/
mutual
def spec_reGoOn.j0 : Nat → List Int → Int → Int → List Int → List Int → Option (List Int × List Int × Bool)
 | 0, _, _, _, _, _ => none
 | k + 1, x1, x6, x7, x155000, x155001 => spec_reGoOn.l0 k x1 x6 x7 x1 (x1.length : Int) 0 x155000 x155001
def spec_reGoOn.l0 : Nat → List Int → Int → Int → List Int → Int → Int → List Int → List Int → Option (List Int × List Int × Bool)
 | 0, _, _, _, _, _, _, _, _ => none
 | k + 1, x1, x6, x7, x30, x31, x32, x155000, x155001 => if x32 < x31 then (if 0 ≤ x32 then (if x32 < (x30.length : Int) then ((spec_l1Has.f k x155000 x32).bind fun t158 => (if t158 = true then (spec_reGoOn.l0 k x1 x6 x7 x30 x31 (wrap64 (x32 + 1)) x155000 x155001) else (spec_reGoOn.l1 k x1 x6 x7 x32 (rd x30 x32) x7 x30 x31 x32 x155000 x155001))) else (none)) else (none)) else (some (([] : List Int), ([] : List Int), false))
def spec_reGoOn.l1 : Nat → List Int → Int → Int → Int → Int → Int → List Int → Int → Int → List Int → List Int → Option (List Int × List Int × Bool)
 | 0, _, _, _, _, _, _, _, _, _, _, _ => none
 | k + 1, x1, x6, x7, x8, x9, x10, x30, x31, x32, x155000, x155001 => if x10 ≤ x6 then (if x10 > x7 then (if 0 ≤ (wrap64 (x10 - 1)) then (if (wrap64 (x10 - 1)) < (x155000.length : Int) then (if (rd x155000 (wrap64 (x10 - 1))) > x8 then (spec_reGoOn.j3 k x1 x6 x7 x8 x9 x10 x30 x31 x32 true x155000 x155001) else ((spec_reCount.f k x155000 x10 x8).bind fun t160 => (spec_reGoOn.j3 k x1 x6 x7 x8 x9 x10 x30 x31 x32 (t160 != x9) x155000 x155001))) else (none)) else (none)) else ((spec_reCount.f k x155000 x10 x8).bind fun t161 => (spec_reGoOn.j3 k x1 x6 x7 x8 x9 x10 x30 x31 x32 (t161 != x9) x155000 x155001))) else (spec_reGoOn.l0 k x1 x6 x7 x30 x31 (wrap64 (x32 + 1)) x155000 x155001)
def spec_reGoOn.j3 : Nat → List Int → Int → Int → Int → Int → Int → List Int → Int → Int → Bool → List Int → List Int → Option (List Int × List Int × Bool)
 | 0, _, _, _, _, _, _, _, _, _, _, _, _ => none
 | k + 1, x1, x6, x7, x8, x9, x10, x30, x31, x32, x68, x155000, x155001 => if x68 = true then (spec_reGoOn.l1 k x1 x6 x7 x8 x9 (wrap64 (x10 + 1)) x30 x31 x32 x155000 x155001) else ((spec_l1Own.f x155000).bind fun t162 => ((some (([x8] : List Int) : List Int)).bind fun y165 => (if t162.length + y165.length < 17592186044416 then ((spec_l1Own.f x155001).bind fun t171 => ((some (([x10] : List Int) : List Int)).bind fun y174 => (if t171.length + y174.length < 17592186044416 then ((spec_reGoOn.f k (t162 ++ y165) (t171 ++ y174) x1).bind fun bt181 => (if bt181.2.2 = true then (some (bt181.1, bt181.2.1, true)) else (spec_reGoOn.l1 k x1 x6 x7 x8 x9 (wrap64 (x10 + 1)) x30 x31 x32 x155000 x155001))) else (none)))) else (none))))
def spec_reGoOn.f : Nat → List Int → List Int → List Int → Option (List Int × List Int × Bool)
 | 0, _, _, _ => none
 | k + 1, l0_0, l0_1, l1 => if (l0_0.length : Int) = (l1.length : Int) then (some (l0_0, l0_1, true)) else (if (l0_0.length : Int) > 0 then (if 0 ≤ (wrap64 ((l0_0.length : Int) - 1)) then (if (wrap64 ((l0_0.length : Int) - 1)) < (l0_1.length : Int) then (spec_reGoOn.j0 k l1 (l0_0.length : Int) (rd l0_1 (wrap64 ((l0_0.length : Int) - 1))) l0_0 l0_1) else (none)) else (none)) else (spec_reGoOn.j0 k l1 (l0_0.length : Int) 0 l0_0 l0_1))
end
theorem spec_reGoOn.mono_l : ∀ k, (∀ y0 y1 y2, LeO (spec_reGoOn.f k y0 y1 y2) (spec_reGoOn.f (k + 1) y0 y1 y2)) ∧ (∀ y0 y1 y2 y3 y4, LeO (spec_reGoOn.j0 k y0 y1 y2 y3 y4) (spec_reGoOn.j0 (k + 1) y0 y1 y2 y3 y4)) ∧ (∀ y0 y1 y2 y3 y4 y5 y6 y7, LeO (spec_reGoOn.l0 k y0 y1 y2 y3 y4 y5 y6 y7) (spec_reGoOn.l0 (k + 1) y0 y1 y2 y3 y4 y5 y6 y7)) ∧ (∀ y0 y1 y2 y3 y4 y5 y6 y7 y8 y9 y10, LeO (spec_reGoOn.l1 k y0 y1 y2 y3 y4 y5 y6 y7 y8 y9 y10) (spec_reGoOn.l1 (k + 1) y0 y1 y2 y3 y4 y5 y6 y7 y8 y9 y10)) ∧ (∀ y0 y1 y2 y3 y4 y5 y6 y7 y8 y9 y10 y11, LeO (spec_reGoOn.j3 k y0 y1 y2 y3 y4 y5 y6 y7 y8 y9 y10 y11) (spec_reGoOn.j3 (k + 1) y0 y1 y2 y3 y4 y5 y6 y7 y8 y9 y10 y11))
 | 0 => ⟨fun _ _ _ r h => by simp [spec_reGoOn.f] at h, fun _ _ _ _ _ r h => by simp [spec_reGoOn.j0] at h, fun _ _ _ _ _ _ _ _ r h => by simp [spec_reGoOn.l0] at h, fun _ _ _ _ _ _ _ _ _ _ _ r h => by simp [spec_reGoOn.l1] at h, fun _ _ _ _ _ _ _ _ _ _ _ _ r h => by simp [spec_reGoOn.j3] at h⟩
 | k + 1 => by
  obtain ⟨ih0, ih1, ih2, ih3, ih4⟩ := spec_reGoOn.mono_l k
  refine ⟨?_, ?_, ?_, ?_, ?_⟩
  ·intro y0 y1 y2
   unfold spec_reGoOn.f
   repeat' first
   | (with_reducible exact ih0 _ _ _)
   | (with_reducible exact ih1 _ _ _ _ _)
   | (with_reducible exact ih2 _ _ _ _ _ _ _ _)
   | (with_reducible exact ih3 _ _ _ _ _ _ _ _ _ _ _)
   | (with_reducible exact ih4 _ _ _ _ _ _ _ _ _ _ _ _)
   | (with_reducible exact spec_l1Has.mono _ _ _)
   | (with_reducible exact spec_reCount.mono _ _ _ _)
   | (with_reducible exact LeO.refl _)
   | (with_reducible exact LeO.none _)
   | (with_reducible refine LeO.ite ?_ ?_)
   | (with_reducible refine LeO.bind ?_ (fun _ => ?_))
   | exact ih0 _ _ _
   | exact ih1 _ _ _ _ _
   | exact ih2 _ _ _ _ _ _ _ _
   | exact ih3 _ _ _ _ _ _ _ _ _ _ _
   | exact ih4 _ _ _ _ _ _ _ _ _ _ _ _
   | exact spec_l1Has.mono _ _ _
   | exact spec_reCount.mono _ _ _ _
   | exact LeO.none _
   | refine LeO.ite ?_ ?_
   | refine LeO.bind ?_ (fun _ => ?_)
  ·intro y0 y1 y2 y3 y4
   unfold spec_reGoOn.j0
   repeat' first
   | (with_reducible exact ih0 _ _ _)
   | (with_reducible exact ih1 _ _ _ _ _)
   | (with_reducible exact ih2 _ _ _ _ _ _ _ _)
   | (with_reducible exact ih3 _ _ _ _ _ _ _ _ _ _ _)
   | (with_reducible exact ih4 _ _ _ _ _ _ _ _ _ _ _ _)
   | (with_reducible exact spec_l1Has.mono _ _ _)
   | (with_reducible exact spec_reCount.mono _ _ _ _)
   | (with_reducible exact LeO.refl _)
   | (with_reducible exact LeO.none _)
   | (with_reducible refine LeO.ite ?_ ?_)
   | (with_reducible refine LeO.bind ?_ (fun _ => ?_))
   | exact ih0 _ _ _
   | exact ih1 _ _ _ _ _
   | exact ih2 _ _ _ _ _ _ _ _
   | exact ih3 _ _ _ _ _ _ _ _ _ _ _
   | exact ih4 _ _ _ _ _ _ _ _ _ _ _ _
   | exact spec_l1Has.mono _ _ _
   | exact spec_reCount.mono _ _ _ _
   | exact LeO.none _
   | refine LeO.ite ?_ ?_
   | refine LeO.bind ?_ (fun _ => ?_)
  ·intro y0 y1 y2 y3 y4 y5 y6 y7
   unfold spec_reGoOn.l0
   repeat' first
   | (with_reducible exact ih0 _ _ _)
   | (with_reducible exact ih1 _ _ _ _ _)
   | (with_reducible exact ih2 _ _ _ _ _ _ _ _)
   | (with_reducible exact ih3 _ _ _ _ _ _ _ _ _ _ _)
   | (with_reducible exact ih4 _ _ _ _ _ _ _ _ _ _ _ _)
   | (with_reducible exact spec_l1Has.mono _ _ _)
   | (with_reducible exact spec_reCount.mono _ _ _ _)
   | (with_reducible exact LeO.refl _)
   | (with_reducible exact LeO.none _)
   | (with_reducible refine LeO.ite ?_ ?_)
   | (with_reducible refine LeO.bind ?_ (fun _ => ?_))
   | exact ih0 _ _ _
   | exact ih1 _ _ _ _ _
   | exact ih2 _ _ _ _ _ _ _ _
   | exact ih3 _ _ _ _ _ _ _ _ _ _ _
   | exact ih4 _ _ _ _ _ _ _ _ _ _ _ _
   | exact spec_l1Has.mono _ _ _
   | exact spec_reCount.mono _ _ _ _
   | exact LeO.none _
   | refine LeO.ite ?_ ?_
   | refine LeO.bind ?_ (fun _ => ?_)
  ·intro y0 y1 y2 y3 y4 y5 y6 y7 y8 y9 y10
   unfold spec_reGoOn.l1
   repeat' first
   | (with_reducible exact ih0 _ _ _)
   | (with_reducible exact ih1 _ _ _ _ _)
   | (with_reducible exact ih2 _ _ _ _ _ _ _ _)
   | (with_reducible exact ih3 _ _ _ _ _ _ _ _ _ _ _)
   | (with_reducible exact ih4 _ _ _ _ _ _ _ _ _ _ _ _)
   | (with_reducible exact spec_l1Has.mono _ _ _)
   | (with_reducible exact spec_reCount.mono _ _ _ _)
   | (with_reducible exact LeO.refl _)
   | (with_reducible exact LeO.none _)
   | (with_reducible refine LeO.ite ?_ ?_)
   | (with_reducible refine LeO.bind ?_ (fun _ => ?_))
   | exact ih0 _ _ _
   | exact ih1 _ _ _ _ _
   | exact ih2 _ _ _ _ _ _ _ _
   | exact ih3 _ _ _ _ _ _ _ _ _ _ _
   | exact ih4 _ _ _ _ _ _ _ _ _ _ _ _
   | exact spec_l1Has.mono _ _ _
   | exact spec_reCount.mono _ _ _ _
   | exact LeO.none _
   | refine LeO.ite ?_ ?_
   | refine LeO.bind ?_ (fun _ => ?_)
  ·intro y0 y1 y2 y3 y4 y5 y6 y7 y8 y9 y10 y11
   unfold spec_reGoOn.j3
   repeat' first
   | (with_reducible exact ih0 _ _ _)
   | (with_reducible exact ih1 _ _ _ _ _)
   | (with_reducible exact ih2 _ _ _ _ _ _ _ _)
   | (with_reducible exact ih3 _ _ _ _ _ _ _ _ _ _ _)
   | (with_reducible exact ih4 _ _ _ _ _ _ _ _ _ _ _ _)
   | (with_reducible exact spec_l1Has.mono _ _ _)
   | (with_reducible exact spec_reCount.mono _ _ _ _)
   | (with_reducible exact LeO.refl _)
   | (with_reducible exact LeO.none _)
   | (with_reducible refine LeO.ite ?_ ?_)
   | (with_reducible refine LeO.bind ?_ (fun _ => ?_))
   | exact ih0 _ _ _
   | exact ih1 _ _ _ _ _
   | exact ih2 _ _ _ _ _ _ _ _
   | exact ih3 _ _ _ _ _ _ _ _ _ _ _
   | exact ih4 _ _ _ _ _ _ _ _ _ _ _ _
   | exact spec_l1Has.mono _ _ _
   | exact spec_reCount.mono _ _ _ _
   | exact LeO.none _
   | refine LeO.ite ?_ ?_
   | refine LeO.bind ?_ (fun _ => ?_)
theorem spec_reGoOn.mono : ∀ a0 a1 a2 k, LeO (spec_reGoOn.f k a0 a1 a2) (spec_reGoOn.f (k + 1) a0 a1 a2) := by
 intro a0 a1 a2 k
 obtain ⟨ih0, ih1, ih2, ih3, ih4⟩ := spec_reGoOn.mono_l k
 exact ih0 a0 a1 a2
def spec_reGoOn.T15 : Bool × List (List Nat × List Nat) := (true, [([], []), ([0], [0]), ([1], [1]), ([], []), ([3], [3]), ([2, 4, 2], [2, 4]), ([], []), ([6], [6]), ([7, 5], [7]), ([], []), ([9], [9]), ([8, 10, 8], [8, 10]), ([5, 11], [5, 11]), ([], []), ([13, 12, 11, 0, 1, 2, 3, 4, 5, 6, 7, 8, 9, 10, 11, 12, 13], [12, 13])])
def spec_reGoOn.B15 : List Nat := [0, 1, 3, 0, 8, 31, 0, 64, 255, 0, 512, 2047, 4095, 0, 16383]
theorem spec_reGoOn.tab15 : rtab .any (opsOf Try.f11 15) = spec_reGoOn.T15 := by kernel_rfl
theorem spec_reGoOn.bits15 : waitsOk spec_reGoOn.T15.2 spec_reGoOn.B15 = true := by kernel_rfl
set_option maxHeartbeats 80000000 in
set_option maxRecDepth 100000 in
theorem spec_reGoOn.calls (k : Nat) : ∀ (P0_0_ : Nat → Prop) (u9000_ : Value) (l0_0 : List Int) (P0_1_ : Nat → Prop) (u9001_ : Value) (l0_1 : List Int) (A1 : Option Addr) (c1 : Nat) (l1 : List Int) (r1 : List Int) (r2 : List Int) (r3 : Bool) (w0 w : World) (hB : Below w0.heap.size w0 w) (ho0_0 : Kd.R (Kd.int .i64) 3 w w0.heap.size P0_0_ u9000_ l0_0) (hp0_0_0_1 : ∀ k_, P0_0_ k_ → ¬ P0_1_ k_) (ho0_1 : Kd.R (Kd.int .i64) 3 w w0.heap.size P0_1_ u9001_ l0_1) (hp0_1_0_0 : ∀ k_, P0_1_ k_ → ¬ P0_0_ k_) (hr1 : ∀ W_, Kept w W_ (fun k_ => P0_0_ k_ ∨ P0_1_ k_) → Kd.C (Kd.int .i64) W_ A1 l1.length l1) (hc1 : l1.length ≤ c1) (h : spec_reGoOn.f k l0_0 l0_1 l1 = some (r1, r2, r3)),
  Calls Try.prog 11 #[.agg #[u9000_, u9001_], .slice A1 l1.length c1] w fun e w' => ∃ v0_ v1_ : Value, e = .returned (.tuple #[.agg #[v0_, v1_], .bool r3]) ∧ Kd.R (Kd.int .i64) 3 w' w0.heap.size (fun k_ => ((P0_0_ k_ ∨ P0_1_ k_) ∨ w.heap.size ≤ k_) ∧ some k_ ≠ (v1_ : Value).ownBlock) v0_ r1 ∧ Kd.R (Kd.int .i64) 3 w' w0.heap.size (fun k_ => ((P0_0_ k_ ∨ P0_1_ k_) ∨ w.heap.size ≤ k_) ∧ some k_ ≠ (v0_ : Value).ownBlock) v1_ r2 ∧ Below w0.heap.size w0 w' ∧ Kept w w' (fun k_ => P0_0_ k_ ∨ P0_1_ k_) := by
 induction k using Nat.strongRecOn with
 | _ k ih =>
 intro P0_0_ u9000_ l0_0 P0_1_ u9001_ l0_1 A1 c1 l1 r1 r2 r3 w0 w hB ho0_0 hp0_0_0_1 ho0_1 hp0_1_0_0 hr1 hc1 h
 cases k with
 | zero => exact absurd h (by simp [spec_reGoOn.f])
 | succ k =>
 simp only [spec_reGoOn.f] at h
 have hu34 := Try.underlying34
 have HO0_0 := aS_ (show Kd.R (Kd.int .i64) 3 w w0.heap.size (fun k_ => ((P0_0_ k_ ∨ P0_1_ k_) ∨ w.heap.size ≤ k_) ∧ some k_ ≠ (u9001_ : Value).ownBlock) u9000_ l0_0 from Kd.R_mono ho0_0 (fun k_ hk => ⟨(.inl (.inl hk)), fun e_ => hp0_0_0_1 k_ hk (ho0_1.1 k_ e_.symm)⟩))
 have HO0_1 := aS_ (show Kd.R (Kd.int .i64) 3 w w0.heap.size (fun k_ => ((P0_0_ k_ ∨ P0_1_ k_) ∨ w.heap.size ≤ k_) ∧ some k_ ≠ (u9000_ : Value).ownBlock) u9001_ l0_1 from Kd.R_mono ho0_1 (fun k_ hk => ⟨(.inl (.inr hk)), fun e_ => hp0_1_0_0 k_ hk (ho0_0.1 k_ e_.symm)⟩))
 have HR1 := aS_ hr1
 have HC1 := aS_ hc1
 clear hr1 hc1
 have HK := aS_ (Kept.refl w (fun k_ => P0_0_ k_ ∨ P0_1_ k_))
 have HW0 := aS_ hB.size
 have HB := aS_ hB
 clear hB
 have H : (if (l0_0.length : Int) = (l1.length : Int) then (some (l0_0, l0_1, true)) else (if (l0_0.length : Int) > 0 then (if 0 ≤ (wrap64 ((l0_0.length : Int) - 1)) then (if (wrap64 ((l0_0.length : Int) - 1)) < (l0_1.length : Int) then (spec_reGoOn.j0 k l1 (l0_0.length : Int) (rd l0_1 (wrap64 ((l0_0.length : Int) - 1))) l0_0 l0_1) else (none)) else (none)) else (spec_reGoOn.j0 k l1 (l0_0.length : Int) 0 l0_0 l0_1))) = some (r1, r2, r3) := h
 clear h
 by_cases c3 : (l0_0.length : Int) = (l1.length : Int)
 ·rw [if_pos c3] at H
  have c3b0 : ((l0_0.length : Int) == (l1.length : Int)) = true := beq_iff_eq.mpr c3
  have c3b1 : ((l0_0.length : Int) != (l1.length : Int)) = false := bne_eq_false_iff_eq.mpr c3
  have c3b2 : (l0_0.length == l1.length) = true := by first | simpa using c3 | (simp at c3 ⊢; omega)
  clear c3
  simp only [Option.some.injEq, Prod.mk.injEq] at H
  obtain ⟨rfl, rfl, rfl⟩ := H
  obtain ⟨Ao4, co4, eo4⟩ := Kd.R_slice HO0_0.out
  subst eo4
  obtain ⟨Ao5, co5, eo5⟩ := Kd.R_slice HO0_1.out
  subst eo5
  go_enter Try.func11, Try.ntmps11
  go_wp2_with (first | ((with_reducible refine gate_dst (N := 2) rfl ?_); refine box_event ?hg (N := 2) ?hd (cs := #[.slice Ao4 l0_0.length co4, .slice Ao5 l0_1.length co5]) (t := 34) ?hr ?_; (case hd => rfl); (case hg => rfl); (case hr => first | (go_simp; done) | (go_simp; rfl)); intro gb154 hg w6 hbox hb; have n0_ := aS_ (Kd.R_below (by (with_reducible repeat (first | apply rA_ | apply rN_ | apply rD_)); exact HO0_0.out) hb); have n1_ := aS_ (Kd.R_below (by (with_reducible repeat (first | apply rA_ | apply rN_ | apply rD_)); exact HO0_1.out) hb); have n2_ := aS_ (Kept.below (S := (fun k_ => P0_0_ k_ ∨ P0_1_ k_)) (by repeat (first | (with_reducible first | exact HK.out | apply Kept.alloc | apply Kept.drewN | apply Kept.drew) | exact HK.out)) hb); have n3_ := aS_ (below_step (by repeat (first | (with_reducible first | exact HB.out | apply bA_ | apply pN_ | apply bD_) | exact HB.out)) hb); have n4_ := aS_ (hbox); have n5_ := aS_ ((by rw [hg]; exact (by first | exact HK.out.1 | exact (show Kept w _ (fun k_ => P0_0_ k_ ∨ P0_1_ k_) from by repeat (first | (with_reducible first | exact HK.out | apply Kept.alloc | apply Kept.drewN | apply Kept.drew) | exact HK.out)).1) : w.heap.size ≤ gb154)); have n6_ := aS_ ((by rw [hg]; exact (below_size (by repeat (first | (with_reducible first | exact HB.out | apply bA_ | apply pN_ | apply bD_) | exact HB.out))) : w0.heap.size ≤ gb154)); clear HO0_0; clear HO0_1; clear HK; clear HB; have HO0_0 := n0_; have HO0_1 := n1_; have HK := n2_; have HB := n3_; have BK154 := n4_; have GW154 := n5_; have GE154 := n6_; clear n0_ n1_ n2_ n3_ n4_ n5_ n6_; clear hb hbox hg) | ((with_reducible refine gate_dst (N := 4) rfl ?_); refine box_event ?hg (N := 4) ?hd (cs := #[.slice none 0 0, .slice none 0 0]) (t := 34) ?hr ?_; (case hd => rfl); (case hg => rfl); (case hr => first | (go_simp; done) | (go_simp; rfl)); intro gb155 hg w7 hbox hb; have n0_ := aS_ (Kd.R_below (by (with_reducible repeat (first | apply rA_ | apply rN_ | apply rD_)); exact HO0_0.out) hb); have n1_ := aS_ (Kd.R_below (by (with_reducible repeat (first | apply rA_ | apply rN_ | apply rD_)); exact HO0_1.out) hb); have n2_ := aS_ (blk_below (g := gb154) (o := .cells #[.slice Ao4 l0_0.length co4, .slice Ao5 l0_1.length co5] 34 (0, 0)) (by (with_reducible repeat (first | refine kN_ ?_ _ | refine kD_ ?_ | refine kA_ ?_ _)); exact BK154.out) hb); have n3_ := aS_ (Kept.below (S := (fun k_ => P0_0_ k_ ∨ P0_1_ k_)) (by repeat (first | (with_reducible first | exact HK.out | apply Kept.alloc | apply Kept.drewN | apply Kept.drew | refine Kept.setCell ?_ (.inr GW154.out) _) | exact HK.out)) hb); have n4_ := aS_ (below_step (by repeat (first | (with_reducible first | exact HB.out | apply bA_ | apply pN_ | apply bD_ | refine bS_ ?_ GE154.out) | exact HB.out)) hb); have n5_ := aS_ (hbox); have n6_ := aS_ ((by rw [hg]; exact (by first | exact HK.out.1 | exact (show Kept w _ (fun k_ => P0_0_ k_ ∨ P0_1_ k_) from by repeat (first | (with_reducible first | exact HK.out | apply Kept.alloc | apply Kept.drewN | apply Kept.drew | refine Kept.setCell ?_ (.inr GW154.out) _) | exact HK.out)).1) : w.heap.size ≤ gb155)); have n7_ := aS_ ((by rw [hg]; exact (below_size (by repeat (first | (with_reducible first | exact HB.out | apply bA_ | apply pN_ | apply bD_ | refine bS_ ?_ GE154.out) | exact HB.out))) : w0.heap.size ≤ gb155)); have n8_ := aS_ ((by rw [hg]; exact Nat.ne_of_lt (blk_lt (g := gb154) (o := .cells #[.slice Ao4 l0_0.length co4, .slice Ao5 l0_1.length co5] 34 (0, 0)) (by (with_reducible repeat (first | refine kN_ ?_ _ | refine kD_ ?_ | refine kA_ ?_ _)); exact BK154.out)) : gb154 ≠ gb155)); have n9_ := aS_ ((by rw [hg]; exact Nat.ne_of_gt (blk_lt (g := gb154) (o := .cells #[.slice Ao4 l0_0.length co4, .slice Ao5 l0_1.length co5] 34 (0, 0)) (by (with_reducible repeat (first | refine kN_ ?_ _ | refine kD_ ?_ | refine kA_ ?_ _)); exact BK154.out)) : gb155 ≠ gb154)); clear HO0_0; clear HO0_1; clear BK154; clear HK; clear HB; have HO0_0 := n0_; have HO0_1 := n1_; have BK154 := n2_; have HK := n3_; have HB := n4_; have BK155 := n5_; have GW155 := n6_; have GE155 := n7_; have NB154_155 := n8_; have NB155_154 := n9_; clear n0_ n1_ n2_ n3_ n4_ n5_ n6_ n7_ n8_ n9_; clear hb hbox hg; have hnb8 := NB154_155.out; have hnc8 := NB155_154.out; have hcz9_0 : w7.cell? ⟨gb154, 0, none⟩ = some (.slice Ao4 l0_0.length co4) := (blk_cell BK154.out 0).trans rfl; have hcz9_1 : w7.cell? ⟨gb154, 1, none⟩ = some (.slice Ao5 l0_1.length co5) := (blk_cell BK154.out 1).trans rfl; have hfz9_0 := blk_frozen BK154.out 0; have hfz9_1 := blk_frozen BK154.out 1; have hcz10_0 : w7.cell? ⟨gb155, 0, none⟩ = some (.slice none 0 0) := (blk_cell BK155.out 0).trans rfl; have hcz10_1 : w7.cell? ⟨gb155, 1, none⟩ = some (.slice none 0 0) := (blk_cell BK155.out 1).trans rfl; have hfz10_0 := blk_frozen BK155.out 0; have hfz10_1 := blk_frozen BK155.out 1))
  refine bodyPost_ret (results_ct rfl _ _ gb155 34 #[.slice Ao4 l0_0.length co4, .slice Ao5 l0_1.length co5] (0, 0) _ rfl (by (with_reducible repeat (first | refine kN_ ?_ _ | refine kD_ ?_ | refine kA_ ?_ _)); refine blk_put (cs := #[.slice Ao4 l0_0.length co4, .slice none 0 0]) ?_ 1 _ rfl; (with_reducible repeat (first | refine kN_ ?_ _ | refine kD_ ?_ | refine kA_ ?_ _)); refine blk_put (cs := #[.slice none 0 0, .slice none 0 0]) ?_ 0 _ rfl; (with_reducible repeat (first | refine kN_ ?_ _ | refine kD_ ?_ | refine kA_ ?_ _)); exact BK155.out) Try.underlying34 rfl (by kernel_rfl)) rfl ?_
  exact ⟨_, _, by first | rfl | (simp [errW_none, errW_some] <;> rfl) | (simp [*, errW_none, errW_some] <;> rfl), by (with_reducible repeat (first | apply rA_ | apply rN_ | apply rD_)); exact Kd.R_mono (Kd.R_far (p := ⟨gb155, 1, none⟩) (Kd.R_far (p := ⟨gb155, 0, none⟩) (Kd.R_types HO0_0.out BK155.out (by decide)) (fun _ hk => hk.2) (.slice Ao4 l0_0.length co4)) (fun _ hk => hk.2) (.slice Ao5 l0_1.length co5)) (fun _ hk => by first | exact ⟨hk.1.1, hk.1.2⟩ | (simp only [hk, ne_eq, not_false_eq_true, and_self])), by (with_reducible repeat (first | apply rA_ | apply rN_ | apply rD_)); exact Kd.R_mono (Kd.R_far (p := ⟨gb155, 1, none⟩) (Kd.R_far (p := ⟨gb155, 0, none⟩) (Kd.R_types HO0_1.out BK155.out (by decide)) (fun _ hk => hk.2) (.slice Ao4 l0_0.length co4)) (fun _ hk => hk.2) (.slice Ao5 l0_1.length co5)) (fun _ hk => by first | exact ⟨hk.1.1, hk.1.2⟩ | (simp only [hk, ne_eq, not_false_eq_true, and_self])), by repeat (first | (with_reducible first | exact HB.out | apply bA_ | apply pN_ | apply bD_ | refine bS_ ?_ GE154.out | refine bS_ ?_ GE155.out) | exact HB.out), by repeat (first | (with_reducible first | exact HK.out | apply Kept.alloc | apply Kept.drewN | apply Kept.drew | refine Kept.setCell ?_ (.inr GW154.out) _ | refine Kept.setCell ?_ (.inr GW155.out) _) | exact HK.out)⟩
 ·rw [if_neg c3] at H
  have c3b0 : ((l0_0.length : Int) == (l1.length : Int)) = false := beq_eq_false_iff_ne.mpr c3
  have c3b1 : ((l0_0.length : Int) != (l1.length : Int)) = true := bne_iff_ne.mpr c3
  have c3b2 : (l0_0.length == l1.length) = false := by first | simpa using c3 | (simp at c3 ⊢; omega)
  have HC11 := aS_ H
  clear H
  obtain ⟨Ao12, co12, eo12⟩ := Kd.R_slice HO0_0.out
  subst eo12
  obtain ⟨Ao13, co13, eo13⟩ := Kd.R_slice HO0_1.out
  subst eo13
  go_enter Try.func11, Try.ntmps11
  go_upto_if 23 with (first | ((with_reducible refine gate_dst (N := 2) rfl ?_); refine box_event ?hg (N := 2) ?hd (cs := #[.slice Ao12 l0_0.length co12, .slice Ao13 l0_1.length co13]) (t := 34) ?hr ?_; (case hd => rfl); (case hg => rfl); (case hr => first | (go_simp; done) | (go_simp; rfl)); intro gb154 hg w14 hbox hb; have n0_ := aS_ (Kd.R_below (by (with_reducible repeat (first | apply rA_ | apply rN_ | apply rD_)); exact HO0_0.out) hb); have n1_ := aS_ (Kd.R_below (by (with_reducible repeat (first | apply rA_ | apply rN_ | apply rD_)); exact HO0_1.out) hb); have n2_ := aS_ (Kept.below (S := (fun k_ => P0_0_ k_ ∨ P0_1_ k_)) (by repeat (first | (with_reducible first | exact HK.out | apply Kept.alloc | apply Kept.drewN | apply Kept.drew) | exact HK.out)) hb); have n3_ := aS_ (below_step (by repeat (first | (with_reducible first | exact HB.out | apply bA_ | apply pN_ | apply bD_) | exact HB.out)) hb); have n4_ := aS_ (hbox); have n5_ := aS_ ((by rw [hg]; exact (by first | exact HK.out.1 | exact (show Kept w _ (fun k_ => P0_0_ k_ ∨ P0_1_ k_) from by repeat (first | (with_reducible first | exact HK.out | apply Kept.alloc | apply Kept.drewN | apply Kept.drew) | exact HK.out)).1) : w.heap.size ≤ gb154)); have n6_ := aS_ ((by rw [hg]; exact (below_size (by repeat (first | (with_reducible first | exact HB.out | apply bA_ | apply pN_ | apply bD_) | exact HB.out))) : w0.heap.size ≤ gb154)); clear HO0_0; clear HO0_1; clear HK; clear HB; have HO0_0 := n0_; have HO0_1 := n1_; have HK := n2_; have HB := n3_; have BK154 := n4_; have GW154 := n5_; have GE154 := n6_; clear n0_ n1_ n2_ n3_ n4_ n5_ n6_; clear hb hbox hg) | ((with_reducible refine gate_dst (N := 4) rfl ?_); refine box_event ?hg (N := 4) ?hd (cs := #[.slice none 0 0, .slice none 0 0]) (t := 34) ?hr ?_; (case hd => rfl); (case hg => rfl); (case hr => first | (go_simp; done) | (go_simp; rfl)); intro gb155 hg w15 hbox hb; have n0_ := aS_ (Kd.R_below (by (with_reducible repeat (first | apply rA_ | apply rN_ | apply rD_)); exact HO0_0.out) hb); have n1_ := aS_ (Kd.R_below (by (with_reducible repeat (first | apply rA_ | apply rN_ | apply rD_)); exact HO0_1.out) hb); have n2_ := aS_ (blk_below (g := gb154) (o := .cells #[.slice Ao12 l0_0.length co12, .slice Ao13 l0_1.length co13] 34 (0, 0)) (by (with_reducible repeat (first | refine kN_ ?_ _ | refine kD_ ?_ | refine kA_ ?_ _)); exact BK154.out) hb); have n3_ := aS_ (Kept.below (S := (fun k_ => P0_0_ k_ ∨ P0_1_ k_)) (by repeat (first | (with_reducible first | exact HK.out | apply Kept.alloc | apply Kept.drewN | apply Kept.drew | refine Kept.setCell ?_ (.inr GW154.out) _) | exact HK.out)) hb); have n4_ := aS_ (below_step (by repeat (first | (with_reducible first | exact HB.out | apply bA_ | apply pN_ | apply bD_ | refine bS_ ?_ GE154.out) | exact HB.out)) hb); have n5_ := aS_ (hbox); have n6_ := aS_ ((by rw [hg]; exact (by first | exact HK.out.1 | exact (show Kept w _ (fun k_ => P0_0_ k_ ∨ P0_1_ k_) from by repeat (first | (with_reducible first | exact HK.out | apply Kept.alloc | apply Kept.drewN | apply Kept.drew | refine Kept.setCell ?_ (.inr GW154.out) _) | exact HK.out)).1) : w.heap.size ≤ gb155)); have n7_ := aS_ ((by rw [hg]; exact (below_size (by repeat (first | (with_reducible first | exact HB.out | apply bA_ | apply pN_ | apply bD_ | refine bS_ ?_ GE154.out) | exact HB.out))) : w0.heap.size ≤ gb155)); have n8_ := aS_ ((by rw [hg]; exact Nat.ne_of_lt (blk_lt (g := gb154) (o := .cells #[.slice Ao12 l0_0.length co12, .slice Ao13 l0_1.length co13] 34 (0, 0)) (by (with_reducible repeat (first | refine kN_ ?_ _ | refine kD_ ?_ | refine kA_ ?_ _)); exact BK154.out)) : gb154 ≠ gb155)); have n9_ := aS_ ((by rw [hg]; exact Nat.ne_of_gt (blk_lt (g := gb154) (o := .cells #[.slice Ao12 l0_0.length co12, .slice Ao13 l0_1.length co13] 34 (0, 0)) (by (with_reducible repeat (first | refine kN_ ?_ _ | refine kD_ ?_ | refine kA_ ?_ _)); exact BK154.out)) : gb155 ≠ gb154)); clear HO0_0; clear HO0_1; clear BK154; clear HK; clear HB; have HO0_0 := n0_; have HO0_1 := n1_; have BK154 := n2_; have HK := n3_; have HB := n4_; have BK155 := n5_; have GW155 := n6_; have GE155 := n7_; have NB154_155 := n8_; have NB155_154 := n9_; clear n0_ n1_ n2_ n3_ n4_ n5_ n6_ n7_ n8_ n9_; clear hb hbox hg; have hnb16 := NB154_155.out; have hnc16 := NB155_154.out; have hcz17_0 : w15.cell? ⟨gb154, 0, none⟩ = some (.slice Ao12 l0_0.length co12) := (blk_cell BK154.out 0).trans rfl; have hcz17_1 : w15.cell? ⟨gb154, 1, none⟩ = some (.slice Ao13 l0_1.length co13) := (blk_cell BK154.out 1).trans rfl; have hfz17_0 := blk_frozen BK154.out 0; have hfz17_1 := blk_frozen BK154.out 1))
  (try simp only [Act.put, List.setIfInBounds_toArray, List.set_cons_zero, List.set_cons_succ])
  go_cut [7] (fun v7 wc => ∃ (kq : Nat) (x7_10 : Int), v7 = .int .i64 x7_10 ∧ Aside0 (spec_reGoOn.j0 kq l1 (l0_0.length : Int) x7_10 l0_0 l0_1 = some (r1, r2, r3)) ∧ Aside0 (kq ≤ k) ∧ Aside0 (Kd.R (Kd.int .i64) 3 wc w0.heap.size (fun k_ => ((P0_0_ k_ ∨ P0_1_ k_) ∨ w.heap.size ≤ k_) ∧ some k_ ≠ ((.slice Ao13 l0_1.length co13) : Value).ownBlock) (.slice Ao12 l0_0.length co12) l0_0) ∧ Aside0 (Kd.R (Kd.int .i64) 3 wc w0.heap.size (fun k_ => ((P0_0_ k_ ∨ P0_1_ k_) ∨ w.heap.size ≤ k_) ∧ some k_ ≠ ((.slice Ao12 l0_0.length co12) : Value).ownBlock) (.slice Ao13 l0_1.length co13) l0_1) ∧ Aside0 (wc.heap[gb154]? = some (.cells #[(.slice Ao12 l0_0.length co12), (.slice Ao13 l0_1.length co13)] 34 (0, 0))) ∧ Aside0 (wc.heap[gb155]? = some (.cells #[(.slice none 0 0), (.slice none 0 0)] 34 (0, 0))) ∧ Aside0 (Kept w wc (fun k_ => P0_0_ k_ ∨ P0_1_ k_)) ∧ Aside0 (Below w0.heap.size w0 wc))
  case first =>
   have H := HC11.out
   clear HC11
   by_cases c18 : (l0_0.length : Int) > 0
   ·rw [if_pos c18] at H
    have c18b0 : decide (0 < (l0_0.length : Int)) = true := decide_eq_true c18
    have c18b1 : decide (0 < l0_0.length) = true := decide_eq_true (by omega)
    clear c18
    (first | rw [c18b0] | (simp only [i64_w, i32_w]; rw [c18b0]) | rw [c18b1] | skip)
    obtain ⟨ji19, hji19⟩ : ∃ j_ : Int, (wrap64 ((l0_0.length : Int) - 1)) = j_ := ⟨_, rfl⟩
    replace H : (if 0 ≤ (ji19) then (if (ji19) < (l0_1.length : Int) then (spec_reGoOn.j0 k l1 (l0_0.length : Int) (rd l0_1 (ji19)) l0_0 l0_1) else (none)) else (none)) = some (r1, r2, r3) := by first | (rw [hji19] at H; exact H) | (simp only [hji19] at H ⊢; exact H)
    have hji19w : (IntKind.i64.wrap ((l0_0.length : Int) - 1)) = ji19 := (i64_w _).trans hji19
    by_cases c20 : 0 ≤ (ji19)
    ·rw [if_pos c20] at H
     have c20b0 : decide (0 ≤ (ji19)) = true := decide_eq_true c20
     clear c20
     by_cases c21 : (ji19) < (l0_1.length : Int)
     ·rw [if_pos c21] at H
      have c21b0 : decide ((ji19) < (l0_1.length : Int)) = true := decide_eq_true c21
      clear c21
      have H' := aS_ H
      clear H
      have hnb22 := NB154_155.out
      have hnc22 := NB155_154.out
      have hcz23_0 : w15.cell? ⟨gb154, 0, none⟩ = some (.slice Ao12 l0_0.length co12) := (blk_cell BK154.out 0).trans rfl
      have hcz23_1 : w15.cell? ⟨gb154, 1, none⟩ = some (.slice Ao13 l0_1.length co13) := (blk_cell BK154.out 1).trans rfl
      have hfz23_0 := blk_frozen BK154.out 0
      have hfz23_1 := blk_frozen BK154.out 1
      have p156 : 0 ≤ ((ji19) : Int) := of_decide_eq_true (by assumption)
      have q156 : (ji19) < (l0_1.length : Int) := of_decide_eq_true (by assumption)
      obtain ⟨ad156, e156, hx156_0⟩ := Kd.at_int (Kd.R_reads' HO0_1.out).2.2 (ji19) p156 q156
      cases e156
      replace p156 := eq_true p156
      replace q156 := eq_true q156
      go_wp2
      go_meet
      case rel => exact ⟨_, (rd l0_1 (ji19)), (by first | rfl | (simp; done) | (simp only [← hji19] <;> (first | rfl | simp)) | (simp [*]; done)), H', ⟨by first | omega | exact Nat.le_refl _⟩, ⟨by (with_reducible repeat (first | apply rA_ | apply rN_ | apply rD_)); exact HO0_0.out⟩, ⟨by (with_reducible repeat (first | apply rA_ | apply rN_ | apply rD_)); exact HO0_1.out⟩, ⟨by (with_reducible repeat (first | refine kN_ ?_ _ | refine kD_ ?_ | refine kA_ ?_ _)); exact BK154.out⟩, ⟨by (with_reducible repeat (first | refine kN_ ?_ _ | refine kD_ ?_ | refine kA_ ?_ _)); exact BK155.out⟩, ⟨by repeat (first | (with_reducible first | exact HK.out | apply Kept.alloc | apply Kept.drewN | apply Kept.drew | refine Kept.setCell ?_ (.inr GW154.out) _ | refine Kept.setCell ?_ (.inr GW155.out) _) | exact HK.out)⟩, ⟨by repeat (first | (with_reducible first | exact HB.out | apply bA_ | apply pN_ | apply bD_ | refine bS_ ?_ GE154.out | refine bS_ ?_ GE155.out) | exact HB.out)⟩⟩
     ·rw [if_neg c21] at H
      exact absurd H (by simp)
    ·rw [if_neg c20] at H
     exact absurd H (by simp)
   ·rw [if_neg c18] at H
    have c18b0 : decide (0 < (l0_0.length : Int)) = false := decide_eq_false c18
    have c18b1 : decide (0 < l0_0.length) = false := decide_eq_false (by omega)
    clear c18
    (first | rw [c18b0] | (simp only [i64_w, i32_w]; rw [c18b0]) | rw [c18b1] | skip)
    have H' := aS_ H
    clear H
    go_wp2
    go_meet
    case rel => exact ⟨_, (0), (by first | rfl | (simp; done) | (simp [*]; done)), H', ⟨by first | omega | exact Nat.le_refl _⟩, ⟨by (with_reducible repeat (first | apply rA_ | apply rN_ | apply rD_)); exact HO0_0.out⟩, ⟨by (with_reducible repeat (first | apply rA_ | apply rN_ | apply rD_)); exact HO0_1.out⟩, ⟨by (with_reducible repeat (first | refine kN_ ?_ _ | refine kD_ ?_ | refine kA_ ?_ _)); exact BK154.out⟩, ⟨by (with_reducible repeat (first | refine kN_ ?_ _ | refine kD_ ?_ | refine kA_ ?_ _)); exact BK155.out⟩, ⟨by repeat (first | (with_reducible first | exact HK.out | apply Kept.alloc | apply Kept.drewN | apply Kept.drew | refine Kept.setCell ?_ (.inr GW154.out) _ | refine Kept.setCell ?_ (.inr GW155.out) _) | exact HK.out)⟩, ⟨by repeat (first | (with_reducible first | exact HB.out | apply bA_ | apply pN_ | apply bD_ | refine bS_ ?_ GE154.out | refine bS_ ?_ GE155.out) | exact HB.out)⟩⟩
  case rest =>
   clear HC11
   try clear c1
   try clear p1
   try clear q1
   try clear hx1
   try clear c2
   try clear p2
   try clear c3
   try clear c3b0
   try clear c3b1
   try clear c3b2
   try clear p6
   try clear c8
   try clear c11
   try clear p15
   try clear q15
   try clear hx15
   try clear c16
   try clear c18
   try clear c18b0
   try clear c18b1
   try clear c20
   try clear c20b0
   try clear c21
   try clear c21b0
   try clear c22
   try clear hcz10_0
   try clear hcz10_1
   try clear hcz17_0
   try clear hcz17_1
   try clear hcz23_0
   try clear hcz23_1
   try clear hcz9_0
   try clear hcz9_1
   try clear hfz10_0
   try clear hfz10_1
   try clear hfz17_0
   try clear hfz17_1
   try clear hfz23_0
   try clear hfz23_1
   try clear hfz9_0
   try clear hfz9_1
   try clear hx156_0
   try clear p156
   try clear q156
   obtain ⟨kq, x7_10, rfl, HA, HJ10, HO_155000, HO_155001, BK154, BK155, HK, HB⟩ := hcut
   cases kq with
   | zero => exact absurd HA.out (by simp [spec_reGoOn.j0])
   | succ kj10 =>
    have H := HA.out
    clear HA
    simp only [spec_reGoOn.j0] at H
    have H' := aS_ H
    clear H
    go_wp2
    go_loopg [32] kj10 (fun kq v32 w' => ∃ (x32_2 : Int), v32 = .int .i64 x32_2 ∧ Aside0 (spec_reGoOn.l0 kq l1 (l0_0.length : Int) x7_10 l1 (l1.length : Int) x32_2 l0_0 l0_1 = some (r1, r2, r3)) ∧ Aside0 (kq ≤ kj10) ∧ Aside0 (Kd.R (Kd.int .i64) 3 w' w0.heap.size (fun k_ => ((P0_0_ k_ ∨ P0_1_ k_) ∨ w.heap.size ≤ k_) ∧ some k_ ≠ ((.slice Ao13 l0_1.length co13) : Value).ownBlock) (.slice Ao12 l0_0.length co12) l0_0) ∧ Aside0 (Kd.R (Kd.int .i64) 3 w' w0.heap.size (fun k_ => ((P0_0_ k_ ∨ P0_1_ k_) ∨ w.heap.size ≤ k_) ∧ some k_ ≠ ((.slice Ao12 l0_0.length co12) : Value).ownBlock) (.slice Ao13 l0_1.length co13) l0_1) ∧ Aside0 (w'.heap[gb154]? = some (.cells #[(.slice Ao12 l0_0.length co12), (.slice Ao13 l0_1.length co13)] 34 (0, 0))) ∧ Aside0 (w'.heap[gb155]? = some (.cells #[(.slice none 0 0), (.slice none 0 0)] 34 (0, 0))) ∧ Aside0 (Kept w w' (fun k_ => P0_0_ k_ ∨ P0_1_ k_)) ∧ Aside0 (Below w0.heap.size w0 w'))
    case atStart => exact ⟨(0), (by first | rfl | (simp; done) | (simp [*]; done)), H', ⟨Nat.le_refl _⟩, ⟨by (with_reducible repeat (first | apply rA_ | apply rN_ | apply rD_)); exact HO_155000.out⟩, ⟨by (with_reducible repeat (first | apply rA_ | apply rN_ | apply rD_)); exact HO_155001.out⟩, ⟨by (with_reducible repeat (first | refine kN_ ?_ _ | refine kD_ ?_ | refine kA_ ?_ _)); exact BK154.out⟩, ⟨by (with_reducible repeat (first | refine kN_ ?_ _ | refine kD_ ?_ | refine kA_ ?_ _)); exact BK155.out⟩, ⟨by repeat (first | (with_reducible first | exact HK.out | apply Kept.alloc | apply Kept.drewN | apply Kept.drew | refine Kept.setCell ?_ (.inr GW154.out) _ | refine Kept.setCell ?_ (.inr GW155.out) _) | exact HK.out)⟩, ⟨by repeat (first | (with_reducible first | exact HB.out | apply bA_ | apply pN_ | apply bD_ | refine bS_ ?_ GE154.out | refine bS_ ?_ GE155.out) | exact HB.out)⟩⟩
    case round =>
     clear H'
     try clear c1
     try clear p1
     try clear q1
     try clear hx1
     try clear c2
     try clear p2
     try clear c3
     try clear c3b0
     try clear c3b1
     try clear c3b2
     try clear p6
     try clear c8
     try clear c11
     try clear p15
     try clear q15
     try clear hx15
     try clear c16
     try clear c18
     try clear c18b0
     try clear c18b1
     try clear c20
     try clear c20b0
     try clear c21
     try clear c21b0
     try clear c22
     try clear hcz10_0
     try clear hcz10_1
     try clear hcz17_0
     try clear hcz17_1
     try clear hcz23_0
     try clear hcz23_1
     try clear hcz9_0
     try clear hcz9_1
     try clear hfz10_0
     try clear hfz10_1
     try clear hfz17_0
     try clear hfz17_1
     try clear hfz23_0
     try clear hfz23_1
     try clear hfz9_0
     try clear hfz9_1
     try clear hx156_0
     try clear p1
     try clear p15
     try clear p156
     try clear p2
     try clear p6
     try clear q1
     try clear q15
     try clear q156
     obtain ⟨x32_2, rfl, HA, HK2, HO_155000, HO_155001, BK154, BK155, HK, HB⟩ := hrel
     cases gk with
     | zero => exact absurd HA.out (by simp [spec_reGoOn.l0])
     | succ k2 =>
      have H := HA.out
      clear HA
      simp only [spec_reGoOn.l0] at H
      by_cases c24 : x32_2 < (l1.length : Int)
      ·rw [if_pos c24] at H
       have c24b0 : decide (x32_2 < (l1.length : Int)) = true := decide_eq_true c24
       clear c24
       by_cases c25 : 0 ≤ x32_2
       ·rw [if_pos c25] at H
        have c25b0 : decide (0 ≤ x32_2) = true := decide_eq_true c25
        clear c25
        by_cases c26 : x32_2 < (l1.length : Int)
        ·rw [if_pos c26] at H
         have c26b0 : decide (x32_2 < (l1.length : Int)) = true := decide_eq_true c26
         clear c26
         replace H := Option.bind_eq_some_iff.mp H
         obtain ⟨t158, A270, H⟩ := H
         have A27 := aS_ A270
         clear A270
         by_cases c28 : t158 = true
         ·subst c28
          rw [if_pos rfl] at H
          have H' := aS_ H
          clear H
          have p157 : 0 ≤ (x32_2 : Int) := of_decide_eq_true (by assumption)
          have q157 : x32_2 < (l1.length : Int) := of_decide_eq_true (by assumption)
          obtain ⟨ad157, e157, hx157_0⟩ := Kd.at_int (Kd.C_kept_now HR1.out HK.out) x32_2 p157 q157
          cases e157
          replace p157 := eq_true p157
          replace q157 := eq_true q157
          have hnb29 := NB154_155.out
          have hnc29 := NB155_154.out
          have hcz30_0 : wr.cell? ⟨gb154, 0, none⟩ = some (.slice Ao12 l0_0.length co12) := (blk_cell BK154.out 0).trans rfl
          have hcz30_1 : wr.cell? ⟨gb154, 1, none⟩ = some (.slice Ao13 l0_1.length co13) := (blk_cell BK154.out 1).trans rfl
          have hfz30_0 := blk_frozen BK154.out 0
          have hfz30_1 := blk_frozen BK154.out 1
          go_wp2_with (first | ((with_reducible refine gate_callee (f := 19) rfl ?_); refine goesL_ (some 40) rfl rfl Try.func19 (by kernel_rfl) rfl #[.slice Ao12 l0_0.length co12, .int .i64 x32_2] rfl (by (try simp only [List.map_toArray, List.map_cons, List.map_nil]); first | done | rfl | (simp only [List.length_drop, List.length_take]; rfl)) ?_; (with_reducible refine (spec_l1Has.calls k2 _ _ l0_0 x32_2 true _ ?side1 ?side2 A27.out).mono ?_); (case side1 => repeat (first | exact (Kd.R_reads' HO_155000.out).2.2 | (with_reducible refine Kd.C_alloc ?_ _) | (with_reducible refine Kd.C_drewN ?_ _) | (with_reducible refine Kd.C_drew ?_))); (case side2 => exact (Kd.R_reads' HO_155000.out).2.1); rintro e w' ⟨rfl, ⟨nd, rfl⟩⟩; refine ⟨_, rfl, ?_⟩))
          go_roundg k2
          case measure => have := HJ10.out; have := HK2.out; omega
          case rel => exact ⟨(wrap64 (x32_2 + 1)), (by first | rfl | (simp; done) | (simp [*]; done)), H', ⟨by have := HJ10.out; have := HK2.out; omega⟩, ⟨by (with_reducible repeat (first | apply rA_ | apply rN_ | apply rD_)); exact HO_155000.out⟩, ⟨by (with_reducible repeat (first | apply rA_ | apply rN_ | apply rD_)); exact HO_155001.out⟩, ⟨by (with_reducible repeat (first | refine kN_ ?_ _ | refine kD_ ?_ | refine kA_ ?_ _)); exact BK154.out⟩, ⟨by (with_reducible repeat (first | refine kN_ ?_ _ | refine kD_ ?_ | refine kA_ ?_ _)); exact BK155.out⟩, ⟨by repeat (first | (with_reducible first | exact HK.out | apply Kept.alloc | apply Kept.drewN | apply Kept.drew | refine Kept.setCell ?_ (.inr GW154.out) _ | refine Kept.setCell ?_ (.inr GW155.out) _) | exact HK.out)⟩, ⟨by repeat (first | (with_reducible first | exact HB.out | apply bA_ | apply pN_ | apply bD_ | refine bS_ ?_ GE154.out | refine bS_ ?_ GE155.out) | exact HB.out)⟩⟩
         ·replace c28 := Bool.eq_false_iff.mpr c28
          subst c28
          rw [if_neg (show ¬ (false = true) by decide)] at H
          have H' := aS_ H
          clear H
          have p157 : 0 ≤ (x32_2 : Int) := of_decide_eq_true (by assumption)
          have q157 : x32_2 < (l1.length : Int) := of_decide_eq_true (by assumption)
          obtain ⟨ad157, e157, hx157_0⟩ := Kd.at_int (Kd.C_kept_now HR1.out HK.out) x32_2 p157 q157
          cases e157
          replace p157 := eq_true p157
          replace q157 := eq_true q157
          have hnb31 := NB154_155.out
          have hnc31 := NB155_154.out
          have hcz32_0 : wr.cell? ⟨gb154, 0, none⟩ = some (.slice Ao12 l0_0.length co12) := (blk_cell BK154.out 0).trans rfl
          have hcz32_1 : wr.cell? ⟨gb154, 1, none⟩ = some (.slice Ao13 l0_1.length co13) := (blk_cell BK154.out 1).trans rfl
          have hfz32_0 := blk_frozen BK154.out 0
          have hfz32_1 := blk_frozen BK154.out 1
          go_wp2_with (first | ((with_reducible refine gate_callee (f := 19) rfl ?_); refine goesL_ (some 40) rfl rfl Try.func19 (by kernel_rfl) rfl #[.slice Ao12 l0_0.length co12, .int .i64 x32_2] rfl (by (try simp only [List.map_toArray, List.map_cons, List.map_nil]); first | done | rfl | (simp only [List.length_drop, List.length_take]; rfl)) ?_; (with_reducible refine (spec_l1Has.calls k2 _ _ l0_0 x32_2 false _ ?side1 ?side2 A27.out).mono ?_); (case side1 => repeat (first | exact (Kd.R_reads' HO_155000.out).2.2 | (with_reducible refine Kd.C_alloc ?_ _) | (with_reducible refine Kd.C_drewN ?_ _) | (with_reducible refine Kd.C_drew ?_))); (case side2 => exact (Kd.R_reads' HO_155000.out).2.1); rintro e w' ⟨rfl, ⟨nd, rfl⟩⟩; refine ⟨_, rfl, ?_⟩))
          go_loopg [10] k2 (fun kq v10 w' => ∃ (x10_3 : Int), v10 = .int .i64 x10_3 ∧ Aside0 (spec_reGoOn.l1 kq l1 (l0_0.length : Int) x7_10 x32_2 (rd l1 x32_2) x10_3 l1 (l1.length : Int) x32_2 l0_0 l0_1 = some (r1, r2, r3)) ∧ Aside0 (kq ≤ k2) ∧ Aside0 (Kd.R (Kd.int .i64) 3 w' w0.heap.size (fun k_ => ((P0_0_ k_ ∨ P0_1_ k_) ∨ w.heap.size ≤ k_) ∧ some k_ ≠ ((.slice Ao13 l0_1.length co13) : Value).ownBlock) (.slice Ao12 l0_0.length co12) l0_0) ∧ Aside0 (Kd.R (Kd.int .i64) 3 w' w0.heap.size (fun k_ => ((P0_0_ k_ ∨ P0_1_ k_) ∨ w.heap.size ≤ k_) ∧ some k_ ≠ ((.slice Ao12 l0_0.length co12) : Value).ownBlock) (.slice Ao13 l0_1.length co13) l0_1) ∧ Aside0 (w'.heap[gb154]? = some (.cells #[(.slice Ao12 l0_0.length co12), (.slice Ao13 l0_1.length co13)] 34 (0, 0))) ∧ Aside0 (w'.heap[gb155]? = some (.cells #[(.slice none 0 0), (.slice none 0 0)] 34 (0, 0))) ∧ Aside0 (Kept w w' (fun k_ => P0_0_ k_ ∨ P0_1_ k_)) ∧ Aside0 (Below w0.heap.size w0 w'))
          case atStart => exact ⟨(x7_10), (by first | rfl | (simp; done) | (simp [*]; done)), H', ⟨Nat.le_refl _⟩, ⟨by (with_reducible repeat (first | apply rA_ | apply rN_ | apply rD_)); exact HO_155000.out⟩, ⟨by (with_reducible repeat (first | apply rA_ | apply rN_ | apply rD_)); exact HO_155001.out⟩, ⟨by (with_reducible repeat (first | refine kN_ ?_ _ | refine kD_ ?_ | refine kA_ ?_ _)); exact BK154.out⟩, ⟨by (with_reducible repeat (first | refine kN_ ?_ _ | refine kD_ ?_ | refine kA_ ?_ _)); exact BK155.out⟩, ⟨by repeat (first | (with_reducible first | exact HK.out | apply Kept.alloc | apply Kept.drewN | apply Kept.drew | refine Kept.setCell ?_ (.inr GW154.out) _ | refine Kept.setCell ?_ (.inr GW155.out) _) | exact HK.out)⟩, ⟨by repeat (first | (with_reducible first | exact HB.out | apply bA_ | apply pN_ | apply bD_ | refine bS_ ?_ GE154.out | refine bS_ ?_ GE155.out) | exact HB.out)⟩⟩
          case round =>
           clear H'
           try clear c1
           try clear p1
           try clear q1
           try clear hx1
           try clear c2
           try clear p2
           try clear c3
           try clear c3b0
           try clear c3b1
           try clear c3b2
           try clear p6
           try clear c8
           try clear c11
           try clear p15
           try clear q15
           try clear hx15
           try clear c16
           try clear c18
           try clear c18b0
           try clear c18b1
           try clear c19
           try clear c20
           try clear c20b0
           try clear c21
           try clear c21b0
           try clear c22
           try clear c24
           try clear c24b0
           try clear c25
           try clear c25b0
           try clear c26
           try clear c26b0
           try clear c28
           try clear c29
           try clear c31
           try clear hcz10_0
           try clear hcz10_1
           try clear hcz17_0
           try clear hcz17_1
           try clear hcz23_0
           try clear hcz23_1
           try clear hcz30_0
           try clear hcz30_1
           try clear hcz32_0
           try clear hcz32_1
           try clear hcz9_0
           try clear hcz9_1
           try clear hfz10_0
           try clear hfz10_1
           try clear hfz17_0
           try clear hfz17_1
           try clear hfz23_0
           try clear hfz23_1
           try clear hfz30_0
           try clear hfz30_1
           try clear hfz32_0
           try clear hfz32_1
           try clear hfz9_0
           try clear hfz9_1
           try clear hx156_0
           try clear hx157_0
           try clear p1
           try clear p15
           try clear p156
           try clear p157
           try clear p2
           try clear p6
           try clear q1
           try clear q15
           try clear q156
           try clear q157
           obtain ⟨x10_3, rfl, HA, HK3, HO_155000, HO_155001, BK154, BK155, HK, HB⟩ := hrel
           cases gk with
           | zero => exact absurd HA.out (by simp [spec_reGoOn.l1])
           | succ k3 =>
            have H := HA.out
            clear HA
            simp only [spec_reGoOn.l1] at H
            by_cases c33 : x10_3 ≤ (l0_0.length : Int)
            ·rw [if_pos c33] at H
             have c33b0 : decide (x10_3 ≤ (l0_0.length : Int)) = true := decide_eq_true c33
             clear c33
             have HC34 := aS_ H
             clear H
             go_upto_region 14 with (fail)
             go_cut [68] (fun v68 wc => ∃ (kq : Nat) (x68_33 : Bool), v68 = .bool x68_33 ∧ Aside0 (spec_reGoOn.j3 kq l1 (l0_0.length : Int) x7_10 x32_2 (rd l1 x32_2) x10_3 l1 (l1.length : Int) x32_2 x68_33 l0_0 l0_1 = some (r1, r2, r3)) ∧ Aside0 (kq ≤ k3) ∧ Aside0 (Kd.R (Kd.int .i64) 3 wc w0.heap.size (fun k_ => ((P0_0_ k_ ∨ P0_1_ k_) ∨ w.heap.size ≤ k_) ∧ some k_ ≠ ((.slice Ao13 l0_1.length co13) : Value).ownBlock) (.slice Ao12 l0_0.length co12) l0_0) ∧ Aside0 (Kd.R (Kd.int .i64) 3 wc w0.heap.size (fun k_ => ((P0_0_ k_ ∨ P0_1_ k_) ∨ w.heap.size ≤ k_) ∧ some k_ ≠ ((.slice Ao12 l0_0.length co12) : Value).ownBlock) (.slice Ao13 l0_1.length co13) l0_1) ∧ Aside0 (wc.heap[gb154]? = some (.cells #[(.slice Ao12 l0_0.length co12), (.slice Ao13 l0_1.length co13)] 34 (0, 0))) ∧ Aside0 (wc.heap[gb155]? = some (.cells #[(.slice none 0 0), (.slice none 0 0)] 34 (0, 0))) ∧ Aside0 (Kept w wc (fun k_ => P0_0_ k_ ∨ P0_1_ k_)) ∧ Aside0 (Below w0.heap.size w0 wc))
             case first =>
              have H := HC34.out
              clear HC34
              by_cases c35 : x10_3 > x7_10
              ·rw [if_pos c35] at H
               have c35b0 : decide (x7_10 < x10_3) = true := decide_eq_true c35
               clear c35
               (first | rw [c35b0] | (simp only [i64_w, i32_w]; rw [c35b0]) | skip)
               obtain ⟨ji36, hji36⟩ : ∃ j_ : Int, (wrap64 (x10_3 - 1)) = j_ := ⟨_, rfl⟩
               replace H : (if 0 ≤ (ji36) then (if (ji36) < (l0_0.length : Int) then (if (rd l0_0 (ji36)) > x32_2 then (spec_reGoOn.j3 k3 l1 (l0_0.length : Int) x7_10 x32_2 (rd l1 x32_2) x10_3 l1 (l1.length : Int) x32_2 true l0_0 l0_1) else ((spec_reCount.f k3 l0_0 x10_3 x32_2).bind fun t160 => (spec_reGoOn.j3 k3 l1 (l0_0.length : Int) x7_10 x32_2 (rd l1 x32_2) x10_3 l1 (l1.length : Int) x32_2 (t160 != (rd l1 x32_2)) l0_0 l0_1))) else (none)) else (none)) = some (r1, r2, r3) := by first | (rw [hji36] at H; exact H) | (simp only [hji36] at H ⊢; exact H)
               have hji36w : (IntKind.i64.wrap (x10_3 - 1)) = ji36 := (i64_w _).trans hji36
               by_cases c37 : 0 ≤ (ji36)
               ·rw [if_pos c37] at H
                have c37b0 : decide (0 ≤ (ji36)) = true := decide_eq_true c37
                clear c37
                by_cases c38 : (ji36) < (l0_0.length : Int)
                ·rw [if_pos c38] at H
                 have c38b0 : decide ((ji36) < (l0_0.length : Int)) = true := decide_eq_true c38
                 clear c38
                 by_cases c39 : (rd l0_0 (ji36)) > x32_2
                 ·rw [if_pos c39] at H
                  have c39b0 : decide (x32_2 < (rd l0_0 (ji36))) = true := decide_eq_true c39
                  clear c39
                  have H' := aS_ H
                  clear H
                  have hnb40 := NB154_155.out
                  have hnc40 := NB155_154.out
                  have hcz41_0 : wr.cell? ⟨gb154, 0, none⟩ = some (.slice Ao12 l0_0.length co12) := (blk_cell BK154.out 0).trans rfl
                  have hcz41_1 : wr.cell? ⟨gb154, 1, none⟩ = some (.slice Ao13 l0_1.length co13) := (blk_cell BK154.out 1).trans rfl
                  have hfz41_0 := blk_frozen BK154.out 0
                  have hfz41_1 := blk_frozen BK154.out 1
                  have p159 : 0 ≤ ((ji36) : Int) := of_decide_eq_true (by assumption)
                  have q159 : (ji36) < (l0_0.length : Int) := of_decide_eq_true (by assumption)
                  obtain ⟨ad159, e159, hx159_0⟩ := Kd.at_int (Kd.R_reads' HO_155000.out).2.2 (ji36) p159 q159
                  cases e159
                  replace p159 := eq_true p159
                  replace q159 := eq_true q159
                  go_wp2
                  go_meet
                  case rel => exact ⟨_, (true), (by first | rfl | (simp; done) | (simp [*]; done)), H', ⟨by have := HJ10.out; have := HK2.out; have := HK3.out; first | omega | exact Nat.le_refl _⟩, ⟨by (with_reducible repeat (first | apply rA_ | apply rN_ | apply rD_)); exact HO_155000.out⟩, ⟨by (with_reducible repeat (first | apply rA_ | apply rN_ | apply rD_)); exact HO_155001.out⟩, ⟨by (with_reducible repeat (first | refine kN_ ?_ _ | refine kD_ ?_ | refine kA_ ?_ _)); exact BK154.out⟩, ⟨by (with_reducible repeat (first | refine kN_ ?_ _ | refine kD_ ?_ | refine kA_ ?_ _)); exact BK155.out⟩, ⟨by repeat (first | (with_reducible first | exact HK.out | apply Kept.alloc | apply Kept.drewN | apply Kept.drew | refine Kept.setCell ?_ (.inr GW154.out) _ | refine Kept.setCell ?_ (.inr GW155.out) _) | exact HK.out)⟩, ⟨by repeat (first | (with_reducible first | exact HB.out | apply bA_ | apply pN_ | apply bD_ | refine bS_ ?_ GE154.out | refine bS_ ?_ GE155.out) | exact HB.out)⟩⟩
                 ·rw [if_neg c39] at H
                  have c39b0 : decide (x32_2 < (rd l0_0 (ji36))) = false := decide_eq_false c39
                  clear c39
                  replace H := Option.bind_eq_some_iff.mp H
                  obtain ⟨t160, A420, H⟩ := H
                  have A42 := aS_ A420
                  clear A420
                  have H' := aS_ H
                  clear H
                  have hnb43 := NB154_155.out
                  have hnc43 := NB155_154.out
                  have hcz44_0 : wr.cell? ⟨gb154, 0, none⟩ = some (.slice Ao12 l0_0.length co12) := (blk_cell BK154.out 0).trans rfl
                  have hcz44_1 : wr.cell? ⟨gb154, 1, none⟩ = some (.slice Ao13 l0_1.length co13) := (blk_cell BK154.out 1).trans rfl
                  have hfz44_0 := blk_frozen BK154.out 0
                  have hfz44_1 := blk_frozen BK154.out 1
                  have p159 : 0 ≤ ((ji36) : Int) := of_decide_eq_true (by assumption)
                  have q159 : (ji36) < (l0_0.length : Int) := of_decide_eq_true (by assumption)
                  obtain ⟨ad159, e159, hx159_0⟩ := Kd.at_int (Kd.R_reads' HO_155000.out).2.2 (ji36) p159 q159
                  cases e159
                  replace p159 := eq_true p159
                  replace q159 := eq_true q159
                  go_wp2_with (first | (go_at_call 20; (with_reducible refine (spec_reCount.calls k3 _ _ l0_0 x10_3 x32_2 t160 _ ?side1 ?side2 A42.out).mono ?_); (case side1 => repeat (first | exact (Kd.R_reads' HO_155000.out).2.2 | (with_reducible refine Kd.C_alloc ?_ _) | (with_reducible refine Kd.C_drewN ?_ _) | (with_reducible refine Kd.C_drew ?_))); (case side2 => exact (Kd.R_reads' HO_155000.out).2.1); rintro e w' ⟨rfl, ⟨nd, rfl⟩⟩))
                  go_meet
                  case rel => exact ⟨_, ((t160 != (rd l1 x32_2))), (by first | rfl | (simp; done) | (simp [*]; done)), H', ⟨by have := HJ10.out; have := HK2.out; have := HK3.out; first | omega | exact Nat.le_refl _⟩, ⟨by (with_reducible repeat (first | apply rA_ | apply rN_ | apply rD_)); exact HO_155000.out⟩, ⟨by (with_reducible repeat (first | apply rA_ | apply rN_ | apply rD_)); exact HO_155001.out⟩, ⟨by (with_reducible repeat (first | refine kN_ ?_ _ | refine kD_ ?_ | refine kA_ ?_ _)); exact BK154.out⟩, ⟨by (with_reducible repeat (first | refine kN_ ?_ _ | refine kD_ ?_ | refine kA_ ?_ _)); exact BK155.out⟩, ⟨by repeat (first | (with_reducible first | exact HK.out | apply Kept.alloc | apply Kept.drewN | apply Kept.drew | refine Kept.setCell ?_ (.inr GW154.out) _ | refine Kept.setCell ?_ (.inr GW155.out) _) | exact HK.out)⟩, ⟨by repeat (first | (with_reducible first | exact HB.out | apply bA_ | apply pN_ | apply bD_ | refine bS_ ?_ GE154.out | refine bS_ ?_ GE155.out) | exact HB.out)⟩⟩
                ·rw [if_neg c38] at H
                 exact absurd H (by simp)
               ·rw [if_neg c37] at H
                exact absurd H (by simp)
              ·rw [if_neg c35] at H
               have c35b0 : decide (x7_10 < x10_3) = false := decide_eq_false c35
               clear c35
               (first | rw [c35b0] | (simp only [i64_w, i32_w]; rw [c35b0]) | skip)
               replace H := Option.bind_eq_some_iff.mp H
               obtain ⟨t161, A450, H⟩ := H
               have A45 := aS_ A450
               clear A450
               have H' := aS_ H
               clear H
               have hnb46 := NB154_155.out
               have hnc46 := NB155_154.out
               have hcz47_0 : wr.cell? ⟨gb154, 0, none⟩ = some (.slice Ao12 l0_0.length co12) := (blk_cell BK154.out 0).trans rfl
               have hcz47_1 : wr.cell? ⟨gb154, 1, none⟩ = some (.slice Ao13 l0_1.length co13) := (blk_cell BK154.out 1).trans rfl
               have hfz47_0 := blk_frozen BK154.out 0
               have hfz47_1 := blk_frozen BK154.out 1
               go_wp2_with (first | (go_at_call 20; (with_reducible refine (spec_reCount.calls k3 _ _ l0_0 x10_3 x32_2 t161 _ ?side1 ?side2 A45.out).mono ?_); (case side1 => repeat (first | exact (Kd.R_reads' HO_155000.out).2.2 | (with_reducible refine Kd.C_alloc ?_ _) | (with_reducible refine Kd.C_drewN ?_ _) | (with_reducible refine Kd.C_drew ?_))); (case side2 => exact (Kd.R_reads' HO_155000.out).2.1); rintro e w' ⟨rfl, ⟨nd, rfl⟩⟩))
               go_meet
               case rel => exact ⟨_, ((t161 != (rd l1 x32_2))), (by first | rfl | (simp; done) | (simp [*]; done)), H', ⟨by have := HJ10.out; have := HK2.out; have := HK3.out; first | omega | exact Nat.le_refl _⟩, ⟨by (with_reducible repeat (first | apply rA_ | apply rN_ | apply rD_)); exact HO_155000.out⟩, ⟨by (with_reducible repeat (first | apply rA_ | apply rN_ | apply rD_)); exact HO_155001.out⟩, ⟨by (with_reducible repeat (first | refine kN_ ?_ _ | refine kD_ ?_ | refine kA_ ?_ _)); exact BK154.out⟩, ⟨by (with_reducible repeat (first | refine kN_ ?_ _ | refine kD_ ?_ | refine kA_ ?_ _)); exact BK155.out⟩, ⟨by repeat (first | (with_reducible first | exact HK.out | apply Kept.alloc | apply Kept.drewN | apply Kept.drew | refine Kept.setCell ?_ (.inr GW154.out) _ | refine Kept.setCell ?_ (.inr GW155.out) _) | exact HK.out)⟩, ⟨by repeat (first | (with_reducible first | exact HB.out | apply bA_ | apply pN_ | apply bD_ | refine bS_ ?_ GE154.out | refine bS_ ?_ GE155.out) | exact HB.out)⟩⟩
             case rest =>
              clear HC34
              try clear c1
              try clear p1
              try clear q1
              try clear hx1
              try clear c2
              try clear p2
              try clear c3
              try clear c3b0
              try clear c3b1
              try clear c3b2
              try clear c4
              try clear p6
              try clear c8
              try clear c11
              try clear p15
              try clear q15
              try clear hx15
              try clear c16
              try clear c18
              try clear c18b0
              try clear c18b1
              try clear c19
              try clear c20
              try clear c20b0
              try clear c21
              try clear c21b0
              try clear c22
              try clear c24
              try clear c24b0
              try clear c25
              try clear c25b0
              try clear c26
              try clear c26b0
              try clear c28
              try clear c29
              try clear c31
              try clear c33
              try clear c33b0
              try clear c35
              try clear c35b0
              try clear c37
              try clear c37b0
              try clear c38
              try clear c38b0
              try clear c39
              try clear c39b0
              try clear c40
              try clear c43
              try clear c46
              try clear hcz10_0
              try clear hcz10_1
              try clear hcz17_0
              try clear hcz17_1
              try clear hcz23_0
              try clear hcz23_1
              try clear hcz30_0
              try clear hcz30_1
              try clear hcz32_0
              try clear hcz32_1
              try clear hcz41_0
              try clear hcz41_1
              try clear hcz44_0
              try clear hcz44_1
              try clear hcz47_0
              try clear hcz47_1
              try clear hcz9_0
              try clear hcz9_1
              try clear hfz10_0
              try clear hfz10_1
              try clear hfz17_0
              try clear hfz17_1
              try clear hfz23_0
              try clear hfz23_1
              try clear hfz30_0
              try clear hfz30_1
              try clear hfz32_0
              try clear hfz32_1
              try clear hfz41_0
              try clear hfz41_1
              try clear hfz44_0
              try clear hfz44_1
              try clear hfz47_0
              try clear hfz47_1
              try clear hfz9_0
              try clear hfz9_1
              try clear hx156_0
              try clear hx157_0
              try clear hx159_0
              try clear p1
              try clear p15
              try clear p156
              try clear p157
              try clear p159
              try clear p2
              try clear p6
              try clear q1
              try clear q15
              try clear q156
              try clear q157
              try clear q159
              obtain ⟨kq, x68_33, rfl, HA, HJ33, HO_155000, HO_155001, BK154, BK155, HK, HB⟩ := hcut
              cases kq with
              | zero => exact absurd HA.out (by simp [spec_reGoOn.j3])
              | succ kj33 =>
               have H := HA.out
               clear HA
               simp only [spec_reGoOn.j3] at H
               by_cases c48 : x68_33 = true
               ·subst c48
                rw [if_pos rfl] at H
                have H' := aS_ H
                clear H
                go_wp2
                go_roundg kj33
                case measure => have := HJ10.out; have := HK2.out; have := HK3.out; have := HJ33.out; omega
                case rel => exact ⟨(wrap64 (x10_3 + 1)), (by first | rfl | (simp; done) | (simp [*]; done)), H', ⟨by have := HJ10.out; have := HK2.out; have := HK3.out; have := HJ33.out; omega⟩, ⟨by (with_reducible repeat (first | apply rA_ | apply rN_ | apply rD_)); exact HO_155000.out⟩, ⟨by (with_reducible repeat (first | apply rA_ | apply rN_ | apply rD_)); exact HO_155001.out⟩, ⟨by (with_reducible repeat (first | refine kN_ ?_ _ | refine kD_ ?_ | refine kA_ ?_ _)); exact BK154.out⟩, ⟨by (with_reducible repeat (first | refine kN_ ?_ _ | refine kD_ ?_ | refine kA_ ?_ _)); exact BK155.out⟩, ⟨by repeat (first | (with_reducible first | exact HK.out | apply Kept.alloc | apply Kept.drewN | apply Kept.drew | refine Kept.setCell ?_ (.inr GW154.out) _ | refine Kept.setCell ?_ (.inr GW155.out) _) | exact HK.out)⟩, ⟨by repeat (first | (with_reducible first | exact HB.out | apply bA_ | apply pN_ | apply bD_ | refine bS_ ?_ GE154.out | refine bS_ ?_ GE155.out) | exact HB.out)⟩⟩
               ·replace c48 := Bool.eq_false_iff.mpr c48
                subst c48
                rw [if_neg (show ¬ (false = true) by decide)] at H
                replace H := Option.bind_eq_some_iff.mp H
                obtain ⟨t162, A490, H⟩ := H
                have A49 := aS_ A490
                clear A490
                obtain ⟨y165, hy165⟩ : ∃ y_ : List Int, y_ = (([x32_2] : List Int)) := ⟨_, rfl⟩
                replace H : (if t162.length + y165.length < 17592186044416 then ((spec_l1Own.f l0_1).bind fun t171 => ((some (([x10_3] : List Int) : List Int)).bind fun y174 => (if t171.length + y174.length < 17592186044416 then ((spec_reGoOn.f kj33 (t162 ++ y165) (t171 ++ y174) l1).bind fun bt181 => (if bt181.2.2 = true then (some (bt181.1, bt181.2.1, true)) else (spec_reGoOn.l1 kj33 l1 (l0_0.length : Int) x7_10 x32_2 (rd l1 x32_2) (wrap64 (x10_3 + 1)) l1 (l1.length : Int) x32_2 l0_0 l0_1))) else (none)))) else (none)) = some (r1, r2, r3) := by first | (rw [hy165]; with_reducible exact H) | (have H2_ := (Option.bind_some _ _).symm.trans H; rw [hy165]; with_reducible exact H2_) | (have H2_ := (Option.bind_some _ _).symm.trans H; with_reducible exact H2_) | with_reducible exact H | (rw [hy165]; exact H) | exact H
                have Ny165 := aS_ hy165
                clear hy165
                by_cases c50 : t162.length + y165.length < 17592186044416
                ·rw [if_pos c50] at H
                 have LMc50 := aS_ c50
                 clear c50
                 obtain ⟨y168, hy168⟩ : ∃ y_ : List Int, y_ = (t162 ++ y165) := ⟨_, rfl⟩
                 replace H : ((spec_l1Own.f l0_1).bind fun t171 => ((some (([x10_3] : List Int) : List Int)).bind fun y174 => (if t171.length + y174.length < 17592186044416 then ((spec_reGoOn.f kj33 y168 (t171 ++ y174) l1).bind fun bt181 => (if bt181.2.2 = true then (some (bt181.1, bt181.2.1, true)) else (spec_reGoOn.l1 kj33 l1 (l0_0.length : Int) x7_10 x32_2 (rd l1 x32_2) (wrap64 (x10_3 + 1)) l1 (l1.length : Int) x32_2 l0_0 l0_1))) else (none)))) = some (r1, r2, r3) := by first | (rw [hy168]; with_reducible exact H) | (have H2_ := (Option.bind_some _ _).symm.trans H; rw [hy168]; with_reducible exact H2_) | (have H2_ := (Option.bind_some _ _).symm.trans H; with_reducible exact H2_) | with_reducible exact H | (rw [hy168]; exact H) | exact H
                 have Ny168 := aS_ hy168
                 clear hy168
                 replace H := Option.bind_eq_some_iff.mp H
                 obtain ⟨t171, A510, H⟩ := H
                 have A51 := aS_ A510
                 clear A510
                 obtain ⟨y174, hy174⟩ : ∃ y_ : List Int, y_ = (([x10_3] : List Int)) := ⟨_, rfl⟩
                 replace H : (if t171.length + y174.length < 17592186044416 then ((spec_reGoOn.f kj33 y168 (t171 ++ y174) l1).bind fun bt181 => (if bt181.2.2 = true then (some (bt181.1, bt181.2.1, true)) else (spec_reGoOn.l1 kj33 l1 (l0_0.length : Int) x7_10 x32_2 (rd l1 x32_2) (wrap64 (x10_3 + 1)) l1 (l1.length : Int) x32_2 l0_0 l0_1))) else (none)) = some (r1, r2, r3) := by first | (rw [hy174]; with_reducible exact H) | (have H2_ := (Option.bind_some _ _).symm.trans H; rw [hy174]; with_reducible exact H2_) | (have H2_ := (Option.bind_some _ _).symm.trans H; with_reducible exact H2_) | with_reducible exact H | (rw [hy174]; exact H) | exact H
                 have Ny174 := aS_ hy174
                 clear hy174
                 by_cases c52 : t171.length + y174.length < 17592186044416
                 ·rw [if_pos c52] at H
                  have LMc52 := aS_ c52
                  clear c52
                  obtain ⟨y177, hy177⟩ : ∃ y_ : List Int, y_ = (t171 ++ y174) := ⟨_, rfl⟩
                  replace H : ((spec_reGoOn.f kj33 y168 y177 l1).bind fun bt181 => (if bt181.2.2 = true then (some (bt181.1, bt181.2.1, true)) else (spec_reGoOn.l1 kj33 l1 (l0_0.length : Int) x7_10 x32_2 (rd l1 x32_2) (wrap64 (x10_3 + 1)) l1 (l1.length : Int) x32_2 l0_0 l0_1))) = some (r1, r2, r3) := by first | (rw [hy177]; with_reducible exact H) | (have H2_ := (Option.bind_some _ _).symm.trans H; rw [hy177]; with_reducible exact H2_) | (have H2_ := (Option.bind_some _ _).symm.trans H; with_reducible exact H2_) | with_reducible exact H | (rw [hy177]; exact H) | exact H
                  have Ny177 := aS_ hy177
                  clear hy177
                  replace H := Option.bind_eq_some_iff.mp H
                  obtain ⟨⟨t181, t184, t187⟩, A530, H⟩ := H
                  have A53 := aS_ A530
                  clear A530
                  have Hc54 := aS_ H
                  clear H
                  try go_wp2
                  have n0_ := aS_ (rD_ HO_155000.out)
                  have n1_ := aS_ (rD_ HO_155001.out)
                  have n2_ := aS_ (kD_ BK154.out)
                  have n3_ := aS_ (kD_ BK155.out)
                  have n4_ := aS_ (Kept.drew HK.out)
                  have n5_ := aS_ (bD_ HB.out)
                  clear HO_155000 HO_155001 BK154 BK155 HK HB
                  have HO_155000 := n0_
                  have HO_155001 := n1_
                  have BK154 := n2_
                  have BK155 := n3_
                  have HK := n4_
                  have HB := n5_
                  clear n0_ n1_ n2_ n3_ n4_ n5_
                  refine start_ (n := 15) (S := fun w' => True) (ds := []) #[false, false, false, false, false, false, false, false, false, false, false, false, false, false, false] (by kernel_rfl) rfl rfl trivial (fun hHeld => ?_); refine with_tabW spec_reGoOn.tab15 spec_reGoOn.bits15 (fun HT_ HW_ => ?_)
                  generalize wc.drew = w55 at HO_155000 HO_155001 BK154 BK155 HK HB hHeld ⊢
                  refine pure_ (i := 0) (N := some 69) (v := ?_) (a' := ?_) #[true, false, false, false, false, false, false, false, false, false, false, false, false, false, false] rfl rfl (any_of HT_.out (by kernel_rfl)) (fun _ _ _ h => h) (Or.inl ⟨by rfl, ?_⟩) ?_ ?_
                  rotate_left
                  ·intro w'
                   go_simp
                   with_reducible rfl
                  rotate_left
                  ·simp only [Act.put, List.setIfInBounds_toArray, List.set_cons_zero, List.set_cons_succ, i64_w, i32_w]
                   rfl
                  refine pure_ (i := 3) (N := some 72) (v := ?_) (a' := ?_) #[true, false, false, true, false, false, false, false, false, false, false, false, false, false, false] rfl rfl (any_of HT_.out (by kernel_rfl)) (fun _ _ _ h => h) (Or.inl ⟨by rfl, ?_⟩) ?_ ?_
                  rotate_left
                  ·intro w'
                   go_simp
                   with_reducible rfl
                  rotate_left
                  ·simp only [Act.put, List.setIfInBounds_toArray, List.set_cons_zero, List.set_cons_succ, i64_w, i32_w]
                   rfl
                  refine pure_ (i := 6) (N := some 75) (v := ?_) (a' := ?_) #[true, false, false, true, false, false, true, false, false, false, false, false, false, false, false] rfl rfl (any_of HT_.out (by kernel_rfl)) (fun _ _ _ h => h) (Or.inl ⟨by rfl, ?_⟩) ?_ ?_
                  rotate_left
                  ·intro w'
                   go_simp
                   with_reducible rfl
                  rotate_left
                  ·simp only [Act.put, List.setIfInBounds_toArray, List.set_cons_zero, List.set_cons_succ, i64_w, i32_w]
                   rfl
                  refine pure_ (i := 9) (N := some 78) (v := ?_) (a' := ?_) #[true, false, false, true, false, false, true, false, false, true, false, false, false, false, false] rfl rfl (any_of HT_.out (by kernel_rfl)) (fun _ _ _ h => h) (Or.inl ⟨by rfl, ?_⟩) ?_ ?_
                  rotate_left
                  ·intro w'
                   go_simp
                   with_reducible rfl
                  rotate_left
                  ·simp only [Act.put, List.setIfInBounds_toArray, List.set_cons_zero, List.set_cons_succ, i64_w, i32_w]
                   rfl
                  refine inv_at [1, 2, 4, 5, 7, 8, 10, 11, 12, 13, 14] (fun a0_ b a w' => ∃ (v163 : Value) (v166 : Value) (v169 : Value) (v172 : Value) (v175 : Value) (v178 : Value) (gb180 : Nat) (m12_ : Value) (m13_ : Value), a = putSel a0_ b [(1, 70, .slice Ao12 l0_0.length co12), (2, 71, v163), (4, 73, v166), (5, 74, v169), (7, 76, .slice Ao13 l0_1.length co13), (8, 77, v172), (10, 79, v175), (11, 80, v178), (12, 81, m12_), (13, 11, m13_)] ∧ (Kd.R (Kd.int .i64) 3 w' w0.heap.size (fun k_ => ((P0_0_ k_ ∨ P0_1_ k_) ∨ w.heap.size ≤ k_) ∧ some k_ ≠ (.slice Ao13 l0_1.length co13 : Value).ownBlock) (.slice Ao12 l0_0.length co12) l0_0) ∧ (Kd.R (Kd.int .i64) 3 w' w0.heap.size (fun k_ => ((P0_0_ k_ ∨ P0_1_ k_) ∨ w.heap.size ≤ k_) ∧ some k_ ≠ (.slice Ao12 l0_0.length co12 : Value).ownBlock) (.slice Ao13 l0_1.length co13) l0_1) ∧ (w'.heap[gb154]? = some (.cells #[.slice Ao12 l0_0.length co12, .slice Ao13 l0_1.length co13] 34 (0, 0))) ∧ (w'.heap[gb155]? = some (.cells #[.slice none 0 0, .slice none 0 0] 34 (0, 0))) ∧ (Kept w w' (fun k_ => P0_0_ k_ ∨ P0_1_ k_)) ∧ (Below w0.heap.size w0 w') ∧ (b 2 = true → b 5 = false → Kd.R (Kd.int .i64) 3 w' w0.heap.size (fun k_ => ((P0_0_ k_ ∨ P0_1_ k_) ∨ w.heap.size ≤ k_) ∧ some k_ ≠ (.slice Ao12 l0_0.length co12 : Value).ownBlock ∧ some k_ ≠ (.slice Ao13 l0_1.length co13 : Value).ownBlock) v163 t162) ∧ (b 4 = true → Kd.R (Kd.int .i64) 3 w' w0.heap.size (fun k_ => ((P0_0_ k_ ∨ P0_1_ k_) ∨ w.heap.size ≤ k_) ∧ some k_ ≠ (.slice Ao12 l0_0.length co12 : Value).ownBlock ∧ some k_ ≠ (.slice Ao13 l0_1.length co13 : Value).ownBlock) v166 y165) ∧ (b 5 = true → Kd.R (Kd.int .i64) 3 w' w0.heap.size (fun k_ => ((P0_0_ k_ ∨ P0_1_ k_) ∨ w.heap.size ≤ k_) ∧ some k_ ≠ (.slice Ao12 l0_0.length co12 : Value).ownBlock ∧ some k_ ≠ (.slice Ao13 l0_1.length co13 : Value).ownBlock) v169 y168) ∧ (b 8 = true → b 11 = false → Kd.R (Kd.int .i64) 3 w' w0.heap.size (fun k_ => ((P0_0_ k_ ∨ P0_1_ k_) ∨ w.heap.size ≤ k_) ∧ some k_ ≠ (.slice Ao12 l0_0.length co12 : Value).ownBlock ∧ some k_ ≠ (.slice Ao13 l0_1.length co13 : Value).ownBlock) v172 t171) ∧ (b 10 = true → Kd.R (Kd.int .i64) 3 w' w0.heap.size (fun k_ => ((P0_0_ k_ ∨ P0_1_ k_) ∨ w.heap.size ≤ k_) ∧ some k_ ≠ (.slice Ao12 l0_0.length co12 : Value).ownBlock ∧ some k_ ≠ (.slice Ao13 l0_1.length co13 : Value).ownBlock) v175 y174) ∧ (b 11 = true → Kd.R (Kd.int .i64) 3 w' w0.heap.size (fun k_ => ((P0_0_ k_ ∨ P0_1_ k_) ∨ w.heap.size ≤ k_) ∧ some k_ ≠ (.slice Ao12 l0_0.length co12 : Value).ownBlock ∧ some k_ ≠ (.slice Ao13 l0_1.length co13 : Value).ownBlock) v178 y177) ∧ (b 13 = true → b 14 = false → w'.heap[gb180]? = some (.cells #[.slice none 0 0, .slice none 0 0] 34 (0, 0))) ∧ (b 13 = true → w.heap.size ≤ gb180) ∧ (b 13 = true → w0.heap.size ≤ gb180) ∧ (b 13 = true → gb154 ≠ gb180) ∧ (b 13 = true → gb180 ≠ gb154) ∧ (b 13 = true → gb155 ≠ gb180) ∧ (b 13 = true → gb180 ≠ gb155) ∧ (b 14 = true → w'.heap[gb180]? = some (.cells #[v169, v178] 34 (0, 0))) ∧ (b 12 = true → (m12_ : Value) = .agg #[v169, v178]) ∧ (b 13 = true → (m13_ : Value) = .pointer (some ⟨gb180, 0, none⟩)) ∧ (b 2 = true → b 5 = false → b 4 = true → ∀ k_ : Nat, (v163 : Value).ownBlock = some k_ → (v166 : Value).ownBlock = some k_ → False) ∧ (b 2 = true → b 5 = false → b 8 = true → b 11 = false → ∀ k_ : Nat, (v163 : Value).ownBlock = some k_ → (v172 : Value).ownBlock = some k_ → False) ∧ (b 2 = true → b 5 = false → b 10 = true → ∀ k_ : Nat, (v163 : Value).ownBlock = some k_ → (v175 : Value).ownBlock = some k_ → False) ∧ (b 2 = true → b 5 = false → b 11 = true → ∀ k_ : Nat, (v163 : Value).ownBlock = some k_ → (v178 : Value).ownBlock = some k_ → False) ∧ (b 4 = true → b 5 = true → ∀ k_ : Nat, (v166 : Value).ownBlock = some k_ → (v169 : Value).ownBlock = some k_ → False) ∧ (b 4 = true → b 8 = true → b 11 = false → ∀ k_ : Nat, (v166 : Value).ownBlock = some k_ → (v172 : Value).ownBlock = some k_ → False) ∧ (b 4 = true → b 10 = true → ∀ k_ : Nat, (v166 : Value).ownBlock = some k_ → (v175 : Value).ownBlock = some k_ → False) ∧ (b 4 = true → b 11 = true → ∀ k_ : Nat, (v166 : Value).ownBlock = some k_ → (v178 : Value).ownBlock = some k_ → False) ∧ (b 5 = true → b 8 = true → b 11 = false → ∀ k_ : Nat, (v169 : Value).ownBlock = some k_ → (v172 : Value).ownBlock = some k_ → False) ∧ (b 5 = true → b 10 = true → ∀ k_ : Nat, (v169 : Value).ownBlock = some k_ → (v175 : Value).ownBlock = some k_ → False) ∧ (b 5 = true → b 11 = true → ∀ k_ : Nat, (v169 : Value).ownBlock = some k_ → (v178 : Value).ownBlock = some k_ → False) ∧ (b 8 = true → b 11 = false → b 10 = true → ∀ k_ : Nat, (v172 : Value).ownBlock = some k_ → (v175 : Value).ownBlock = some k_ → False) ∧ (b 10 = true → b 11 = true → ∀ k_ : Nat, (v175 : Value).ownBlock = some k_ → (v178 : Value).ownBlock = some k_ → False)) HT_.out HW_.out (by kernel_rfl) (by kernel_rfl) ?_ ?_ ?_
                  ·exact ⟨.bool false, .bool false, .bool false, .bool false, .bool false, .bool false, 0, .bool false, .bool false, by simp only [putSel, Bool.false_eq_true, if_false], HO_155000.out, HO_155001.out, BK154.out, BK155.out, HK.out, HB.out, fun h_ => absurd h_ (by decide), fun h_ => absurd h_ (by decide), fun h_ => absurd h_ (by decide), fun h_ => absurd h_ (by decide), fun h_ => absurd h_ (by decide), fun h_ => absurd h_ (by decide), fun h_ => absurd h_ (by decide), fun h_ => absurd h_ (by decide), fun h_ => absurd h_ (by decide), fun h_ => absurd h_ (by decide), fun h_ => absurd h_ (by decide), fun h_ => absurd h_ (by decide), fun h_ => absurd h_ (by decide), fun h_ => absurd h_ (by decide), fun h_ => absurd h_ (by decide), fun h_ => absurd h_ (by decide), fun h_ => absurd h_ (by decide), fun h_ => absurd h_ (by decide), fun h_ => absurd h_ (by decide), fun h_ => absurd h_ (by decide), fun h_ => absurd h_ (by decide), fun h_ => absurd h_ (by decide), fun h_ => absurd h_ (by decide), fun h_ => absurd h_ (by decide), fun h_ => absurd h_ (by decide), fun h_ => absurd h_ (by decide), fun h_ => absurd h_ (by decide), fun h_ => absurd h_ (by decide), fun h_ => absurd h_ (by decide)⟩
                  ·skip
                   clear BK154 BK155 HB HK HO_155000 HO_155001
                   refine steps_cons ?_ ?_
                   ·rintro b a w' ⟨v163, v166, v169, v172, v175, v178, gb180, m12_, m13_, ha, Q_HO_155000, Q_HO_155001, Q_BK154, Q_BK155, Q_HK, Q_HB, Q_HO164, Q_HO167, Q_HO170, Q_HO173, Q_HO176, Q_HO179, Q_BK180, Q_GW180, Q_GE180, Q_NB154_180, Q_NB180_154, Q_NB155_180, Q_NB180_155, Q_BK180_e14, Q_X12_, Q_X13_, Q_D_HO164_HO167, Q_D_HO164_HO173, Q_D_HO164_HO176, Q_D_HO164_HO179, Q_D_HO167_HO170, Q_D_HO167_HO173, Q_D_HO167_HO176, Q_D_HO167_HO179, Q_D_HO170_HO173, Q_D_HO170_HO176, Q_D_HO170_HO179, Q_D_HO173_HO176, Q_D_HO176_HO179⟩ hb_ hon hoff
                    refine ⟨_, rfl, fun K hK => ?_⟩
                    have e69 : a.tmps[69]? = some (.pointer (some ⟨gb154, 0, none⟩)) := by rw [ha]; exact (putSel_off rfl).trans rfl
                    replace ha := aS_ ha
                    have HO_155000 := aS_ Q_HO_155000
                    have HO_155001 := aS_ Q_HO_155001
                    have BK154 := aS_ Q_BK154
                    have BK155 := aS_ Q_BK155
                    have HK := aS_ Q_HK
                    have HB := aS_ Q_HB
                    have hc0_ : w'.cell? ⟨gb154, 0, none⟩ = some (.slice Ao12 l0_0.length co12) := (blk_cell BK154.out 0).trans rfl
                    have hc1_ : w'.cell? ⟨gb154, 1, none⟩ = some (.slice Ao13 l0_1.length co13) := (blk_cell BK154.out 1).trans rfl
                    refine value_ (w1 := w') (v := .slice Ao12 l0_0.length co12) (by rfl) rfl ?_ ?_
                    ·go_simp
                     (try simp only [i64_w])
                     try rfl
                    refine hK.out _ _ ⟨v163, v166, v169, v172, v175, v178, gb180, m12_, m13_, (by rw [ha.out]; exact putSel_upk 0 hb_ rfl rfl rfl), Q_HO_155000, Q_HO_155001, Q_BK154, Q_BK155, Q_HK, Q_HB, fun h0_ _ => absurd ((hoff 2 (by kernel_rfl)).symm.trans h0_) (by decide), Q_HO167, fun h0_ => absurd ((hoff 5 (by kernel_rfl)).symm.trans h0_) (by decide), fun h0_ _ => absurd ((hoff 8 (by kernel_rfl)).symm.trans h0_) (by decide), Q_HO176, fun h0_ => absurd ((hoff 11 (by kernel_rfl)).symm.trans h0_) (by decide), Q_BK180, Q_GW180, Q_GE180, Q_NB154_180, Q_NB180_154, Q_NB155_180, Q_NB180_155, fun h0_ => absurd ((hoff 14 (by kernel_rfl)).symm.trans h0_) (by decide), fun h0_ => absurd ((hoff 12 (by kernel_rfl)).symm.trans h0_) (by decide), Q_X13_, Q_D_HO164_HO167, Q_D_HO164_HO173, Q_D_HO164_HO176, Q_D_HO164_HO179, Q_D_HO167_HO170, Q_D_HO167_HO173, Q_D_HO167_HO176, Q_D_HO167_HO179, Q_D_HO170_HO173, Q_D_HO170_HO176, Q_D_HO170_HO179, Q_D_HO173_HO176, Q_D_HO176_HO179⟩
                   refine steps_cons ?_ ?_
                   ·rintro b a w' ⟨v163, v166, v169, v172, v175, v178, gb180, m12_, m13_, ha, Q_HO_155000, Q_HO_155001, Q_BK154, Q_BK155, Q_HK, Q_HB, Q_HO164, Q_HO167, Q_HO170, Q_HO173, Q_HO176, Q_HO179, Q_BK180, Q_GW180, Q_GE180, Q_NB154_180, Q_NB180_154, Q_NB155_180, Q_NB180_155, Q_BK180_e14, Q_X12_, Q_X13_, Q_D_HO164_HO167, Q_D_HO164_HO173, Q_D_HO164_HO176, Q_D_HO164_HO179, Q_D_HO167_HO170, Q_D_HO167_HO173, Q_D_HO167_HO176, Q_D_HO167_HO179, Q_D_HO170_HO173, Q_D_HO170_HO176, Q_D_HO170_HO179, Q_D_HO173_HO176, Q_D_HO176_HO179⟩ hb_ hon hoff
                    refine ⟨_, rfl, fun K hK => ?_⟩
                    have e70 : a.tmps[70]? = some (.slice Ao12 l0_0.length co12) := by rw [ha]; exact putSel_on (e := (1, 70, .slice Ao12 l0_0.length co12)) 0 rfl rfl (hon 1 (by kernel_rfl)) rfl
                    replace ha := aS_ ha
                    have HO_155000 := aS_ Q_HO_155000
                    have HO_155001 := aS_ Q_HO_155001
                    have BK154 := aS_ Q_BK154
                    have BK155 := aS_ Q_BK155
                    have HK := aS_ Q_HK
                    have HB := aS_ Q_HB
                    refine goes_ Try.func21 (by kernel_rfl) rfl #[.slice Ao12 l0_0.length co12] (by rfl) rfl rfl (by first | (simp only [List.map_toArray, List.map_cons, List.map_nil, Act.eval, Array.getD_eq_getD_getElem?, Option.getD_some, e70]; done) | (simp only [List.map_toArray, List.map_cons, List.map_nil, Act.eval, Array.getD_eq_getD_getElem?, Option.getD_some, e70]; rfl)) ?_
                    with_reducible refine (spec_l1Own.calls _ _ l0_0 t162 _ ?side1 ?side2 A49.out).mono ?_
                    (case side1 => repeat (first | exact (Kd.R_reads' HO_155000.out).2.2 | (with_reducible refine Kd.C_alloc ?_ _) | (with_reducible refine Kd.C_drewN ?_ _) | (with_reducible refine Kd.C_drew ?_)))
                    (case side2 => exact (Kd.R_reads' HO_155000.out).2.1)
                    rintro e w56 ⟨v163, rfl, ho0, hb⟩
                    have DN_HO167 := fun (h0_ : b 4 = true) (k_ : Nat) (e1_ : (v163 : Value).ownBlock = some k_) (e2_ : (v166 : Value).ownBlock = some k_) => (show False from Kd.fresh' (Kd.R_lt (Q_HO167 h0_)) k_ (Kd.R_base ho0 k_ e1_) e2_.symm)
                    have DN_HO173 := fun (h0_ : b 8 = true) (h1_ : b 11 = false) (k_ : Nat) (e1_ : (v163 : Value).ownBlock = some k_) (e2_ : (v172 : Value).ownBlock = some k_) => (show False from Kd.fresh' (Kd.R_lt (Q_HO173 h0_ h1_)) k_ (Kd.R_base ho0 k_ e1_) e2_.symm)
                    have DN_HO176 := fun (h0_ : b 10 = true) (k_ : Nat) (e1_ : (v163 : Value).ownBlock = some k_) (e2_ : (v175 : Value).ownBlock = some k_) => (show False from Kd.fresh' (Kd.R_lt (Q_HO176 h0_)) k_ (Kd.R_base ho0 k_ e1_) e2_.symm)
                    have DN_HO179 := fun (h0_ : b 11 = true) (k_ : Nat) (e1_ : (v163 : Value).ownBlock = some k_) (e2_ : (v178 : Value).ownBlock = some k_) => (show False from Kd.fresh' (Kd.R_lt (Q_HO179 h0_)) k_ (Kd.R_base ho0 k_ e1_) e2_.symm)
                    refine ⟨_, rfl, ?_⟩
                    have n0_ := aS_ (Kd.R_elder' (by (with_reducible repeat (first | apply rA_ | apply rN_ | apply rD_)); exact HO_155000.out) (Kd.R_base ho0) hb)
                    have n1_ := aS_ (Kd.R_elder' (by (with_reducible repeat (first | apply rA_ | apply rN_ | apply rD_)); exact HO_155001.out) (Kd.R_base ho0) hb)
                    have n2_ := aS_ (Kd.R_lower (Kd.R_new' (Kd.R_new' (Kd.R_newM (M := fun k_ => ((P0_0_ k_ ∨ P0_1_ k_) ∨ w.heap.size ≤ k_)) ho0 (by first | exact HK.out.1 | exact (show Kept w _ (fun k_ => P0_0_ k_ ∨ P0_1_ k_) from by repeat (first | (with_reducible first | exact HK.out | apply Kept.alloc | apply Kept.drewN | apply Kept.drew | refine Kept.setCell ?_ (.inr GW154.out) _ | refine Kept.setCell ?_ (.inr GW155.out) _) | exact HK.out)).1) (fun k_ h_ => .inr h_)) (Kd.R_lt (by (with_reducible repeat (first | apply rA_ | apply rN_ | apply rD_)); exact HO_155000.out))) (Kd.R_lt (by (with_reducible repeat (first | apply rA_ | apply rN_ | apply rD_)); exact HO_155001.out))) (below_size (by repeat (first | (with_reducible first | exact HB.out | apply bA_ | apply pN_ | apply bD_ | refine bS_ ?_ GE154.out | refine bS_ ?_ GE155.out) | exact HB.out))))
                    have n3_ := aS_ (blk_below (g := gb154) (o := .cells #[.slice Ao12 l0_0.length co12, .slice Ao13 l0_1.length co13] 34 (0, 0)) (by (with_reducible repeat (first | refine kN_ ?_ _ | refine kD_ ?_ | refine kA_ ?_ _)); exact BK154.out) hb)
                    have n4_ := aS_ (blk_below (g := gb155) (o := .cells #[.slice none 0 0, .slice none 0 0] 34 (0, 0)) (by (with_reducible repeat (first | refine kN_ ?_ _ | refine kD_ ?_ | refine kA_ ?_ _)); exact BK155.out) hb)
                    have n5_ := aS_ (Kept.below (S := (fun k_ => P0_0_ k_ ∨ P0_1_ k_)) (by repeat (first | (with_reducible first | exact HK.out | apply Kept.alloc | apply Kept.drewN | apply Kept.drew | refine Kept.setCell ?_ (.inr GW154.out) _ | refine Kept.setCell ?_ (.inr GW155.out) _) | exact HK.out)) hb)
                    have n6_ := aS_ (below_step (by repeat (first | (with_reducible first | exact HB.out | apply bA_ | apply pN_ | apply bD_ | refine bS_ ?_ GE154.out | refine bS_ ?_ GE155.out) | exact HB.out)) hb)
                    have z_HO167 := fun (h0_ : b 4 = true) => (show Kd.R (Kd.int .i64) 3 w56 w0.heap.size (fun k_ => ((P0_0_ k_ ∨ P0_1_ k_) ∨ w.heap.size ≤ k_) ∧ some k_ ≠ (.slice Ao12 l0_0.length co12 : Value).ownBlock ∧ some k_ ≠ (.slice Ao13 l0_1.length co13 : Value).ownBlock) v166 y165 from by first | exact (Kd.R_elder' (by (with_reducible repeat (first | apply rA_ | apply rN_ | apply rD_)); exact (Q_HO167 h0_)) (Kd.R_base ho0) hb) | exact Kd.R_mono (Kd.R_elder' (by (with_reducible repeat (first | apply rA_ | apply rN_ | apply rD_)); exact (Q_HO167 h0_)) (Kd.R_base ho0) hb) (fun _ hk => by first | trivial | exact hk | exact hk.1 | (simp only [hk, ne_eq, not_false_eq_true, and_self])))
                    have z_HO176 := fun (h0_ : b 10 = true) => (show Kd.R (Kd.int .i64) 3 w56 w0.heap.size (fun k_ => ((P0_0_ k_ ∨ P0_1_ k_) ∨ w.heap.size ≤ k_) ∧ some k_ ≠ (.slice Ao12 l0_0.length co12 : Value).ownBlock ∧ some k_ ≠ (.slice Ao13 l0_1.length co13 : Value).ownBlock) v175 y174 from by first | exact (Kd.R_elder' (by (with_reducible repeat (first | apply rA_ | apply rN_ | apply rD_)); exact (Q_HO176 h0_)) (Kd.R_base ho0) hb) | exact Kd.R_mono (Kd.R_elder' (by (with_reducible repeat (first | apply rA_ | apply rN_ | apply rD_)); exact (Q_HO176 h0_)) (Kd.R_base ho0) hb) (fun _ hk => by first | trivial | exact hk | exact hk.1 | (simp only [hk, ne_eq, not_false_eq_true, and_self])))
                    have z_BK180 := fun (h0_ : b 13 = true) (h1_ : b 14 = false) => (show w56.heap[gb180]? = some (.cells #[.slice none 0 0, .slice none 0 0] 34 (0, 0)) from by first | exact (blk_below (g := gb180) (o := .cells #[.slice none 0 0, .slice none 0 0] 34 (0, 0)) (by (with_reducible repeat (first | refine kN_ ?_ _ | refine kD_ ?_ | refine kA_ ?_ _)); exact (Q_BK180 h0_ h1_)) hb))
                    clear HO_155000 HO_155001 BK154 BK155 HK HB
                    have HO_155000 := n0_
                    have HO_155001 := n1_
                    have HO164 := n2_
                    have BK154 := n3_
                    have BK155 := n4_
                    have HK := n5_
                    have HB := n6_
                    clear n0_ n1_ n2_ n3_ n4_ n5_ n6_
                    (try clear hb)
                    (try clear hb2)
                    (try clear hk)
                    (try clear hi)
                    (try clear ho0)
                    refine hK.out _ _ ⟨v163, v166, v169, v172, v175, v178, gb180, m12_, m13_, (by rw [ha.out]; exact putSel_upk 1 hb_ rfl rfl rfl), (by (with_reducible repeat (first | apply rA_ | apply rN_ | apply rD_)); exact Kd.R_mono HO_155000.out (fun _ hk => by first | exact ⟨hk.1.1, ⟨hk.2, hk.1.2⟩⟩ | (simp only [hk, ne_eq, not_false_eq_true, and_self]))), (by (with_reducible repeat (first | apply rA_ | apply rN_ | apply rD_)); exact Kd.R_mono HO_155001.out (fun _ hk => by first | exact ⟨hk.1.1, ⟨hk.2, hk.1.2⟩⟩ | (simp only [hk, ne_eq, not_false_eq_true, and_self]))), (by (with_reducible repeat (first | refine kN_ ?_ _ | refine kD_ ?_ | refine kA_ ?_ _)); exact BK154.out), (by (with_reducible repeat (first | refine kN_ ?_ _ | refine kD_ ?_ | refine kA_ ?_ _)); exact BK155.out), (by repeat (first | (with_reducible first | exact HK.out | apply Kept.alloc | apply Kept.drewN | apply Kept.drew | refine Kept.setCell ?_ (.inr GW154.out) _ | refine Kept.setCell ?_ (.inr GW155.out) _) | exact HK.out)), (by repeat (first | (with_reducible first | exact HB.out | apply bA_ | apply pN_ | apply bD_ | refine bS_ ?_ GE154.out | refine bS_ ?_ GE155.out) | exact HB.out)), fun _ _ => (by (with_reducible repeat (first | apply rA_ | apply rN_ | apply rD_)); exact Kd.R_mono HO164.out (fun _ hk => by first | exact ⟨hk.1.1.1, ⟨hk.1.2, hk.2⟩⟩ | (simp only [hk, ne_eq, not_false_eq_true, and_self]))), z_HO167, fun h0_ => absurd ((hoff 5 (by kernel_rfl)).symm.trans h0_) (by decide), fun h0_ _ => absurd ((hoff 8 (by kernel_rfl)).symm.trans h0_) (by decide), z_HO176, fun h0_ => absurd ((hoff 11 (by kernel_rfl)).symm.trans h0_) (by decide), z_BK180, Q_GW180, Q_GE180, Q_NB154_180, Q_NB180_154, Q_NB155_180, Q_NB180_155, fun h0_ => absurd ((hoff 14 (by kernel_rfl)).symm.trans h0_) (by decide), fun h0_ => absurd ((hoff 12 (by kernel_rfl)).symm.trans h0_) (by decide), Q_X13_, fun h0_ h1_ h2_ k_ e1_ e2_ => DN_HO167 h2_ k_ e1_ e2_, fun h0_ h1_ h2_ h3_ k_ e1_ e2_ => DN_HO173 h2_ h3_ k_ e1_ e2_, fun h0_ h1_ h2_ k_ e1_ e2_ => DN_HO176 h2_ k_ e1_ e2_, fun h0_ h1_ h2_ k_ e1_ e2_ => DN_HO179 h2_ k_ e1_ e2_, Q_D_HO167_HO170, Q_D_HO167_HO173, Q_D_HO167_HO176, Q_D_HO167_HO179, Q_D_HO170_HO173, Q_D_HO170_HO176, Q_D_HO170_HO179, Q_D_HO173_HO176, Q_D_HO176_HO179⟩
                   refine steps_cons ?_ ?_
                   ·rintro b a w' ⟨v163, v166, v169, v172, v175, v178, gb180, m12_, m13_, ha, Q_HO_155000, Q_HO_155001, Q_BK154, Q_BK155, Q_HK, Q_HB, Q_HO164, Q_HO167, Q_HO170, Q_HO173, Q_HO176, Q_HO179, Q_BK180, Q_GW180, Q_GE180, Q_NB154_180, Q_NB180_154, Q_NB155_180, Q_NB180_155, Q_BK180_e14, Q_X12_, Q_X13_, Q_D_HO164_HO167, Q_D_HO164_HO173, Q_D_HO164_HO176, Q_D_HO164_HO179, Q_D_HO167_HO170, Q_D_HO167_HO173, Q_D_HO167_HO176, Q_D_HO167_HO179, Q_D_HO170_HO173, Q_D_HO170_HO176, Q_D_HO170_HO179, Q_D_HO173_HO176, Q_D_HO176_HO179⟩ hb_ hon hoff
                    refine ⟨_, rfl, fun K hK => ?_⟩
                    have e72 : a.tmps[72]? = some (.int .i64 x32_2) := by rw [ha]; exact (putSel_off rfl).trans rfl
                    replace ha := aS_ ha
                    have HO_155000 := aS_ Q_HO_155000
                    have HO_155001 := aS_ Q_HO_155001
                    have BK154 := aS_ Q_BK154
                    have BK155 := aS_ Q_BK155
                    have HK := aS_ Q_HK
                    have HB := aS_ Q_HB
                    refine Kd.R_lit_step (Kd.int .i64) _ 3 ?hg (N := 73) ?hd (xs := ([x32_2] : List Int)) (inner := [.int .i64 x32_2]) (ok := fun _ => True) (okp := fun _ => True) ?hr ?hp (fun _ hk => hk) trivial (Below.refl _ _) (Nat.le_refl _) (by simp) ?_; (case hd => rfl); (case hg => rfl); (case hr => first | (go_simp; done) | (go_simp; rfl)); (case hp => exact (Reps.one (show Kd.M (Kd.int .i64) _ _ _ x32_2 [.int .i64 x32_2] from rfl) (Reps.none _ _)))
                    intro v166 w56 ho57 hb hg_ hnew_
                    have DN_HO164 := fun (h0_ : b 2 = true) (h1_ : b 5 = false) (k_ : Nat) (e1_ : (v166 : Value).ownBlock = some k_) (e2_ : (v163 : Value).ownBlock = some k_) => (show False from Kd.fresh' (Kd.R_lt (Q_HO164 h0_ h1_)) k_ (Kd.R_base ho57 k_ e1_) e2_.symm)
                    have DN_HO170 := fun (h0_ : b 5 = true) (k_ : Nat) (e1_ : (v166 : Value).ownBlock = some k_) (e2_ : (v169 : Value).ownBlock = some k_) => (show False from Kd.fresh' (Kd.R_lt (Q_HO170 h0_)) k_ (Kd.R_base ho57 k_ e1_) e2_.symm)
                    have DN_HO173 := fun (h0_ : b 8 = true) (h1_ : b 11 = false) (k_ : Nat) (e1_ : (v166 : Value).ownBlock = some k_) (e2_ : (v172 : Value).ownBlock = some k_) => (show False from Kd.fresh' (Kd.R_lt (Q_HO173 h0_ h1_)) k_ (Kd.R_base ho57 k_ e1_) e2_.symm)
                    have DN_HO176 := fun (h0_ : b 10 = true) (k_ : Nat) (e1_ : (v166 : Value).ownBlock = some k_) (e2_ : (v175 : Value).ownBlock = some k_) => (show False from Kd.fresh' (Kd.R_lt (Q_HO176 h0_)) k_ (Kd.R_base ho57 k_ e1_) e2_.symm)
                    have DN_HO179 := fun (h0_ : b 11 = true) (k_ : Nat) (e1_ : (v166 : Value).ownBlock = some k_) (e2_ : (v178 : Value).ownBlock = some k_) => (show False from Kd.fresh' (Kd.R_lt (Q_HO179 h0_)) k_ (Kd.R_base ho57 k_ e1_) e2_.symm)
                    clear hg_ hnew_
                    (first | rw [← Ny165.out] at ho57 | (simp only [Int.reduceToNat] at ho57; rw [← Ny165.out] at ho57))
                    have n0_ := aS_ (Kd.R_elder' (by (with_reducible repeat (first | apply rA_ | apply rN_ | apply rD_)); exact HO_155000.out) (Kd.R_base ho57) hb)
                    have n1_ := aS_ (Kd.R_elder' (by (with_reducible repeat (first | apply rA_ | apply rN_ | apply rD_)); exact HO_155001.out) (Kd.R_base ho57) hb)
                    have n2_ := aS_ (Kd.R_lower (Kd.R_new' (Kd.R_new' (Kd.R_newM (M := fun k_ => ((P0_0_ k_ ∨ P0_1_ k_) ∨ w.heap.size ≤ k_)) ho57 (by first | exact HK.out.1 | exact (show Kept w _ (fun k_ => P0_0_ k_ ∨ P0_1_ k_) from by repeat (first | (with_reducible first | exact HK.out | apply Kept.alloc | apply Kept.drewN | apply Kept.drew | refine Kept.setCell ?_ (.inr GW154.out) _ | refine Kept.setCell ?_ (.inr GW155.out) _) | exact HK.out)).1) (fun k_ h_ => .inr h_)) (Kd.R_lt (by (with_reducible repeat (first | apply rA_ | apply rN_ | apply rD_)); exact HO_155000.out))) (Kd.R_lt (by (with_reducible repeat (first | apply rA_ | apply rN_ | apply rD_)); exact HO_155001.out))) (below_size (by repeat (first | (with_reducible first | exact HB.out | apply bA_ | apply pN_ | apply bD_ | refine bS_ ?_ GE154.out | refine bS_ ?_ GE155.out) | exact HB.out))))
                    have n3_ := aS_ (blk_below (g := gb154) (o := .cells #[.slice Ao12 l0_0.length co12, .slice Ao13 l0_1.length co13] 34 (0, 0)) (by (with_reducible repeat (first | refine kN_ ?_ _ | refine kD_ ?_ | refine kA_ ?_ _)); exact BK154.out) hb)
                    have n4_ := aS_ (blk_below (g := gb155) (o := .cells #[.slice none 0 0, .slice none 0 0] 34 (0, 0)) (by (with_reducible repeat (first | refine kN_ ?_ _ | refine kD_ ?_ | refine kA_ ?_ _)); exact BK155.out) hb)
                    have n5_ := aS_ (Kept.below (S := (fun k_ => P0_0_ k_ ∨ P0_1_ k_)) (by repeat (first | (with_reducible first | exact HK.out | apply Kept.alloc | apply Kept.drewN | apply Kept.drew | refine Kept.setCell ?_ (.inr GW154.out) _ | refine Kept.setCell ?_ (.inr GW155.out) _) | exact HK.out)) hb)
                    have n6_ := aS_ (below_step (by repeat (first | (with_reducible first | exact HB.out | apply bA_ | apply pN_ | apply bD_ | refine bS_ ?_ GE154.out | refine bS_ ?_ GE155.out) | exact HB.out)) hb)
                    have z_HO164 := fun (h0_ : b 2 = true) (h1_ : b 5 = false) => (show Kd.R (Kd.int .i64) 3 w56 w0.heap.size (fun k_ => ((P0_0_ k_ ∨ P0_1_ k_) ∨ w.heap.size ≤ k_) ∧ some k_ ≠ (.slice Ao12 l0_0.length co12 : Value).ownBlock ∧ some k_ ≠ (.slice Ao13 l0_1.length co13 : Value).ownBlock) v163 t162 from by first | exact (Kd.R_elder' (by (with_reducible repeat (first | apply rA_ | apply rN_ | apply rD_)); exact (Q_HO164 h0_ h1_)) (Kd.R_base ho57) hb) | exact Kd.R_mono (Kd.R_elder' (by (with_reducible repeat (first | apply rA_ | apply rN_ | apply rD_)); exact (Q_HO164 h0_ h1_)) (Kd.R_base ho57) hb) (fun _ hk => by first | trivial | exact hk | exact hk.1 | (simp only [hk, ne_eq, not_false_eq_true, and_self])))
                    have z_HO176 := fun (h0_ : b 10 = true) => (show Kd.R (Kd.int .i64) 3 w56 w0.heap.size (fun k_ => ((P0_0_ k_ ∨ P0_1_ k_) ∨ w.heap.size ≤ k_) ∧ some k_ ≠ (.slice Ao12 l0_0.length co12 : Value).ownBlock ∧ some k_ ≠ (.slice Ao13 l0_1.length co13 : Value).ownBlock) v175 y174 from by first | exact (Kd.R_elder' (by (with_reducible repeat (first | apply rA_ | apply rN_ | apply rD_)); exact (Q_HO176 h0_)) (Kd.R_base ho57) hb) | exact Kd.R_mono (Kd.R_elder' (by (with_reducible repeat (first | apply rA_ | apply rN_ | apply rD_)); exact (Q_HO176 h0_)) (Kd.R_base ho57) hb) (fun _ hk => by first | trivial | exact hk | exact hk.1 | (simp only [hk, ne_eq, not_false_eq_true, and_self])))
                    have z_BK180 := fun (h0_ : b 13 = true) (h1_ : b 14 = false) => (show w56.heap[gb180]? = some (.cells #[.slice none 0 0, .slice none 0 0] 34 (0, 0)) from by first | exact (blk_below (g := gb180) (o := .cells #[.slice none 0 0, .slice none 0 0] 34 (0, 0)) (by (with_reducible repeat (first | refine kN_ ?_ _ | refine kD_ ?_ | refine kA_ ?_ _)); exact (Q_BK180 h0_ h1_)) hb))
                    clear HO_155000 HO_155001 BK154 BK155 HK HB
                    have HO_155000 := n0_
                    have HO_155001 := n1_
                    have HO167 := n2_
                    have BK154 := n3_
                    have BK155 := n4_
                    have HK := n5_
                    have HB := n6_
                    clear n0_ n1_ n2_ n3_ n4_ n5_ n6_
                    clear hb ho57
                    refine hK.out _ _ ⟨v163, v166, v169, v172, v175, v178, gb180, m12_, m13_, (by rw [ha.out]; exact putSel_upk 2 hb_ rfl rfl rfl), (by (with_reducible repeat (first | apply rA_ | apply rN_ | apply rD_)); exact Kd.R_mono HO_155000.out (fun _ hk => by first | exact ⟨hk.1.1, ⟨hk.2, hk.1.2⟩⟩ | (simp only [hk, ne_eq, not_false_eq_true, and_self]))), (by (with_reducible repeat (first | apply rA_ | apply rN_ | apply rD_)); exact Kd.R_mono HO_155001.out (fun _ hk => by first | exact ⟨hk.1.1, ⟨hk.2, hk.1.2⟩⟩ | (simp only [hk, ne_eq, not_false_eq_true, and_self]))), (by (with_reducible repeat (first | refine kN_ ?_ _ | refine kD_ ?_ | refine kA_ ?_ _)); exact BK154.out), (by (with_reducible repeat (first | refine kN_ ?_ _ | refine kD_ ?_ | refine kA_ ?_ _)); exact BK155.out), (by repeat (first | (with_reducible first | exact HK.out | apply Kept.alloc | apply Kept.drewN | apply Kept.drew | refine Kept.setCell ?_ (.inr GW154.out) _ | refine Kept.setCell ?_ (.inr GW155.out) _) | exact HK.out)), (by repeat (first | (with_reducible first | exact HB.out | apply bA_ | apply pN_ | apply bD_ | refine bS_ ?_ GE154.out | refine bS_ ?_ GE155.out) | exact HB.out)), z_HO164, fun _ => (by (with_reducible repeat (first | apply rA_ | apply rN_ | apply rD_)); exact Kd.R_mono HO167.out (fun _ hk => by first | exact ⟨hk.1.1.1, ⟨hk.1.2, hk.2⟩⟩ | (simp only [hk, ne_eq, not_false_eq_true, and_self]))), fun h0_ => absurd ((hoff 5 (by kernel_rfl)).symm.trans h0_) (by decide), fun h0_ _ => absurd ((hoff 8 (by kernel_rfl)).symm.trans h0_) (by decide), z_HO176, fun h0_ => absurd ((hoff 11 (by kernel_rfl)).symm.trans h0_) (by decide), z_BK180, Q_GW180, Q_GE180, Q_NB154_180, Q_NB180_154, Q_NB155_180, Q_NB180_155, fun h0_ => absurd ((hoff 14 (by kernel_rfl)).symm.trans h0_) (by decide), fun h0_ => absurd ((hoff 12 (by kernel_rfl)).symm.trans h0_) (by decide), Q_X13_, fun h0_ h1_ h2_ k_ e1_ e2_ => DN_HO164 h0_ h1_ k_ e2_ e1_, Q_D_HO164_HO173, Q_D_HO164_HO176, Q_D_HO164_HO179, fun h0_ h1_ k_ e1_ e2_ => DN_HO170 h1_ k_ e1_ e2_, fun h0_ h1_ h2_ k_ e1_ e2_ => DN_HO173 h1_ h2_ k_ e1_ e2_, fun h0_ h1_ k_ e1_ e2_ => DN_HO176 h1_ k_ e1_ e2_, fun h0_ h1_ k_ e1_ e2_ => DN_HO179 h1_ k_ e1_ e2_, Q_D_HO170_HO173, Q_D_HO170_HO176, Q_D_HO170_HO179, Q_D_HO173_HO176, Q_D_HO176_HO179⟩
                   refine steps_cons ?_ ?_
                   ·rintro b a w' ⟨v163, v166, v169, v172, v175, v178, gb180, m12_, m13_, ha, Q_HO_155000, Q_HO_155001, Q_BK154, Q_BK155, Q_HK, Q_HB, Q_HO164, Q_HO167, Q_HO170, Q_HO173, Q_HO176, Q_HO179, Q_BK180, Q_GW180, Q_GE180, Q_NB154_180, Q_NB180_154, Q_NB155_180, Q_NB180_155, Q_BK180_e14, Q_X12_, Q_X13_, Q_D_HO164_HO167, Q_D_HO164_HO173, Q_D_HO164_HO176, Q_D_HO164_HO179, Q_D_HO167_HO170, Q_D_HO167_HO173, Q_D_HO167_HO176, Q_D_HO167_HO179, Q_D_HO170_HO173, Q_D_HO170_HO176, Q_D_HO170_HO179, Q_D_HO173_HO176, Q_D_HO176_HO179⟩ hb_ hon hoff
                    refine ⟨_, rfl, fun K hK => ?_⟩
                    have e71 : a.tmps[71]? = some (v163) := by rw [ha]; exact putSel_on (e := (2, 71, v163)) 1 rfl rfl (hon 2 (by kernel_rfl)) rfl
                    have e73 : a.tmps[73]? = some (v166) := by rw [ha]; exact putSel_on (e := (4, 73, v166)) 2 rfl rfl (hon 4 (by kernel_rfl)) rfl
                    replace ha := aS_ ha
                    have HO_155000 := aS_ Q_HO_155000
                    have HO_155001 := aS_ Q_HO_155001
                    have BK154 := aS_ Q_BK154
                    have BK155 := aS_ Q_BK155
                    have HK := aS_ Q_HK
                    have HB := aS_ Q_HB
                    have HO164 := aS_ (Q_HO164 (hon 2 (by kernel_rfl)) hb_)
                    have HO167 := aS_ (Q_HO167 (hon 4 (by kernel_rfl)))
                    have R_HO_155000 := aS_ (Kd.R_reok rfl (ok := (fun k_ => ((P0_0_ k_ ∨ P0_1_ k_) ∨ w.heap.size ≤ k_) ∧ some k_ ≠ (v163 : Value).ownBlock ∧ some k_ ≠ (v166 : Value).ownBlock ∧ some k_ ≠ (.slice Ao13 l0_1.length co13 : Value).ownBlock)) (Q_HO_155000) (fun k_ e_ => ⟨((Q_HO_155000).1 k_ e_).1, (fun q_ => ((Q_HO164 (hon 2 (by kernel_rfl)) hb_).1 k_ q_.symm).2.1 e_.symm), (fun q_ => ((Q_HO167 (hon 4 (by kernel_rfl))).1 k_ q_.symm).2.1 e_.symm), ((Q_HO_155000).1 k_ e_).2⟩))
                    have R_HO_155001 := aS_ (Kd.R_reok rfl (ok := (fun k_ => ((P0_0_ k_ ∨ P0_1_ k_) ∨ w.heap.size ≤ k_) ∧ some k_ ≠ (v163 : Value).ownBlock ∧ some k_ ≠ (v166 : Value).ownBlock ∧ some k_ ≠ (.slice Ao12 l0_0.length co12 : Value).ownBlock)) (Q_HO_155001) (fun k_ e_ => ⟨((Q_HO_155001).1 k_ e_).1, (fun q_ => ((Q_HO164 (hon 2 (by kernel_rfl)) hb_).1 k_ q_.symm).2.2 e_.symm), (fun q_ => ((Q_HO167 (hon 4 (by kernel_rfl))).1 k_ q_.symm).2.2 e_.symm), ((Q_HO_155001).1 k_ e_).2⟩))
                    have R_HO164 := aS_ (Kd.R_reok rfl (ok := (fun k_ => ((P0_0_ k_ ∨ P0_1_ k_) ∨ w.heap.size ≤ k_) ∧ some k_ ≠ (v166 : Value).ownBlock ∧ some k_ ≠ (.slice Ao12 l0_0.length co12 : Value).ownBlock ∧ some k_ ≠ (.slice Ao13 l0_1.length co13 : Value).ownBlock)) (Q_HO164 (hon 2 (by kernel_rfl)) hb_) (fun k_ e_ => ⟨((Q_HO164 (hon 2 (by kernel_rfl)) hb_).1 k_ e_).1, (fun q_ => (Q_D_HO164_HO167 (hon 2 (by kernel_rfl)) hb_ (hon 4 (by kernel_rfl))) k_ e_ q_.symm), ((Q_HO164 (hon 2 (by kernel_rfl)) hb_).1 k_ e_).2.1, ((Q_HO164 (hon 2 (by kernel_rfl)) hb_).1 k_ e_).2.2⟩))
                    have R_HO167 := aS_ (Kd.R_reok rfl (ok := (fun k_ => ((P0_0_ k_ ∨ P0_1_ k_) ∨ w.heap.size ≤ k_) ∧ some k_ ≠ (v163 : Value).ownBlock ∧ some k_ ≠ (.slice Ao12 l0_0.length co12 : Value).ownBlock ∧ some k_ ≠ (.slice Ao13 l0_1.length co13 : Value).ownBlock)) (Q_HO167 (hon 4 (by kernel_rfl))) (fun k_ e_ => ⟨((Q_HO167 (hon 4 (by kernel_rfl))).1 k_ e_).1, (fun q_ => (Q_D_HO164_HO167 (hon 2 (by kernel_rfl)) hb_ (hon 4 (by kernel_rfl))) k_ q_.symm e_), ((Q_HO167 (hon 4 (by kernel_rfl))).1 k_ e_).2.1, ((Q_HO167 (hon 4 (by kernel_rfl))).1 k_ e_).2.2⟩))
                    clear HO_155000
                    have HO_155000 := R_HO_155000
                    clear R_HO_155000 HO_155001
                    have HO_155001 := R_HO_155001
                    clear R_HO_155001 HO164
                    have HO164 := R_HO164
                    clear R_HO164 HO167
                    have HO167 := R_HO167
                    clear R_HO167
                    have F_HO176 := fun (h0_ : b 10 = true) => Kd.R_reok rfl (ok := (fun k_ => ((P0_0_ k_ ∨ P0_1_ k_) ∨ w.heap.size ≤ k_) ∧ some k_ ≠ (v163 : Value).ownBlock ∧ some k_ ≠ (v166 : Value).ownBlock ∧ some k_ ≠ (.slice Ao12 l0_0.length co12 : Value).ownBlock ∧ some k_ ≠ (.slice Ao13 l0_1.length co13 : Value).ownBlock)) (Q_HO176 h0_) (fun k_ e_ => ⟨((Q_HO176 h0_).1 k_ e_).1, (fun q_ => (Q_D_HO164_HO176 (hon 2 (by kernel_rfl)) hb_ h0_) k_ q_.symm e_), (fun q_ => (Q_D_HO167_HO176 (hon 4 (by kernel_rfl)) h0_) k_ q_.symm e_), ((Q_HO176 h0_).1 k_ e_).2.1, ((Q_HO176 h0_).1 k_ e_).2.2⟩)
                    obtain ⟨Ao61, co61, eo61⟩ := Kd.R_slice HO167.out
                    (first | subst eo61 | (injection eo61 with f1_ f2_ f3_; have f4_ := f1_.symm; have f5_ := f3_.symm; clear f1_ f2_ f3_; subst f4_; subst f5_))
                    refine Kd.R_append_rows_step (Kd.int .i64) (w0 := w0) w0.heap.size (by rfl) (.tmp 71) (.tmp 73) 32 3 (.int .i64 0) 8 rfl Try.underlying32 info3 rfl (by decide) (by omega) v163 t162 y165 _ _ _ (fun k_ => ((P0_0_ k_ ∨ P0_1_ k_) ∨ w.heap.size ≤ k_) ∧ some k_ ≠ (.slice Ao12 l0_0.length co12 : Value).ownBlock ∧ some k_ ≠ (.slice Ao13 l0_1.length co13 : Value).ownBlock ∧ some k_ ≠ (.slice Ao61 y165.length co61 : Value).ownBlock) (fun _ => False) (ev_tmp4 e71) (ev_tmp4 e73) ?aO ?aR (fun _ _ h => h) (fun _ h => h.elim) ?aF ?aB ?aS ?aL ?_
                    (case aR => repeat (first | exact (Kd.R_reads' HO167.out).2.2 | (with_reducible refine Kd.C_alloc ?_ _) | (with_reducible refine Kd.C_drewN ?_ _) | (with_reducible refine Kd.C_drew ?_)))
                    (case aB => exact (by repeat (first | (with_reducible first | exact HB.out | apply bA_ | apply pN_ | apply bD_ | refine bS_ ?_ GE154.out | refine bS_ ?_ GE155.out) | exact HB.out)))
                    (case aF => exact (fun k_ hk => ⟨(.inr (Nat.le_trans (by first | exact HK.out.1 | exact (show Kept w _ (fun k_ => P0_0_ k_ ∨ P0_1_ k_) from by repeat (first | (with_reducible first | exact HK.out | apply Kept.alloc | apply Kept.drewN | apply Kept.drew | refine Kept.setCell ?_ (.inr GW154.out) _ | refine Kept.setCell ?_ (.inr GW155.out) _) | exact HK.out)).1) hk)), Kd.fresh' (Kd.R_lt (by (with_reducible repeat (first | apply rA_ | apply rN_ | apply rD_)); exact HO_155000.out)) k_ hk, Kd.fresh' (Kd.R_lt (by (with_reducible repeat (first | apply rA_ | apply rN_ | apply rD_)); exact HO_155001.out)) k_ hk, Kd.fresh' (Kd.R_lt (by (with_reducible repeat (first | apply rA_ | apply rN_ | apply rD_)); exact HO167.out)) k_ hk⟩))
                    (case aO => exact (by (with_reducible repeat (first | apply rA_ | apply rN_ | apply rD_)); exact Kd.R_mono HO164.out (fun _ hk => by first | exact ⟨hk.1, ⟨hk.2.2.1, ⟨hk.2.2.2, hk.2.1⟩⟩⟩ | (simp only [hk, ne_eq, not_false_eq_true, and_self]))))
                    (case aS => exact (below_size (by repeat (first | (with_reducible first | exact HB.out | apply bA_ | apply pN_ | apply bD_ | refine bS_ ?_ GE154.out | refine bS_ ?_ GE155.out) | exact HB.out))))
                    (case aL => have := LMc50.out; omega)
                    intro v169 w60 ho hb hg hat
                    have DN_HO167 := fun (h0_ : b 4 = true) (k_ : Nat) (e1_ : (v169 : Value).ownBlock = some k_) (e2_ : (.slice Ao61 y165.length co61 : Value).ownBlock = some k_) => (show False from Or.elim hat (fun q_ => Q_D_HO164_HO167 (hon 2 (by kernel_rfl)) hb_ h0_ k_ (q_.symm.trans e1_) e2_) (fun ⟨b_, q_, l_⟩ => Kd.fresh' (Kd.R_lt (Q_HO167 h0_)) k_ (by rw [q_] at e1_; cases e1_; exact l_) e2_.symm))
                    have DN_HO173 := fun (h0_ : b 8 = true) (h1_ : b 11 = false) (k_ : Nat) (e1_ : (v169 : Value).ownBlock = some k_) (e2_ : (v172 : Value).ownBlock = some k_) => (show False from Or.elim hat (fun q_ => Q_D_HO164_HO173 (hon 2 (by kernel_rfl)) hb_ h0_ h1_ k_ (q_.symm.trans e1_) e2_) (fun ⟨b_, q_, l_⟩ => Kd.fresh' (Kd.R_lt (Q_HO173 h0_ h1_)) k_ (by rw [q_] at e1_; cases e1_; exact l_) e2_.symm))
                    have DN_HO176 := fun (h0_ : b 10 = true) (k_ : Nat) (e1_ : (v169 : Value).ownBlock = some k_) (e2_ : (v175 : Value).ownBlock = some k_) => (show False from Or.elim hat (fun q_ => Q_D_HO164_HO176 (hon 2 (by kernel_rfl)) hb_ h0_ k_ (q_.symm.trans e1_) e2_) (fun ⟨b_, q_, l_⟩ => Kd.fresh' (Kd.R_lt (Q_HO176 h0_)) k_ (by rw [q_] at e1_; cases e1_; exact l_) e2_.symm))
                    have DN_HO179 := fun (h0_ : b 11 = true) (k_ : Nat) (e1_ : (v169 : Value).ownBlock = some k_) (e2_ : (v178 : Value).ownBlock = some k_) => (show False from Or.elim hat (fun q_ => Q_D_HO164_HO179 (hon 2 (by kernel_rfl)) hb_ h0_ k_ (q_.symm.trans e1_) e2_) (fun ⟨b_, q_, l_⟩ => Kd.fresh' (Kd.R_lt (Q_HO179 h0_)) k_ (by rw [q_] at e1_; cases e1_; exact l_) e2_.symm))
                    rw [← Ny168.out] at ho
                    have n0_ := aS_ (Kd.R_after (ok := (fun k_ => ((P0_0_ k_ ∨ P0_1_ k_) ∨ w.heap.size ≤ k_) ∧ some k_ ≠ (.slice Ao13 l0_1.length co13 : Value).ownBlock ∧ some k_ ≠ (.slice Ao61 y165.length co61 : Value).ownBlock)) (by (with_reducible repeat (first | apply rA_ | apply rN_ | apply rD_)); exact Kd.R_mono HO_155000.out (fun _ hk => by first | exact ⟨⟨hk.1, ⟨hk.2.2.2, hk.2.2.1⟩⟩, hk.2.1⟩ | (simp only [hk, ne_eq, not_false_eq_true, and_self]))) hg hat)
                    have n1_ := aS_ (Kd.R_after (ok := (fun k_ => ((P0_0_ k_ ∨ P0_1_ k_) ∨ w.heap.size ≤ k_) ∧ some k_ ≠ (.slice Ao12 l0_0.length co12 : Value).ownBlock ∧ some k_ ≠ (.slice Ao61 y165.length co61 : Value).ownBlock)) (by (with_reducible repeat (first | apply rA_ | apply rN_ | apply rD_)); exact Kd.R_mono HO_155001.out (fun _ hk => by first | exact ⟨⟨hk.1, ⟨hk.2.2.2, hk.2.2.1⟩⟩, hk.2.1⟩ | (simp only [hk, ne_eq, not_false_eq_true, and_self]))) hg hat)
                    have n2_ := aS_ (blk_grown (g := gb154) (o := .cells #[.slice Ao12 l0_0.length co12, .slice Ao13 l0_1.length co13] 34 (0, 0)) (by (with_reducible repeat (first | refine kN_ ?_ _ | refine kD_ ?_ | refine kA_ ?_ _)); exact BK154.out) hg (Kd.R_ne HO164.out BK154.out (by decide)))
                    have n3_ := aS_ (blk_grown (g := gb155) (o := .cells #[.slice none 0 0, .slice none 0 0] 34 (0, 0)) (by (with_reducible repeat (first | refine kN_ ?_ _ | refine kD_ ?_ | refine kA_ ?_ _)); exact BK155.out) hg (Kd.R_ne HO164.out BK155.out (by decide)))
                    have n4_ := aS_ (Kd.R_after (ok := (fun k_ => ((P0_0_ k_ ∨ P0_1_ k_) ∨ w.heap.size ≤ k_) ∧ some k_ ≠ (.slice Ao12 l0_0.length co12 : Value).ownBlock ∧ some k_ ≠ (.slice Ao13 l0_1.length co13 : Value).ownBlock)) (by (with_reducible repeat (first | apply rA_ | apply rN_ | apply rD_)); exact Kd.R_mono HO167.out (fun _ hk => by first | exact ⟨⟨hk.1, ⟨hk.2.2.1, hk.2.2.2⟩⟩, hk.2.1⟩ | (simp only [hk, ne_eq, not_false_eq_true, and_self]))) hg hat)
                    have n5_ := aS_ (hb)
                    have n6_ := aS_ (Kept.of_grown (S := (fun k_ => P0_0_ k_ ∨ P0_1_ k_)) hg (by repeat (first | (with_reducible first | exact HK.out | apply Kept.alloc | apply Kept.drewN | apply Kept.drew | refine Kept.setCell ?_ (.inr GW154.out) _ | refine Kept.setCell ?_ (.inr GW155.out) _) | exact HK.out)) (fun k_ e_ => (HO164.out.1 k_ e_).1))
                    have n7_ := aS_ (ho)
                    have z_HO176 := fun (h0_ : b 10 = true) => (show Kd.R (Kd.int .i64) 3 w60 w0.heap.size (fun k_ => ((P0_0_ k_ ∨ P0_1_ k_) ∨ w.heap.size ≤ k_) ∧ some k_ ≠ (.slice Ao12 l0_0.length co12 : Value).ownBlock ∧ some k_ ≠ (.slice Ao13 l0_1.length co13 : Value).ownBlock) v175 y174 from by first | exact (Kd.R_after (ok := (fun k_ => ((P0_0_ k_ ∨ P0_1_ k_) ∨ w.heap.size ≤ k_) ∧ some k_ ≠ (.slice Ao12 l0_0.length co12 : Value).ownBlock ∧ some k_ ≠ (.slice Ao13 l0_1.length co13 : Value).ownBlock ∧ some k_ ≠ (.slice Ao61 y165.length co61 : Value).ownBlock)) (by (with_reducible repeat (first | apply rA_ | apply rN_ | apply rD_)); exact Kd.R_mono (F_HO176 h0_) (fun _ hk => by first | exact ⟨⟨hk.1, ⟨hk.2.2.2.1, ⟨hk.2.2.2.2, hk.2.2.1⟩⟩⟩, hk.2.1⟩ | (simp only [hk, ne_eq, not_false_eq_true, and_self]))) hg hat) | exact Kd.R_mono (Kd.R_after (ok := (fun k_ => ((P0_0_ k_ ∨ P0_1_ k_) ∨ w.heap.size ≤ k_) ∧ some k_ ≠ (.slice Ao12 l0_0.length co12 : Value).ownBlock ∧ some k_ ≠ (.slice Ao13 l0_1.length co13 : Value).ownBlock ∧ some k_ ≠ (.slice Ao61 y165.length co61 : Value).ownBlock)) (by (with_reducible repeat (first | apply rA_ | apply rN_ | apply rD_)); exact Kd.R_mono (F_HO176 h0_) (fun _ hk => by first | exact ⟨⟨hk.1, ⟨hk.2.2.2.1, ⟨hk.2.2.2.2, hk.2.2.1⟩⟩⟩, hk.2.1⟩ | (simp only [hk, ne_eq, not_false_eq_true, and_self]))) hg hat) (fun _ hk => by first | trivial | exact hk | exact hk.1 | (simp only [hk, ne_eq, not_false_eq_true, and_self])))
                    have z_BK180 := fun (h0_ : b 13 = true) (h1_ : b 14 = false) => (show w60.heap[gb180]? = some (.cells #[.slice none 0 0, .slice none 0 0] 34 (0, 0)) from by first | exact (blk_grown (g := gb180) (o := .cells #[.slice none 0 0, .slice none 0 0] 34 (0, 0)) (by (with_reducible repeat (first | refine kN_ ?_ _ | refine kD_ ?_ | refine kA_ ?_ _)); exact (Q_BK180 h0_ h1_)) hg (Kd.R_ne HO164.out (Q_BK180 h0_ h1_) (by decide))))
                    clear HO_155000 HO_155001 BK154 BK155 HO167 HB HK HO164
                    have HO_155000 := n0_
                    have HO_155001 := n1_
                    have BK154 := n2_
                    have BK155 := n3_
                    have HO167 := n4_
                    have HB := n5_
                    have HK := n6_
                    have HO170 := n7_
                    clear n0_ n1_ n2_ n3_ n4_ n5_ n6_ n7_
                    clear ho hb hg hat
                    refine hK.out _ _ ⟨v163, .slice Ao61 y165.length co61, v169, v172, v175, v178, gb180, m12_, m13_, (by rw [ha.out]; exact putSel_upk 3 hb_ rfl rfl rfl), (by (with_reducible repeat (first | apply rA_ | apply rN_ | apply rD_)); exact Kd.R_mono HO_155000.out (fun _ hk => by first | exact ⟨hk.1.1, ⟨hk.1.2.2, ⟨hk.2, hk.1.2.1⟩⟩⟩ | (simp only [hk, ne_eq, not_false_eq_true, and_self]))), (by (with_reducible repeat (first | apply rA_ | apply rN_ | apply rD_)); exact Kd.R_mono HO_155001.out (fun _ hk => by first | exact ⟨hk.1.1, ⟨hk.1.2.2, ⟨hk.2, hk.1.2.1⟩⟩⟩ | (simp only [hk, ne_eq, not_false_eq_true, and_self]))), (by (with_reducible repeat (first | refine kN_ ?_ _ | refine kD_ ?_ | refine kA_ ?_ _)); exact BK154.out), (by (with_reducible repeat (first | refine kN_ ?_ _ | refine kD_ ?_ | refine kA_ ?_ _)); exact BK155.out), (by repeat (first | (with_reducible first | exact HK.out | apply Kept.alloc | apply Kept.drewN | apply Kept.drew | refine Kept.setCell ?_ (.inr GW154.out) _ | refine Kept.setCell ?_ (.inr GW155.out) _) | exact HK.out)), (by repeat (first | (with_reducible first | exact HB.out | apply bA_ | apply pN_ | apply bD_ | refine bS_ ?_ GE154.out | refine bS_ ?_ GE155.out) | exact HB.out)), fun _ h1_ => absurd ((up_self b 5).symm.trans h1_) (by decide), fun _ => (by (with_reducible repeat (first | apply rA_ | apply rN_ | apply rD_)); exact Kd.R_mono HO167.out (fun _ hk => by first | exact ⟨hk.1.1, ⟨hk.2, ⟨hk.1.2.1, hk.1.2.2⟩⟩⟩ | (simp only [hk, ne_eq, not_false_eq_true, and_self]))), fun _ => (by (with_reducible repeat (first | apply rA_ | apply rN_ | apply rD_)); exact Kd.R_mono HO170.out (fun _ hk => by first | exact ⟨hk.1, ⟨hk.2.2.2, ⟨hk.2.1, hk.2.2.1⟩⟩⟩ | (simp only [hk, ne_eq, not_false_eq_true, and_self]))), fun h0_ _ => absurd ((hoff 8 (by kernel_rfl)).symm.trans h0_) (by decide), z_HO176, fun h0_ => absurd ((hoff 11 (by kernel_rfl)).symm.trans h0_) (by decide), z_BK180, Q_GW180, Q_GE180, Q_NB154_180, Q_NB180_154, Q_NB155_180, Q_NB180_155, fun h0_ => absurd ((hoff 14 (by kernel_rfl)).symm.trans h0_) (by decide), fun h0_ => absurd ((hoff 12 (by kernel_rfl)).symm.trans h0_) (by decide), Q_X13_, fun h0_ h1_ h2_ _ _ _ => absurd ((up_self b 5).symm.trans h1_) (by decide), fun h0_ h1_ h2_ h3_ _ _ _ => absurd ((up_self b 5).symm.trans h1_) (by decide), fun h0_ h1_ h2_ _ _ _ => absurd ((up_self b 5).symm.trans h1_) (by decide), fun h0_ h1_ h2_ _ _ _ => absurd ((up_self b 5).symm.trans h1_) (by decide), fun h0_ h1_ k_ e1_ e2_ => DN_HO167 h0_ k_ e2_ e1_, Q_D_HO167_HO173, Q_D_HO167_HO176, Q_D_HO167_HO179, fun h0_ h1_ h2_ k_ e1_ e2_ => DN_HO173 h1_ h2_ k_ e1_ e2_, fun h0_ h1_ k_ e1_ e2_ => DN_HO176 h1_ k_ e1_ e2_, fun h0_ h1_ k_ e1_ e2_ => DN_HO179 h1_ k_ e1_ e2_, Q_D_HO173_HO176, Q_D_HO176_HO179⟩
                   refine steps_cons ?_ ?_
                   ·rintro b a w' ⟨v163, v166, v169, v172, v175, v178, gb180, m12_, m13_, ha, Q_HO_155000, Q_HO_155001, Q_BK154, Q_BK155, Q_HK, Q_HB, Q_HO164, Q_HO167, Q_HO170, Q_HO173, Q_HO176, Q_HO179, Q_BK180, Q_GW180, Q_GE180, Q_NB154_180, Q_NB180_154, Q_NB155_180, Q_NB180_155, Q_BK180_e14, Q_X12_, Q_X13_, Q_D_HO164_HO167, Q_D_HO164_HO173, Q_D_HO164_HO176, Q_D_HO164_HO179, Q_D_HO167_HO170, Q_D_HO167_HO173, Q_D_HO167_HO176, Q_D_HO167_HO179, Q_D_HO170_HO173, Q_D_HO170_HO176, Q_D_HO170_HO179, Q_D_HO173_HO176, Q_D_HO176_HO179⟩ hb_ hon hoff
                    refine ⟨_, rfl, fun K hK => ?_⟩
                    have e75 : a.tmps[75]? = some (.pointer (some ⟨gb154, 1, none⟩)) := by rw [ha]; exact (putSel_off rfl).trans rfl
                    replace ha := aS_ ha
                    have HO_155000 := aS_ Q_HO_155000
                    have HO_155001 := aS_ Q_HO_155001
                    have BK154 := aS_ Q_BK154
                    have BK155 := aS_ Q_BK155
                    have HK := aS_ Q_HK
                    have HB := aS_ Q_HB
                    have hc0_ : w'.cell? ⟨gb154, 0, none⟩ = some (.slice Ao12 l0_0.length co12) := (blk_cell BK154.out 0).trans rfl
                    have hc1_ : w'.cell? ⟨gb154, 1, none⟩ = some (.slice Ao13 l0_1.length co13) := (blk_cell BK154.out 1).trans rfl
                    refine value_ (w1 := w') (v := .slice Ao13 l0_1.length co13) (by rfl) rfl ?_ ?_
                    ·go_simp
                     (try simp only [i64_w])
                     try rfl
                    refine hK.out _ _ ⟨v163, v166, v169, v172, v175, v178, gb180, m12_, m13_, (by rw [ha.out]; exact putSel_upk 4 hb_ rfl rfl rfl), Q_HO_155000, Q_HO_155001, Q_BK154, Q_BK155, Q_HK, Q_HB, Q_HO164, Q_HO167, Q_HO170, fun h0_ _ => absurd ((hoff 8 (by kernel_rfl)).symm.trans h0_) (by decide), Q_HO176, fun h0_ => absurd ((hoff 11 (by kernel_rfl)).symm.trans h0_) (by decide), Q_BK180, Q_GW180, Q_GE180, Q_NB154_180, Q_NB180_154, Q_NB155_180, Q_NB180_155, fun h0_ => absurd ((hoff 14 (by kernel_rfl)).symm.trans h0_) (by decide), fun h0_ => absurd ((hoff 12 (by kernel_rfl)).symm.trans h0_) (by decide), Q_X13_, Q_D_HO164_HO167, Q_D_HO164_HO173, Q_D_HO164_HO176, Q_D_HO164_HO179, Q_D_HO167_HO170, Q_D_HO167_HO173, Q_D_HO167_HO176, Q_D_HO167_HO179, Q_D_HO170_HO173, Q_D_HO170_HO176, Q_D_HO170_HO179, Q_D_HO173_HO176, Q_D_HO176_HO179⟩
                   refine steps_cons ?_ ?_
                   ·rintro b a w' ⟨v163, v166, v169, v172, v175, v178, gb180, m12_, m13_, ha, Q_HO_155000, Q_HO_155001, Q_BK154, Q_BK155, Q_HK, Q_HB, Q_HO164, Q_HO167, Q_HO170, Q_HO173, Q_HO176, Q_HO179, Q_BK180, Q_GW180, Q_GE180, Q_NB154_180, Q_NB180_154, Q_NB155_180, Q_NB180_155, Q_BK180_e14, Q_X12_, Q_X13_, Q_D_HO164_HO167, Q_D_HO164_HO173, Q_D_HO164_HO176, Q_D_HO164_HO179, Q_D_HO167_HO170, Q_D_HO167_HO173, Q_D_HO167_HO176, Q_D_HO167_HO179, Q_D_HO170_HO173, Q_D_HO170_HO176, Q_D_HO170_HO179, Q_D_HO173_HO176, Q_D_HO176_HO179⟩ hb_ hon hoff
                    refine ⟨_, rfl, fun K hK => ?_⟩
                    have e76 : a.tmps[76]? = some (.slice Ao13 l0_1.length co13) := by rw [ha]; exact putSel_on (e := (7, 76, .slice Ao13 l0_1.length co13)) 4 rfl rfl (hon 7 (by kernel_rfl)) rfl
                    replace ha := aS_ ha
                    have HO_155000 := aS_ Q_HO_155000
                    have HO_155001 := aS_ Q_HO_155001
                    have BK154 := aS_ Q_BK154
                    have BK155 := aS_ Q_BK155
                    have HK := aS_ Q_HK
                    have HB := aS_ Q_HB
                    have HO167 := aS_ (Q_HO167 (hon 4 (by kernel_rfl)))
                    have HO170 := aS_ (Q_HO170 (hon 5 (by kernel_rfl)))
                    have R_HO_155000 := aS_ (Kd.R_reok rfl (ok := (fun k_ => ((P0_0_ k_ ∨ P0_1_ k_) ∨ w.heap.size ≤ k_) ∧ some k_ ≠ (v166 : Value).ownBlock ∧ some k_ ≠ (v169 : Value).ownBlock ∧ some k_ ≠ (.slice Ao13 l0_1.length co13 : Value).ownBlock)) (Q_HO_155000) (fun k_ e_ => ⟨((Q_HO_155000).1 k_ e_).1, (fun q_ => ((Q_HO167 (hon 4 (by kernel_rfl))).1 k_ q_.symm).2.1 e_.symm), (fun q_ => ((Q_HO170 (hon 5 (by kernel_rfl))).1 k_ q_.symm).2.1 e_.symm), ((Q_HO_155000).1 k_ e_).2⟩))
                    have R_HO_155001 := aS_ (Kd.R_reok rfl (ok := (fun k_ => ((P0_0_ k_ ∨ P0_1_ k_) ∨ w.heap.size ≤ k_) ∧ some k_ ≠ (v166 : Value).ownBlock ∧ some k_ ≠ (v169 : Value).ownBlock ∧ some k_ ≠ (.slice Ao12 l0_0.length co12 : Value).ownBlock)) (Q_HO_155001) (fun k_ e_ => ⟨((Q_HO_155001).1 k_ e_).1, (fun q_ => ((Q_HO167 (hon 4 (by kernel_rfl))).1 k_ q_.symm).2.2 e_.symm), (fun q_ => ((Q_HO170 (hon 5 (by kernel_rfl))).1 k_ q_.symm).2.2 e_.symm), ((Q_HO_155001).1 k_ e_).2⟩))
                    have R_HO167 := aS_ (Kd.R_reok rfl (ok := (fun k_ => ((P0_0_ k_ ∨ P0_1_ k_) ∨ w.heap.size ≤ k_) ∧ some k_ ≠ (v169 : Value).ownBlock ∧ some k_ ≠ (.slice Ao12 l0_0.length co12 : Value).ownBlock ∧ some k_ ≠ (.slice Ao13 l0_1.length co13 : Value).ownBlock)) (Q_HO167 (hon 4 (by kernel_rfl))) (fun k_ e_ => ⟨((Q_HO167 (hon 4 (by kernel_rfl))).1 k_ e_).1, (fun q_ => (Q_D_HO167_HO170 (hon 4 (by kernel_rfl)) (hon 5 (by kernel_rfl))) k_ e_ q_.symm), ((Q_HO167 (hon 4 (by kernel_rfl))).1 k_ e_).2.1, ((Q_HO167 (hon 4 (by kernel_rfl))).1 k_ e_).2.2⟩))
                    have R_HO170 := aS_ (Kd.R_reok rfl (ok := (fun k_ => ((P0_0_ k_ ∨ P0_1_ k_) ∨ w.heap.size ≤ k_) ∧ some k_ ≠ (v166 : Value).ownBlock ∧ some k_ ≠ (.slice Ao12 l0_0.length co12 : Value).ownBlock ∧ some k_ ≠ (.slice Ao13 l0_1.length co13 : Value).ownBlock)) (Q_HO170 (hon 5 (by kernel_rfl))) (fun k_ e_ => ⟨((Q_HO170 (hon 5 (by kernel_rfl))).1 k_ e_).1, (fun q_ => (Q_D_HO167_HO170 (hon 4 (by kernel_rfl)) (hon 5 (by kernel_rfl))) k_ q_.symm e_), ((Q_HO170 (hon 5 (by kernel_rfl))).1 k_ e_).2.1, ((Q_HO170 (hon 5 (by kernel_rfl))).1 k_ e_).2.2⟩))
                    clear HO_155000
                    have HO_155000 := R_HO_155000
                    clear R_HO_155000 HO_155001
                    have HO_155001 := R_HO_155001
                    clear R_HO_155001 HO167
                    have HO167 := R_HO167
                    clear R_HO167 HO170
                    have HO170 := R_HO170
                    clear R_HO170
                    refine goes_ Try.func21 (by kernel_rfl) rfl #[.slice Ao13 l0_1.length co13] (by rfl) rfl rfl (by first | (simp only [List.map_toArray, List.map_cons, List.map_nil, Act.eval, Array.getD_eq_getD_getElem?, Option.getD_some, e76]; done) | (simp only [List.map_toArray, List.map_cons, List.map_nil, Act.eval, Array.getD_eq_getD_getElem?, Option.getD_some, e76]; rfl)) ?_
                    with_reducible refine (spec_l1Own.calls _ _ l0_1 t171 _ ?side1 ?side2 A51.out).mono ?_
                    (case side1 => repeat (first | exact (Kd.R_reads' HO_155001.out).2.2 | (with_reducible refine Kd.C_alloc ?_ _) | (with_reducible refine Kd.C_drewN ?_ _) | (with_reducible refine Kd.C_drew ?_)))
                    (case side2 => exact (Kd.R_reads' HO_155001.out).2.1)
                    rintro e w62 ⟨v172, rfl, ho0, hb⟩
                    have DN_HO164 := fun (h0_ : b 2 = true) (h1_ : b 5 = false) (k_ : Nat) (e1_ : (v172 : Value).ownBlock = some k_) (e2_ : (v163 : Value).ownBlock = some k_) => (show False from Kd.fresh' (Kd.R_lt (Q_HO164 h0_ h1_)) k_ (Kd.R_base ho0 k_ e1_) e2_.symm)
                    have DN_HO167 := fun (h0_ : b 4 = true) (k_ : Nat) (e1_ : (v172 : Value).ownBlock = some k_) (e2_ : (v166 : Value).ownBlock = some k_) => (show False from Kd.fresh' (Kd.R_lt (Q_HO167 h0_)) k_ (Kd.R_base ho0 k_ e1_) e2_.symm)
                    have DN_HO170 := fun (h0_ : b 5 = true) (k_ : Nat) (e1_ : (v172 : Value).ownBlock = some k_) (e2_ : (v169 : Value).ownBlock = some k_) => (show False from Kd.fresh' (Kd.R_lt (Q_HO170 h0_)) k_ (Kd.R_base ho0 k_ e1_) e2_.symm)
                    have DN_HO176 := fun (h0_ : b 10 = true) (k_ : Nat) (e1_ : (v172 : Value).ownBlock = some k_) (e2_ : (v175 : Value).ownBlock = some k_) => (show False from Kd.fresh' (Kd.R_lt (Q_HO176 h0_)) k_ (Kd.R_base ho0 k_ e1_) e2_.symm)
                    refine ⟨_, rfl, ?_⟩
                    have n0_ := aS_ (Kd.R_elder' (by (with_reducible repeat (first | apply rA_ | apply rN_ | apply rD_)); exact HO_155000.out) (Kd.R_base ho0) hb)
                    have n1_ := aS_ (Kd.R_elder' (by (with_reducible repeat (first | apply rA_ | apply rN_ | apply rD_)); exact HO_155001.out) (Kd.R_base ho0) hb)
                    have n2_ := aS_ (Kd.R_elder' (by (with_reducible repeat (first | apply rA_ | apply rN_ | apply rD_)); exact HO167.out) (Kd.R_base ho0) hb)
                    have n3_ := aS_ (Kd.R_elder' (by (with_reducible repeat (first | apply rA_ | apply rN_ | apply rD_)); exact HO170.out) (Kd.R_base ho0) hb)
                    have n4_ := aS_ (Kd.R_lower (Kd.R_new' (Kd.R_new' (Kd.R_new' (Kd.R_new' (Kd.R_newM (M := fun k_ => ((P0_0_ k_ ∨ P0_1_ k_) ∨ w.heap.size ≤ k_)) ho0 (by first | exact HK.out.1 | exact (show Kept w _ (fun k_ => P0_0_ k_ ∨ P0_1_ k_) from by repeat (first | (with_reducible first | exact HK.out | apply Kept.alloc | apply Kept.drewN | apply Kept.drew | refine Kept.setCell ?_ (.inr GW154.out) _ | refine Kept.setCell ?_ (.inr GW155.out) _) | exact HK.out)).1) (fun k_ h_ => .inr h_)) (Kd.R_lt (by (with_reducible repeat (first | apply rA_ | apply rN_ | apply rD_)); exact HO_155000.out))) (Kd.R_lt (by (with_reducible repeat (first | apply rA_ | apply rN_ | apply rD_)); exact HO_155001.out))) (Kd.R_lt (by (with_reducible repeat (first | apply rA_ | apply rN_ | apply rD_)); exact HO167.out))) (Kd.R_lt (by (with_reducible repeat (first | apply rA_ | apply rN_ | apply rD_)); exact HO170.out))) (below_size (by repeat (first | (with_reducible first | exact HB.out | apply bA_ | apply pN_ | apply bD_ | refine bS_ ?_ GE154.out | refine bS_ ?_ GE155.out) | exact HB.out))))
                    have n5_ := aS_ (blk_below (g := gb154) (o := .cells #[.slice Ao12 l0_0.length co12, .slice Ao13 l0_1.length co13] 34 (0, 0)) (by (with_reducible repeat (first | refine kN_ ?_ _ | refine kD_ ?_ | refine kA_ ?_ _)); exact BK154.out) hb)
                    have n6_ := aS_ (blk_below (g := gb155) (o := .cells #[.slice none 0 0, .slice none 0 0] 34 (0, 0)) (by (with_reducible repeat (first | refine kN_ ?_ _ | refine kD_ ?_ | refine kA_ ?_ _)); exact BK155.out) hb)
                    have n7_ := aS_ (Kept.below (S := (fun k_ => P0_0_ k_ ∨ P0_1_ k_)) (by repeat (first | (with_reducible first | exact HK.out | apply Kept.alloc | apply Kept.drewN | apply Kept.drew | refine Kept.setCell ?_ (.inr GW154.out) _ | refine Kept.setCell ?_ (.inr GW155.out) _) | exact HK.out)) hb)
                    have n8_ := aS_ (below_step (by repeat (first | (with_reducible first | exact HB.out | apply bA_ | apply pN_ | apply bD_ | refine bS_ ?_ GE154.out | refine bS_ ?_ GE155.out) | exact HB.out)) hb)
                    have z_HO176 := fun (h0_ : b 10 = true) => (show Kd.R (Kd.int .i64) 3 w62 w0.heap.size (fun k_ => ((P0_0_ k_ ∨ P0_1_ k_) ∨ w.heap.size ≤ k_) ∧ some k_ ≠ (.slice Ao12 l0_0.length co12 : Value).ownBlock ∧ some k_ ≠ (.slice Ao13 l0_1.length co13 : Value).ownBlock) v175 y174 from by first | exact (Kd.R_elder' (by (with_reducible repeat (first | apply rA_ | apply rN_ | apply rD_)); exact (Q_HO176 h0_)) (Kd.R_base ho0) hb) | exact Kd.R_mono (Kd.R_elder' (by (with_reducible repeat (first | apply rA_ | apply rN_ | apply rD_)); exact (Q_HO176 h0_)) (Kd.R_base ho0) hb) (fun _ hk => by first | trivial | exact hk | exact hk.1 | (simp only [hk, ne_eq, not_false_eq_true, and_self])))
                    have z_BK180 := fun (h0_ : b 13 = true) (h1_ : b 14 = false) => (show w62.heap[gb180]? = some (.cells #[.slice none 0 0, .slice none 0 0] 34 (0, 0)) from by first | exact (blk_below (g := gb180) (o := .cells #[.slice none 0 0, .slice none 0 0] 34 (0, 0)) (by (with_reducible repeat (first | refine kN_ ?_ _ | refine kD_ ?_ | refine kA_ ?_ _)); exact (Q_BK180 h0_ h1_)) hb))
                    clear HO_155000 HO_155001 HO167 HO170 BK154 BK155 HK HB
                    have HO_155000 := n0_
                    have HO_155001 := n1_
                    have HO167 := n2_
                    have HO170 := n3_
                    have HO173 := n4_
                    have BK154 := n5_
                    have BK155 := n6_
                    have HK := n7_
                    have HB := n8_
                    clear n0_ n1_ n2_ n3_ n4_ n5_ n6_ n7_ n8_
                    (try clear hb)
                    (try clear hb2)
                    (try clear hk)
                    (try clear hi)
                    (try clear ho0)
                    refine hK.out _ _ ⟨v163, v166, v169, v172, v175, v178, gb180, m12_, m13_, (by rw [ha.out]; exact putSel_upk 5 hb_ rfl rfl rfl), (by (with_reducible repeat (first | apply rA_ | apply rN_ | apply rD_)); exact Kd.R_mono HO_155000.out (fun _ hk => by first | exact ⟨hk.1.1, ⟨hk.1.2.1, ⟨hk.1.2.2.1, ⟨hk.2, hk.1.2.2.2⟩⟩⟩⟩ | (simp only [hk, ne_eq, not_false_eq_true, and_self]))), (by (with_reducible repeat (first | apply rA_ | apply rN_ | apply rD_)); exact Kd.R_mono HO_155001.out (fun _ hk => by first | exact ⟨hk.1.1, ⟨hk.1.2.1, ⟨hk.1.2.2.1, ⟨hk.2, hk.1.2.2.2⟩⟩⟩⟩ | (simp only [hk, ne_eq, not_false_eq_true, and_self]))), (by (with_reducible repeat (first | refine kN_ ?_ _ | refine kD_ ?_ | refine kA_ ?_ _)); exact BK154.out), (by (with_reducible repeat (first | refine kN_ ?_ _ | refine kD_ ?_ | refine kA_ ?_ _)); exact BK155.out), (by repeat (first | (with_reducible first | exact HK.out | apply Kept.alloc | apply Kept.drewN | apply Kept.drew | refine Kept.setCell ?_ (.inr GW154.out) _ | refine Kept.setCell ?_ (.inr GW155.out) _) | exact HK.out)), (by repeat (first | (with_reducible first | exact HB.out | apply bA_ | apply pN_ | apply bD_ | refine bS_ ?_ GE154.out | refine bS_ ?_ GE155.out) | exact HB.out)), fun _ h1_ => absurd ((hon 5 (by kernel_rfl)).symm.trans h1_) (by decide), fun _ => (by (with_reducible repeat (first | apply rA_ | apply rN_ | apply rD_)); exact Kd.R_mono HO167.out (fun _ hk => by first | exact ⟨hk.1.1, ⟨hk.1.2.1, ⟨hk.2, ⟨hk.1.2.2.1, hk.1.2.2.2⟩⟩⟩⟩ | (simp only [hk, ne_eq, not_false_eq_true, and_self]))), fun _ => (by (with_reducible repeat (first | apply rA_ | apply rN_ | apply rD_)); exact Kd.R_mono HO170.out (fun _ hk => by first | exact ⟨hk.1.1, ⟨hk.1.2.1, ⟨hk.2, ⟨hk.1.2.2.1, hk.1.2.2.2⟩⟩⟩⟩ | (simp only [hk, ne_eq, not_false_eq_true, and_self]))), fun _ _ => (by (with_reducible repeat (first | apply rA_ | apply rN_ | apply rD_)); exact Kd.R_mono HO173.out (fun _ hk => by first | exact ⟨hk.1.1.1.1.1, ⟨hk.1.2, ⟨hk.2, ⟨hk.1.1.1.2, hk.1.1.2⟩⟩⟩⟩ | (simp only [hk, ne_eq, not_false_eq_true, and_self]))), z_HO176, fun h0_ => absurd ((hoff 11 (by kernel_rfl)).symm.trans h0_) (by decide), z_BK180, Q_GW180, Q_GE180, Q_NB154_180, Q_NB180_154, Q_NB155_180, Q_NB180_155, fun h0_ => absurd ((hoff 14 (by kernel_rfl)).symm.trans h0_) (by decide), fun h0_ => absurd ((hoff 12 (by kernel_rfl)).symm.trans h0_) (by decide), Q_X13_, Q_D_HO164_HO167, fun h0_ h1_ h2_ h3_ k_ e1_ e2_ => DN_HO164 h0_ h1_ k_ e2_ e1_, Q_D_HO164_HO176, Q_D_HO164_HO179, Q_D_HO167_HO170, fun h0_ h1_ h2_ k_ e1_ e2_ => DN_HO167 h0_ k_ e2_ e1_, Q_D_HO167_HO176, Q_D_HO167_HO179, fun h0_ h1_ h2_ k_ e1_ e2_ => DN_HO170 h0_ k_ e2_ e1_, Q_D_HO170_HO176, Q_D_HO170_HO179, fun h0_ h1_ h2_ k_ e1_ e2_ => DN_HO176 h2_ k_ e1_ e2_, Q_D_HO176_HO179⟩
                   refine steps_cons ?_ ?_
                   ·rintro b a w' ⟨v163, v166, v169, v172, v175, v178, gb180, m12_, m13_, ha, Q_HO_155000, Q_HO_155001, Q_BK154, Q_BK155, Q_HK, Q_HB, Q_HO164, Q_HO167, Q_HO170, Q_HO173, Q_HO176, Q_HO179, Q_BK180, Q_GW180, Q_GE180, Q_NB154_180, Q_NB180_154, Q_NB155_180, Q_NB180_155, Q_BK180_e14, Q_X12_, Q_X13_, Q_D_HO164_HO167, Q_D_HO164_HO173, Q_D_HO164_HO176, Q_D_HO164_HO179, Q_D_HO167_HO170, Q_D_HO167_HO173, Q_D_HO167_HO176, Q_D_HO167_HO179, Q_D_HO170_HO173, Q_D_HO170_HO176, Q_D_HO170_HO179, Q_D_HO173_HO176, Q_D_HO176_HO179⟩ hb_ hon hoff
                    refine ⟨_, rfl, fun K hK => ?_⟩
                    have e78 : a.tmps[78]? = some (.int .i64 x10_3) := by rw [ha]; exact (putSel_off rfl).trans rfl
                    replace ha := aS_ ha
                    have HO_155000 := aS_ Q_HO_155000
                    have HO_155001 := aS_ Q_HO_155001
                    have BK154 := aS_ Q_BK154
                    have BK155 := aS_ Q_BK155
                    have HK := aS_ Q_HK
                    have HB := aS_ Q_HB
                    refine Kd.R_lit_step (Kd.int .i64) _ 3 ?hg (N := 79) ?hd (xs := ([x10_3] : List Int)) (inner := [.int .i64 x10_3]) (ok := fun _ => True) (okp := fun _ => True) ?hr ?hp (fun _ hk => hk) trivial (Below.refl _ _) (Nat.le_refl _) (by simp) ?_; (case hd => rfl); (case hg => rfl); (case hr => first | (go_simp; done) | (go_simp; rfl)); (case hp => exact (Reps.one (show Kd.M (Kd.int .i64) _ _ _ x10_3 [.int .i64 x10_3] from rfl) (Reps.none _ _)))
                    intro v175 w56 ho57 hb hg_ hnew_
                    have DN_HO164 := fun (h0_ : b 2 = true) (h1_ : b 5 = false) (k_ : Nat) (e1_ : (v175 : Value).ownBlock = some k_) (e2_ : (v163 : Value).ownBlock = some k_) => (show False from Kd.fresh' (Kd.R_lt (Q_HO164 h0_ h1_)) k_ (Kd.R_base ho57 k_ e1_) e2_.symm)
                    have DN_HO167 := fun (h0_ : b 4 = true) (k_ : Nat) (e1_ : (v175 : Value).ownBlock = some k_) (e2_ : (v166 : Value).ownBlock = some k_) => (show False from Kd.fresh' (Kd.R_lt (Q_HO167 h0_)) k_ (Kd.R_base ho57 k_ e1_) e2_.symm)
                    have DN_HO170 := fun (h0_ : b 5 = true) (k_ : Nat) (e1_ : (v175 : Value).ownBlock = some k_) (e2_ : (v169 : Value).ownBlock = some k_) => (show False from Kd.fresh' (Kd.R_lt (Q_HO170 h0_)) k_ (Kd.R_base ho57 k_ e1_) e2_.symm)
                    have DN_HO173 := fun (h0_ : b 8 = true) (h1_ : b 11 = false) (k_ : Nat) (e1_ : (v175 : Value).ownBlock = some k_) (e2_ : (v172 : Value).ownBlock = some k_) => (show False from Kd.fresh' (Kd.R_lt (Q_HO173 h0_ h1_)) k_ (Kd.R_base ho57 k_ e1_) e2_.symm)
                    have DN_HO179 := fun (h0_ : b 11 = true) (k_ : Nat) (e1_ : (v175 : Value).ownBlock = some k_) (e2_ : (v178 : Value).ownBlock = some k_) => (show False from Kd.fresh' (Kd.R_lt (Q_HO179 h0_)) k_ (Kd.R_base ho57 k_ e1_) e2_.symm)
                    clear hg_ hnew_
                    (first | rw [← Ny174.out] at ho57 | (simp only [Int.reduceToNat] at ho57; rw [← Ny174.out] at ho57))
                    have n0_ := aS_ (Kd.R_elder' (by (with_reducible repeat (first | apply rA_ | apply rN_ | apply rD_)); exact HO_155000.out) (Kd.R_base ho57) hb)
                    have n1_ := aS_ (Kd.R_elder' (by (with_reducible repeat (first | apply rA_ | apply rN_ | apply rD_)); exact HO_155001.out) (Kd.R_base ho57) hb)
                    have n2_ := aS_ (Kd.R_lower (Kd.R_new' (Kd.R_new' (Kd.R_newM (M := fun k_ => ((P0_0_ k_ ∨ P0_1_ k_) ∨ w.heap.size ≤ k_)) ho57 (by first | exact HK.out.1 | exact (show Kept w _ (fun k_ => P0_0_ k_ ∨ P0_1_ k_) from by repeat (first | (with_reducible first | exact HK.out | apply Kept.alloc | apply Kept.drewN | apply Kept.drew | refine Kept.setCell ?_ (.inr GW154.out) _ | refine Kept.setCell ?_ (.inr GW155.out) _) | exact HK.out)).1) (fun k_ h_ => .inr h_)) (Kd.R_lt (by (with_reducible repeat (first | apply rA_ | apply rN_ | apply rD_)); exact HO_155000.out))) (Kd.R_lt (by (with_reducible repeat (first | apply rA_ | apply rN_ | apply rD_)); exact HO_155001.out))) (below_size (by repeat (first | (with_reducible first | exact HB.out | apply bA_ | apply pN_ | apply bD_ | refine bS_ ?_ GE154.out | refine bS_ ?_ GE155.out) | exact HB.out))))
                    have n3_ := aS_ (blk_below (g := gb154) (o := .cells #[.slice Ao12 l0_0.length co12, .slice Ao13 l0_1.length co13] 34 (0, 0)) (by (with_reducible repeat (first | refine kN_ ?_ _ | refine kD_ ?_ | refine kA_ ?_ _)); exact BK154.out) hb)
                    have n4_ := aS_ (blk_below (g := gb155) (o := .cells #[.slice none 0 0, .slice none 0 0] 34 (0, 0)) (by (with_reducible repeat (first | refine kN_ ?_ _ | refine kD_ ?_ | refine kA_ ?_ _)); exact BK155.out) hb)
                    have n5_ := aS_ (Kept.below (S := (fun k_ => P0_0_ k_ ∨ P0_1_ k_)) (by repeat (first | (with_reducible first | exact HK.out | apply Kept.alloc | apply Kept.drewN | apply Kept.drew | refine Kept.setCell ?_ (.inr GW154.out) _ | refine Kept.setCell ?_ (.inr GW155.out) _) | exact HK.out)) hb)
                    have n6_ := aS_ (below_step (by repeat (first | (with_reducible first | exact HB.out | apply bA_ | apply pN_ | apply bD_ | refine bS_ ?_ GE154.out | refine bS_ ?_ GE155.out) | exact HB.out)) hb)
                    have z_HO164 := fun (h0_ : b 2 = true) (h1_ : b 5 = false) => (show Kd.R (Kd.int .i64) 3 w56 w0.heap.size (fun k_ => ((P0_0_ k_ ∨ P0_1_ k_) ∨ w.heap.size ≤ k_) ∧ some k_ ≠ (.slice Ao12 l0_0.length co12 : Value).ownBlock ∧ some k_ ≠ (.slice Ao13 l0_1.length co13 : Value).ownBlock) v163 t162 from by first | exact (Kd.R_elder' (by (with_reducible repeat (first | apply rA_ | apply rN_ | apply rD_)); exact (Q_HO164 h0_ h1_)) (Kd.R_base ho57) hb) | exact Kd.R_mono (Kd.R_elder' (by (with_reducible repeat (first | apply rA_ | apply rN_ | apply rD_)); exact (Q_HO164 h0_ h1_)) (Kd.R_base ho57) hb) (fun _ hk => by first | trivial | exact hk | exact hk.1 | (simp only [hk, ne_eq, not_false_eq_true, and_self])))
                    have z_HO167 := fun (h0_ : b 4 = true) => (show Kd.R (Kd.int .i64) 3 w56 w0.heap.size (fun k_ => ((P0_0_ k_ ∨ P0_1_ k_) ∨ w.heap.size ≤ k_) ∧ some k_ ≠ (.slice Ao12 l0_0.length co12 : Value).ownBlock ∧ some k_ ≠ (.slice Ao13 l0_1.length co13 : Value).ownBlock) v166 y165 from by first | exact (Kd.R_elder' (by (with_reducible repeat (first | apply rA_ | apply rN_ | apply rD_)); exact (Q_HO167 h0_)) (Kd.R_base ho57) hb) | exact Kd.R_mono (Kd.R_elder' (by (with_reducible repeat (first | apply rA_ | apply rN_ | apply rD_)); exact (Q_HO167 h0_)) (Kd.R_base ho57) hb) (fun _ hk => by first | trivial | exact hk | exact hk.1 | (simp only [hk, ne_eq, not_false_eq_true, and_self])))
                    have z_HO170 := fun (h0_ : b 5 = true) => (show Kd.R (Kd.int .i64) 3 w56 w0.heap.size (fun k_ => ((P0_0_ k_ ∨ P0_1_ k_) ∨ w.heap.size ≤ k_) ∧ some k_ ≠ (.slice Ao12 l0_0.length co12 : Value).ownBlock ∧ some k_ ≠ (.slice Ao13 l0_1.length co13 : Value).ownBlock) v169 y168 from by first | exact (Kd.R_elder' (by (with_reducible repeat (first | apply rA_ | apply rN_ | apply rD_)); exact (Q_HO170 h0_)) (Kd.R_base ho57) hb) | exact Kd.R_mono (Kd.R_elder' (by (with_reducible repeat (first | apply rA_ | apply rN_ | apply rD_)); exact (Q_HO170 h0_)) (Kd.R_base ho57) hb) (fun _ hk => by first | trivial | exact hk | exact hk.1 | (simp only [hk, ne_eq, not_false_eq_true, and_self])))
                    have z_HO173 := fun (h0_ : b 8 = true) (h1_ : b 11 = false) => (show Kd.R (Kd.int .i64) 3 w56 w0.heap.size (fun k_ => ((P0_0_ k_ ∨ P0_1_ k_) ∨ w.heap.size ≤ k_) ∧ some k_ ≠ (.slice Ao12 l0_0.length co12 : Value).ownBlock ∧ some k_ ≠ (.slice Ao13 l0_1.length co13 : Value).ownBlock) v172 t171 from by first | exact (Kd.R_elder' (by (with_reducible repeat (first | apply rA_ | apply rN_ | apply rD_)); exact (Q_HO173 h0_ h1_)) (Kd.R_base ho57) hb) | exact Kd.R_mono (Kd.R_elder' (by (with_reducible repeat (first | apply rA_ | apply rN_ | apply rD_)); exact (Q_HO173 h0_ h1_)) (Kd.R_base ho57) hb) (fun _ hk => by first | trivial | exact hk | exact hk.1 | (simp only [hk, ne_eq, not_false_eq_true, and_self])))
                    have z_BK180 := fun (h0_ : b 13 = true) (h1_ : b 14 = false) => (show w56.heap[gb180]? = some (.cells #[.slice none 0 0, .slice none 0 0] 34 (0, 0)) from by first | exact (blk_below (g := gb180) (o := .cells #[.slice none 0 0, .slice none 0 0] 34 (0, 0)) (by (with_reducible repeat (first | refine kN_ ?_ _ | refine kD_ ?_ | refine kA_ ?_ _)); exact (Q_BK180 h0_ h1_)) hb))
                    clear HO_155000 HO_155001 BK154 BK155 HK HB
                    have HO_155000 := n0_
                    have HO_155001 := n1_
                    have HO176 := n2_
                    have BK154 := n3_
                    have BK155 := n4_
                    have HK := n5_
                    have HB := n6_
                    clear n0_ n1_ n2_ n3_ n4_ n5_ n6_
                    clear hb ho57
                    refine hK.out _ _ ⟨v163, v166, v169, v172, v175, v178, gb180, m12_, m13_, (by rw [ha.out]; exact putSel_upk 6 hb_ rfl rfl rfl), (by (with_reducible repeat (first | apply rA_ | apply rN_ | apply rD_)); exact Kd.R_mono HO_155000.out (fun _ hk => by first | exact ⟨hk.1.1, ⟨hk.2, hk.1.2⟩⟩ | (simp only [hk, ne_eq, not_false_eq_true, and_self]))), (by (with_reducible repeat (first | apply rA_ | apply rN_ | apply rD_)); exact Kd.R_mono HO_155001.out (fun _ hk => by first | exact ⟨hk.1.1, ⟨hk.2, hk.1.2⟩⟩ | (simp only [hk, ne_eq, not_false_eq_true, and_self]))), (by (with_reducible repeat (first | refine kN_ ?_ _ | refine kD_ ?_ | refine kA_ ?_ _)); exact BK154.out), (by (with_reducible repeat (first | refine kN_ ?_ _ | refine kD_ ?_ | refine kA_ ?_ _)); exact BK155.out), (by repeat (first | (with_reducible first | exact HK.out | apply Kept.alloc | apply Kept.drewN | apply Kept.drew | refine Kept.setCell ?_ (.inr GW154.out) _ | refine Kept.setCell ?_ (.inr GW155.out) _) | exact HK.out)), (by repeat (first | (with_reducible first | exact HB.out | apply bA_ | apply pN_ | apply bD_ | refine bS_ ?_ GE154.out | refine bS_ ?_ GE155.out) | exact HB.out)), z_HO164, z_HO167, z_HO170, z_HO173, fun _ => (by (with_reducible repeat (first | apply rA_ | apply rN_ | apply rD_)); exact Kd.R_mono HO176.out (fun _ hk => by first | exact ⟨hk.1.1.1, ⟨hk.1.2, hk.2⟩⟩ | (simp only [hk, ne_eq, not_false_eq_true, and_self]))), fun h0_ => absurd ((hoff 11 (by kernel_rfl)).symm.trans h0_) (by decide), z_BK180, Q_GW180, Q_GE180, Q_NB154_180, Q_NB180_154, Q_NB155_180, Q_NB180_155, fun h0_ => absurd ((hoff 14 (by kernel_rfl)).symm.trans h0_) (by decide), fun h0_ => absurd ((hoff 12 (by kernel_rfl)).symm.trans h0_) (by decide), Q_X13_, Q_D_HO164_HO167, Q_D_HO164_HO173, fun h0_ h1_ h2_ k_ e1_ e2_ => DN_HO164 h0_ h1_ k_ e2_ e1_, Q_D_HO164_HO179, Q_D_HO167_HO170, Q_D_HO167_HO173, fun h0_ h1_ k_ e1_ e2_ => DN_HO167 h0_ k_ e2_ e1_, Q_D_HO167_HO179, Q_D_HO170_HO173, fun h0_ h1_ k_ e1_ e2_ => DN_HO170 h0_ k_ e2_ e1_, Q_D_HO170_HO179, fun h0_ h1_ h2_ k_ e1_ e2_ => DN_HO173 h0_ h1_ k_ e2_ e1_, fun h0_ h1_ k_ e1_ e2_ => DN_HO179 h1_ k_ e1_ e2_⟩
                   refine steps_cons ?_ ?_
                   ·rintro b a w' ⟨v163, v166, v169, v172, v175, v178, gb180, m12_, m13_, ha, Q_HO_155000, Q_HO_155001, Q_BK154, Q_BK155, Q_HK, Q_HB, Q_HO164, Q_HO167, Q_HO170, Q_HO173, Q_HO176, Q_HO179, Q_BK180, Q_GW180, Q_GE180, Q_NB154_180, Q_NB180_154, Q_NB155_180, Q_NB180_155, Q_BK180_e14, Q_X12_, Q_X13_, Q_D_HO164_HO167, Q_D_HO164_HO173, Q_D_HO164_HO176, Q_D_HO164_HO179, Q_D_HO167_HO170, Q_D_HO167_HO173, Q_D_HO167_HO176, Q_D_HO167_HO179, Q_D_HO170_HO173, Q_D_HO170_HO176, Q_D_HO170_HO179, Q_D_HO173_HO176, Q_D_HO176_HO179⟩ hb_ hon hoff
                    refine ⟨_, rfl, fun K hK => ?_⟩
                    have e77 : a.tmps[77]? = some (v172) := by rw [ha]; exact putSel_on (e := (8, 77, v172)) 5 rfl rfl (hon 8 (by kernel_rfl)) rfl
                    have e79 : a.tmps[79]? = some (v175) := by rw [ha]; exact putSel_on (e := (10, 79, v175)) 6 rfl rfl (hon 10 (by kernel_rfl)) rfl
                    replace ha := aS_ ha
                    have HO_155000 := aS_ Q_HO_155000
                    have HO_155001 := aS_ Q_HO_155001
                    have BK154 := aS_ Q_BK154
                    have BK155 := aS_ Q_BK155
                    have HK := aS_ Q_HK
                    have HB := aS_ Q_HB
                    have HO167 := aS_ (Q_HO167 (hon 4 (by kernel_rfl)))
                    have HO170 := aS_ (Q_HO170 (hon 5 (by kernel_rfl)))
                    have HO173 := aS_ (Q_HO173 (hon 8 (by kernel_rfl)) hb_)
                    have HO176 := aS_ (Q_HO176 (hon 10 (by kernel_rfl)))
                    have R_HO_155000 := aS_ (Kd.R_reok rfl (ok := (fun k_ => ((P0_0_ k_ ∨ P0_1_ k_) ∨ w.heap.size ≤ k_) ∧ some k_ ≠ (v166 : Value).ownBlock ∧ some k_ ≠ (v169 : Value).ownBlock ∧ some k_ ≠ (v172 : Value).ownBlock ∧ some k_ ≠ (v175 : Value).ownBlock ∧ some k_ ≠ (.slice Ao13 l0_1.length co13 : Value).ownBlock)) (Q_HO_155000) (fun k_ e_ => ⟨((Q_HO_155000).1 k_ e_).1, (fun q_ => ((Q_HO167 (hon 4 (by kernel_rfl))).1 k_ q_.symm).2.1 e_.symm), (fun q_ => ((Q_HO170 (hon 5 (by kernel_rfl))).1 k_ q_.symm).2.1 e_.symm), (fun q_ => ((Q_HO173 (hon 8 (by kernel_rfl)) hb_).1 k_ q_.symm).2.1 e_.symm), (fun q_ => ((Q_HO176 (hon 10 (by kernel_rfl))).1 k_ q_.symm).2.1 e_.symm), ((Q_HO_155000).1 k_ e_).2⟩))
                    have R_HO_155001 := aS_ (Kd.R_reok rfl (ok := (fun k_ => ((P0_0_ k_ ∨ P0_1_ k_) ∨ w.heap.size ≤ k_) ∧ some k_ ≠ (v166 : Value).ownBlock ∧ some k_ ≠ (v169 : Value).ownBlock ∧ some k_ ≠ (v172 : Value).ownBlock ∧ some k_ ≠ (v175 : Value).ownBlock ∧ some k_ ≠ (.slice Ao12 l0_0.length co12 : Value).ownBlock)) (Q_HO_155001) (fun k_ e_ => ⟨((Q_HO_155001).1 k_ e_).1, (fun q_ => ((Q_HO167 (hon 4 (by kernel_rfl))).1 k_ q_.symm).2.2 e_.symm), (fun q_ => ((Q_HO170 (hon 5 (by kernel_rfl))).1 k_ q_.symm).2.2 e_.symm), (fun q_ => ((Q_HO173 (hon 8 (by kernel_rfl)) hb_).1 k_ q_.symm).2.2 e_.symm), (fun q_ => ((Q_HO176 (hon 10 (by kernel_rfl))).1 k_ q_.symm).2.2 e_.symm), ((Q_HO_155001).1 k_ e_).2⟩))
                    have R_HO167 := aS_ (Kd.R_reok rfl (ok := (fun k_ => ((P0_0_ k_ ∨ P0_1_ k_) ∨ w.heap.size ≤ k_) ∧ some k_ ≠ (v169 : Value).ownBlock ∧ some k_ ≠ (v172 : Value).ownBlock ∧ some k_ ≠ (v175 : Value).ownBlock ∧ some k_ ≠ (.slice Ao12 l0_0.length co12 : Value).ownBlock ∧ some k_ ≠ (.slice Ao13 l0_1.length co13 : Value).ownBlock)) (Q_HO167 (hon 4 (by kernel_rfl))) (fun k_ e_ => ⟨((Q_HO167 (hon 4 (by kernel_rfl))).1 k_ e_).1, (fun q_ => (Q_D_HO167_HO170 (hon 4 (by kernel_rfl)) (hon 5 (by kernel_rfl))) k_ e_ q_.symm), (fun q_ => (Q_D_HO167_HO173 (hon 4 (by kernel_rfl)) (hon 8 (by kernel_rfl)) hb_) k_ e_ q_.symm), (fun q_ => (Q_D_HO167_HO176 (hon 4 (by kernel_rfl)) (hon 10 (by kernel_rfl))) k_ e_ q_.symm), ((Q_HO167 (hon 4 (by kernel_rfl))).1 k_ e_).2.1, ((Q_HO167 (hon 4 (by kernel_rfl))).1 k_ e_).2.2⟩))
                    have R_HO170 := aS_ (Kd.R_reok rfl (ok := (fun k_ => ((P0_0_ k_ ∨ P0_1_ k_) ∨ w.heap.size ≤ k_) ∧ some k_ ≠ (v166 : Value).ownBlock ∧ some k_ ≠ (v172 : Value).ownBlock ∧ some k_ ≠ (v175 : Value).ownBlock ∧ some k_ ≠ (.slice Ao12 l0_0.length co12 : Value).ownBlock ∧ some k_ ≠ (.slice Ao13 l0_1.length co13 : Value).ownBlock)) (Q_HO170 (hon 5 (by kernel_rfl))) (fun k_ e_ => ⟨((Q_HO170 (hon 5 (by kernel_rfl))).1 k_ e_).1, (fun q_ => (Q_D_HO167_HO170 (hon 4 (by kernel_rfl)) (hon 5 (by kernel_rfl))) k_ q_.symm e_), (fun q_ => (Q_D_HO170_HO173 (hon 5 (by kernel_rfl)) (hon 8 (by kernel_rfl)) hb_) k_ e_ q_.symm), (fun q_ => (Q_D_HO170_HO176 (hon 5 (by kernel_rfl)) (hon 10 (by kernel_rfl))) k_ e_ q_.symm), ((Q_HO170 (hon 5 (by kernel_rfl))).1 k_ e_).2.1, ((Q_HO170 (hon 5 (by kernel_rfl))).1 k_ e_).2.2⟩))
                    have R_HO173 := aS_ (Kd.R_reok rfl (ok := (fun k_ => ((P0_0_ k_ ∨ P0_1_ k_) ∨ w.heap.size ≤ k_) ∧ some k_ ≠ (v166 : Value).ownBlock ∧ some k_ ≠ (v169 : Value).ownBlock ∧ some k_ ≠ (v175 : Value).ownBlock ∧ some k_ ≠ (.slice Ao12 l0_0.length co12 : Value).ownBlock ∧ some k_ ≠ (.slice Ao13 l0_1.length co13 : Value).ownBlock)) (Q_HO173 (hon 8 (by kernel_rfl)) hb_) (fun k_ e_ => ⟨((Q_HO173 (hon 8 (by kernel_rfl)) hb_).1 k_ e_).1, (fun q_ => (Q_D_HO167_HO173 (hon 4 (by kernel_rfl)) (hon 8 (by kernel_rfl)) hb_) k_ q_.symm e_), (fun q_ => (Q_D_HO170_HO173 (hon 5 (by kernel_rfl)) (hon 8 (by kernel_rfl)) hb_) k_ q_.symm e_), (fun q_ => (Q_D_HO173_HO176 (hon 8 (by kernel_rfl)) hb_ (hon 10 (by kernel_rfl))) k_ e_ q_.symm), ((Q_HO173 (hon 8 (by kernel_rfl)) hb_).1 k_ e_).2.1, ((Q_HO173 (hon 8 (by kernel_rfl)) hb_).1 k_ e_).2.2⟩))
                    have R_HO176 := aS_ (Kd.R_reok rfl (ok := (fun k_ => ((P0_0_ k_ ∨ P0_1_ k_) ∨ w.heap.size ≤ k_) ∧ some k_ ≠ (v166 : Value).ownBlock ∧ some k_ ≠ (v169 : Value).ownBlock ∧ some k_ ≠ (v172 : Value).ownBlock ∧ some k_ ≠ (.slice Ao12 l0_0.length co12 : Value).ownBlock ∧ some k_ ≠ (.slice Ao13 l0_1.length co13 : Value).ownBlock)) (Q_HO176 (hon 10 (by kernel_rfl))) (fun k_ e_ => ⟨((Q_HO176 (hon 10 (by kernel_rfl))).1 k_ e_).1, (fun q_ => (Q_D_HO167_HO176 (hon 4 (by kernel_rfl)) (hon 10 (by kernel_rfl))) k_ q_.symm e_), (fun q_ => (Q_D_HO170_HO176 (hon 5 (by kernel_rfl)) (hon 10 (by kernel_rfl))) k_ q_.symm e_), (fun q_ => (Q_D_HO173_HO176 (hon 8 (by kernel_rfl)) hb_ (hon 10 (by kernel_rfl))) k_ q_.symm e_), ((Q_HO176 (hon 10 (by kernel_rfl))).1 k_ e_).2.1, ((Q_HO176 (hon 10 (by kernel_rfl))).1 k_ e_).2.2⟩))
                    clear HO_155000
                    have HO_155000 := R_HO_155000
                    clear R_HO_155000 HO_155001
                    have HO_155001 := R_HO_155001
                    clear R_HO_155001 HO167
                    have HO167 := R_HO167
                    clear R_HO167 HO170
                    have HO170 := R_HO170
                    clear R_HO170 HO173
                    have HO173 := R_HO173
                    clear R_HO173 HO176
                    have HO176 := R_HO176
                    clear R_HO176
                    obtain ⟨Ao66, co66, eo66⟩ := Kd.R_slice HO176.out
                    (first | subst eo66 | (injection eo66 with f1_ f2_ f3_; have f4_ := f1_.symm; have f5_ := f3_.symm; clear f1_ f2_ f3_; subst f4_; subst f5_))
                    refine Kd.R_append_rows_step (Kd.int .i64) (w0 := w0) w0.heap.size (by rfl) (.tmp 77) (.tmp 79) 32 3 (.int .i64 0) 8 rfl Try.underlying32 info3 rfl (by decide) (by omega) v172 t171 y174 _ _ _ (fun k_ => ((P0_0_ k_ ∨ P0_1_ k_) ∨ w.heap.size ≤ k_) ∧ some k_ ≠ (.slice Ao12 l0_0.length co12 : Value).ownBlock ∧ some k_ ≠ (.slice Ao13 l0_1.length co13 : Value).ownBlock ∧ some k_ ≠ (v166 : Value).ownBlock ∧ some k_ ≠ (v169 : Value).ownBlock ∧ some k_ ≠ (.slice Ao66 y174.length co66 : Value).ownBlock) (fun _ => False) (ev_tmp4 e77) (ev_tmp4 e79) ?aO ?aR (fun _ _ h => h) (fun _ h => h.elim) ?aF ?aB ?aS ?aL ?_
                    (case aR => repeat (first | exact (Kd.R_reads' HO176.out).2.2 | (with_reducible refine Kd.C_alloc ?_ _) | (with_reducible refine Kd.C_drewN ?_ _) | (with_reducible refine Kd.C_drew ?_)))
                    (case aB => exact (by repeat (first | (with_reducible first | exact HB.out | apply bA_ | apply pN_ | apply bD_ | refine bS_ ?_ GE154.out | refine bS_ ?_ GE155.out) | exact HB.out)))
                    (case aF => exact (fun k_ hk => ⟨(.inr (Nat.le_trans (by first | exact HK.out.1 | exact (show Kept w _ (fun k_ => P0_0_ k_ ∨ P0_1_ k_) from by repeat (first | (with_reducible first | exact HK.out | apply Kept.alloc | apply Kept.drewN | apply Kept.drew | refine Kept.setCell ?_ (.inr GW154.out) _ | refine Kept.setCell ?_ (.inr GW155.out) _) | exact HK.out)).1) hk)), Kd.fresh' (Kd.R_lt (by (with_reducible repeat (first | apply rA_ | apply rN_ | apply rD_)); exact HO_155000.out)) k_ hk, Kd.fresh' (Kd.R_lt (by (with_reducible repeat (first | apply rA_ | apply rN_ | apply rD_)); exact HO_155001.out)) k_ hk, Kd.fresh' (Kd.R_lt (by (with_reducible repeat (first | apply rA_ | apply rN_ | apply rD_)); exact HO167.out)) k_ hk, Kd.fresh' (Kd.R_lt (by (with_reducible repeat (first | apply rA_ | apply rN_ | apply rD_)); exact HO170.out)) k_ hk, Kd.fresh' (Kd.R_lt (by (with_reducible repeat (first | apply rA_ | apply rN_ | apply rD_)); exact HO176.out)) k_ hk⟩))
                    (case aO => exact (by (with_reducible repeat (first | apply rA_ | apply rN_ | apply rD_)); exact Kd.R_mono HO173.out (fun _ hk => by first | exact ⟨hk.1, ⟨hk.2.2.2.2.1, ⟨hk.2.2.2.2.2, ⟨hk.2.1, ⟨hk.2.2.1, hk.2.2.2.1⟩⟩⟩⟩⟩ | (simp only [hk, ne_eq, not_false_eq_true, and_self]))))
                    (case aS => exact (below_size (by repeat (first | (with_reducible first | exact HB.out | apply bA_ | apply pN_ | apply bD_ | refine bS_ ?_ GE154.out | refine bS_ ?_ GE155.out) | exact HB.out))))
                    (case aL => have := LMc52.out; omega)
                    intro v178 w65 ho hb hg hat
                    have DN_HO164 := fun (h0_ : b 2 = true) (h1_ : b 5 = false) (k_ : Nat) (e1_ : (v178 : Value).ownBlock = some k_) (e2_ : (v163 : Value).ownBlock = some k_) => (show False from Or.elim hat (fun q_ => Q_D_HO164_HO173 h0_ h1_ (hon 8 (by kernel_rfl)) hb_ k_ e2_ (q_.symm.trans e1_)) (fun ⟨b_, q_, l_⟩ => Kd.fresh' (Kd.R_lt (Q_HO164 h0_ h1_)) k_ (by rw [q_] at e1_; cases e1_; exact l_) e2_.symm))
                    have DN_HO167 := fun (h0_ : b 4 = true) (k_ : Nat) (e1_ : (v178 : Value).ownBlock = some k_) (e2_ : (v166 : Value).ownBlock = some k_) => (show False from Or.elim hat (fun q_ => Q_D_HO167_HO173 h0_ (hon 8 (by kernel_rfl)) hb_ k_ e2_ (q_.symm.trans e1_)) (fun ⟨b_, q_, l_⟩ => Kd.fresh' (Kd.R_lt (Q_HO167 h0_)) k_ (by rw [q_] at e1_; cases e1_; exact l_) e2_.symm))
                    have DN_HO170 := fun (h0_ : b 5 = true) (k_ : Nat) (e1_ : (v178 : Value).ownBlock = some k_) (e2_ : (v169 : Value).ownBlock = some k_) => (show False from Or.elim hat (fun q_ => Q_D_HO170_HO173 h0_ (hon 8 (by kernel_rfl)) hb_ k_ e2_ (q_.symm.trans e1_)) (fun ⟨b_, q_, l_⟩ => Kd.fresh' (Kd.R_lt (Q_HO170 h0_)) k_ (by rw [q_] at e1_; cases e1_; exact l_) e2_.symm))
                    have DN_HO176 := fun (h0_ : b 10 = true) (k_ : Nat) (e1_ : (v178 : Value).ownBlock = some k_) (e2_ : (.slice Ao66 y174.length co66 : Value).ownBlock = some k_) => (show False from Or.elim hat (fun q_ => Q_D_HO173_HO176 (hon 8 (by kernel_rfl)) hb_ h0_ k_ (q_.symm.trans e1_) e2_) (fun ⟨b_, q_, l_⟩ => Kd.fresh' (Kd.R_lt (Q_HO176 h0_)) k_ (by rw [q_] at e1_; cases e1_; exact l_) e2_.symm))
                    rw [← Ny177.out] at ho
                    have n0_ := aS_ (Kd.R_after (ok := (fun k_ => ((P0_0_ k_ ∨ P0_1_ k_) ∨ w.heap.size ≤ k_) ∧ some k_ ≠ (.slice Ao13 l0_1.length co13 : Value).ownBlock ∧ some k_ ≠ (v166 : Value).ownBlock ∧ some k_ ≠ (v169 : Value).ownBlock ∧ some k_ ≠ (.slice Ao66 y174.length co66 : Value).ownBlock)) (by (with_reducible repeat (first | apply rA_ | apply rN_ | apply rD_)); exact Kd.R_mono HO_155000.out (fun _ hk => by first | exact ⟨⟨hk.1, ⟨hk.2.2.2.2.2, ⟨hk.2.1, ⟨hk.2.2.1, hk.2.2.2.2.1⟩⟩⟩⟩, hk.2.2.2.1⟩ | (simp only [hk, ne_eq, not_false_eq_true, and_self]))) hg hat)
                    have n1_ := aS_ (Kd.R_after (ok := (fun k_ => ((P0_0_ k_ ∨ P0_1_ k_) ∨ w.heap.size ≤ k_) ∧ some k_ ≠ (.slice Ao12 l0_0.length co12 : Value).ownBlock ∧ some k_ ≠ (v166 : Value).ownBlock ∧ some k_ ≠ (v169 : Value).ownBlock ∧ some k_ ≠ (.slice Ao66 y174.length co66 : Value).ownBlock)) (by (with_reducible repeat (first | apply rA_ | apply rN_ | apply rD_)); exact Kd.R_mono HO_155001.out (fun _ hk => by first | exact ⟨⟨hk.1, ⟨hk.2.2.2.2.2, ⟨hk.2.1, ⟨hk.2.2.1, hk.2.2.2.2.1⟩⟩⟩⟩, hk.2.2.2.1⟩ | (simp only [hk, ne_eq, not_false_eq_true, and_self]))) hg hat)
                    have n2_ := aS_ (blk_grown (g := gb154) (o := .cells #[.slice Ao12 l0_0.length co12, .slice Ao13 l0_1.length co13] 34 (0, 0)) (by (with_reducible repeat (first | refine kN_ ?_ _ | refine kD_ ?_ | refine kA_ ?_ _)); exact BK154.out) hg (Kd.R_ne HO173.out BK154.out (by decide)))
                    have n3_ := aS_ (blk_grown (g := gb155) (o := .cells #[.slice none 0 0, .slice none 0 0] 34 (0, 0)) (by (with_reducible repeat (first | refine kN_ ?_ _ | refine kD_ ?_ | refine kA_ ?_ _)); exact BK155.out) hg (Kd.R_ne HO173.out BK155.out (by decide)))
                    have n4_ := aS_ (Kd.R_after (ok := (fun k_ => ((P0_0_ k_ ∨ P0_1_ k_) ∨ w.heap.size ≤ k_) ∧ some k_ ≠ (.slice Ao12 l0_0.length co12 : Value).ownBlock ∧ some k_ ≠ (.slice Ao13 l0_1.length co13 : Value).ownBlock ∧ some k_ ≠ (v169 : Value).ownBlock ∧ some k_ ≠ (.slice Ao66 y174.length co66 : Value).ownBlock)) (by (with_reducible repeat (first | apply rA_ | apply rN_ | apply rD_)); exact Kd.R_mono HO167.out (fun _ hk => by first | exact ⟨⟨hk.1, ⟨hk.2.2.2.2.1, ⟨hk.2.2.2.2.2, ⟨hk.2.1, hk.2.2.2.1⟩⟩⟩⟩, hk.2.2.1⟩ | (simp only [hk, ne_eq, not_false_eq_true, and_self]))) hg hat)
                    have n5_ := aS_ (Kd.R_after (ok := (fun k_ => ((P0_0_ k_ ∨ P0_1_ k_) ∨ w.heap.size ≤ k_) ∧ some k_ ≠ (.slice Ao12 l0_0.length co12 : Value).ownBlock ∧ some k_ ≠ (.slice Ao13 l0_1.length co13 : Value).ownBlock ∧ some k_ ≠ (v166 : Value).ownBlock ∧ some k_ ≠ (.slice Ao66 y174.length co66 : Value).ownBlock)) (by (with_reducible repeat (first | apply rA_ | apply rN_ | apply rD_)); exact Kd.R_mono HO170.out (fun _ hk => by first | exact ⟨⟨hk.1, ⟨hk.2.2.2.2.1, ⟨hk.2.2.2.2.2, ⟨hk.2.1, hk.2.2.2.1⟩⟩⟩⟩, hk.2.2.1⟩ | (simp only [hk, ne_eq, not_false_eq_true, and_self]))) hg hat)
                    have n6_ := aS_ (Kd.R_after (ok := (fun k_ => ((P0_0_ k_ ∨ P0_1_ k_) ∨ w.heap.size ≤ k_) ∧ some k_ ≠ (.slice Ao12 l0_0.length co12 : Value).ownBlock ∧ some k_ ≠ (.slice Ao13 l0_1.length co13 : Value).ownBlock ∧ some k_ ≠ (v166 : Value).ownBlock ∧ some k_ ≠ (v169 : Value).ownBlock)) (by (with_reducible repeat (first | apply rA_ | apply rN_ | apply rD_)); exact Kd.R_mono HO176.out (fun _ hk => by first | exact ⟨⟨hk.1, ⟨hk.2.2.2.2.1, ⟨hk.2.2.2.2.2, ⟨hk.2.1, hk.2.2.1⟩⟩⟩⟩, hk.2.2.2.1⟩ | (simp only [hk, ne_eq, not_false_eq_true, and_self]))) hg hat)
                    have n7_ := aS_ (hb)
                    have n8_ := aS_ (Kept.of_grown (S := (fun k_ => P0_0_ k_ ∨ P0_1_ k_)) hg (by repeat (first | (with_reducible first | exact HK.out | apply Kept.alloc | apply Kept.drewN | apply Kept.drew | refine Kept.setCell ?_ (.inr GW154.out) _ | refine Kept.setCell ?_ (.inr GW155.out) _) | exact HK.out)) (fun k_ e_ => (HO173.out.1 k_ e_).1))
                    have n9_ := aS_ (ho)
                    have z_BK180 := fun (h0_ : b 13 = true) (h1_ : b 14 = false) => (show w65.heap[gb180]? = some (.cells #[.slice none 0 0, .slice none 0 0] 34 (0, 0)) from by first | exact (blk_grown (g := gb180) (o := .cells #[.slice none 0 0, .slice none 0 0] 34 (0, 0)) (by (with_reducible repeat (first | refine kN_ ?_ _ | refine kD_ ?_ | refine kA_ ?_ _)); exact (Q_BK180 h0_ h1_)) hg (Kd.R_ne HO173.out (Q_BK180 h0_ h1_) (by decide))))
                    clear HO_155000 HO_155001 BK154 BK155 HO167 HO170 HO176 HB HK HO173
                    have HO_155000 := n0_
                    have HO_155001 := n1_
                    have BK154 := n2_
                    have BK155 := n3_
                    have HO167 := n4_
                    have HO170 := n5_
                    have HO176 := n6_
                    have HB := n7_
                    have HK := n8_
                    have HO179 := n9_
                    clear n0_ n1_ n2_ n3_ n4_ n5_ n6_ n7_ n8_ n9_
                    clear ho hb hg hat
                    obtain ⟨Ao67, co67, eo67⟩ := Kd.R_slice HO179.out
                    (first | subst eo67 | (injection eo67 with f1_ f2_ f3_; have f4_ := f1_.symm; have f5_ := f3_.symm; clear f1_ f2_ f3_; subst f4_; subst f5_))
                    obtain ⟨Ao68, co68, eo68⟩ := Kd.R_slice HO170.out
                    (first | subst eo68 | (injection eo68 with f1_ f2_ f3_; have f4_ := f1_.symm; have f5_ := f3_.symm; clear f1_ f2_ f3_; subst f4_; subst f5_))
                    refine hK.out _ _ ⟨v163, v166, .slice Ao68 y168.length co68, v172, .slice Ao66 y174.length co66, .slice Ao67 y177.length co67, gb180, m12_, m13_, (by rw [ha.out]; exact putSel_upk 7 hb_ rfl rfl rfl), (by (with_reducible repeat (first | apply rA_ | apply rN_ | apply rD_)); exact Kd.R_mono HO_155000.out (fun _ hk => by first | exact ⟨hk.1.1, ⟨hk.1.2.2.1, ⟨hk.1.2.2.2.1, ⟨hk.1.2.2.2.2, ⟨hk.2, hk.1.2.1⟩⟩⟩⟩⟩ | (simp only [hk, ne_eq, not_false_eq_true, and_self]))), (by (with_reducible repeat (first | apply rA_ | apply rN_ | apply rD_)); exact Kd.R_mono HO_155001.out (fun _ hk => by first | exact ⟨hk.1.1, ⟨hk.1.2.2.1, ⟨hk.1.2.2.2.1, ⟨hk.1.2.2.2.2, ⟨hk.2, hk.1.2.1⟩⟩⟩⟩⟩ | (simp only [hk, ne_eq, not_false_eq_true, and_self]))), (by (with_reducible repeat (first | refine kN_ ?_ _ | refine kD_ ?_ | refine kA_ ?_ _)); exact BK154.out), (by (with_reducible repeat (first | refine kN_ ?_ _ | refine kD_ ?_ | refine kA_ ?_ _)); exact BK155.out), (by repeat (first | (with_reducible first | exact HK.out | apply Kept.alloc | apply Kept.drewN | apply Kept.drew | refine Kept.setCell ?_ (.inr GW154.out) _ | refine Kept.setCell ?_ (.inr GW155.out) _) | exact HK.out)), (by repeat (first | (with_reducible first | exact HB.out | apply bA_ | apply pN_ | apply bD_ | refine bS_ ?_ GE154.out | refine bS_ ?_ GE155.out) | exact HB.out)), fun _ h1_ => absurd ((hon 5 (by kernel_rfl)).symm.trans h1_) (by decide), fun _ => (by (with_reducible repeat (first | apply rA_ | apply rN_ | apply rD_)); exact Kd.R_mono HO167.out (fun _ hk => by first | exact ⟨hk.1.1, ⟨hk.1.2.2.2.1, ⟨hk.1.2.2.2.2, ⟨hk.2, ⟨hk.1.2.1, hk.1.2.2.1⟩⟩⟩⟩⟩ | (simp only [hk, ne_eq, not_false_eq_true, and_self]))), fun _ => (by (with_reducible repeat (first | apply rA_ | apply rN_ | apply rD_)); exact Kd.R_mono HO170.out (fun _ hk => by first | exact ⟨hk.1.1, ⟨hk.1.2.2.2.1, ⟨hk.1.2.2.2.2, ⟨hk.2, ⟨hk.1.2.1, hk.1.2.2.1⟩⟩⟩⟩⟩ | (simp only [hk, ne_eq, not_false_eq_true, and_self]))), fun _ h1_ => absurd ((up_self b 11).symm.trans h1_) (by decide), fun _ => (by (with_reducible repeat (first | apply rA_ | apply rN_ | apply rD_)); exact Kd.R_mono HO176.out (fun _ hk => by first | exact ⟨hk.1.1, ⟨hk.1.2.2.2.1, ⟨hk.1.2.2.2.2, ⟨hk.2, ⟨hk.1.2.1, hk.1.2.2.1⟩⟩⟩⟩⟩ | (simp only [hk, ne_eq, not_false_eq_true, and_self]))), fun _ => (by (with_reducible repeat (first | apply rA_ | apply rN_ | apply rD_)); exact Kd.R_mono HO179.out (fun _ hk => by first | exact ⟨hk.1, ⟨hk.2.2.2.1, ⟨hk.2.2.2.2.1, ⟨hk.2.2.2.2.2, ⟨hk.2.1, hk.2.2.1⟩⟩⟩⟩⟩ | (simp only [hk, ne_eq, not_false_eq_true, and_self]))), z_BK180, Q_GW180, Q_GE180, Q_NB154_180, Q_NB180_154, Q_NB155_180, Q_NB180_155, fun h0_ => absurd ((hoff 14 (by kernel_rfl)).symm.trans h0_) (by decide), fun h0_ => absurd ((hoff 12 (by kernel_rfl)).symm.trans h0_) (by decide), Q_X13_, Q_D_HO164_HO167, fun h0_ h1_ h2_ h3_ _ _ _ => absurd ((up_self b 11).symm.trans h3_) (by decide), Q_D_HO164_HO176, fun h0_ h1_ h2_ k_ e1_ e2_ => DN_HO164 h0_ h1_ k_ e2_ e1_, Q_D_HO167_HO170, fun h0_ h1_ h2_ _ _ _ => absurd ((up_self b 11).symm.trans h2_) (by decide), Q_D_HO167_HO176, fun h0_ h1_ k_ e1_ e2_ => DN_HO167 h0_ k_ e2_ e1_, fun h0_ h1_ h2_ _ _ _ => absurd ((up_self b 11).symm.trans h2_) (by decide), Q_D_HO170_HO176, fun h0_ h1_ k_ e1_ e2_ => DN_HO170 h0_ k_ e2_ e1_, fun h0_ h1_ h2_ _ _ _ => absurd ((up_self b 11).symm.trans h1_) (by decide), fun h0_ h1_ k_ e1_ e2_ => DN_HO176 h0_ k_ e2_ e1_⟩
                   refine steps_cons ?_ ?_
                   ·rintro b a w' ⟨v163, v166, v169, v172, v175, v178, gb180, m12_, m13_, ha, Q_HO_155000, Q_HO_155001, Q_BK154, Q_BK155, Q_HK, Q_HB, Q_HO164, Q_HO167, Q_HO170, Q_HO173, Q_HO176, Q_HO179, Q_BK180, Q_GW180, Q_GE180, Q_NB154_180, Q_NB180_154, Q_NB155_180, Q_NB180_155, Q_BK180_e14, Q_X12_, Q_X13_, Q_D_HO164_HO167, Q_D_HO164_HO173, Q_D_HO164_HO176, Q_D_HO164_HO179, Q_D_HO167_HO170, Q_D_HO167_HO173, Q_D_HO167_HO176, Q_D_HO167_HO179, Q_D_HO170_HO173, Q_D_HO170_HO176, Q_D_HO170_HO179, Q_D_HO173_HO176, Q_D_HO176_HO179⟩ hb_ hon hoff
                    refine ⟨_, rfl, fun K hK => ?_⟩
                    have e74 : a.tmps[74]? = some (v169) := by rw [ha]; exact putSel_on (e := (5, 74, v169)) 3 rfl rfl (hon 5 (by kernel_rfl)) rfl
                    have e80 : a.tmps[80]? = some (v178) := by rw [ha]; exact putSel_on (e := (11, 80, v178)) 7 rfl rfl (hon 11 (by kernel_rfl)) rfl
                    replace ha := aS_ ha
                    have HO_155000 := aS_ Q_HO_155000
                    have HO_155001 := aS_ Q_HO_155001
                    have BK154 := aS_ Q_BK154
                    have BK155 := aS_ Q_BK155
                    have HK := aS_ Q_HK
                    have HB := aS_ Q_HB
                    have HO167 := aS_ (Q_HO167 (hon 4 (by kernel_rfl)))
                    have HO170 := aS_ (Q_HO170 (hon 5 (by kernel_rfl)))
                    have HO176 := aS_ (Q_HO176 (hon 10 (by kernel_rfl)))
                    have HO179 := aS_ (Q_HO179 (hon 11 (by kernel_rfl)))
                    have R_HO_155000 := aS_ (Kd.R_reok rfl (ok := (fun k_ => ((P0_0_ k_ ∨ P0_1_ k_) ∨ w.heap.size ≤ k_) ∧ some k_ ≠ (v166 : Value).ownBlock ∧ some k_ ≠ (v169 : Value).ownBlock ∧ some k_ ≠ (v175 : Value).ownBlock ∧ some k_ ≠ (v178 : Value).ownBlock ∧ some k_ ≠ (.slice Ao13 l0_1.length co13 : Value).ownBlock)) (Q_HO_155000) (fun k_ e_ => ⟨((Q_HO_155000).1 k_ e_).1, (fun q_ => ((Q_HO167 (hon 4 (by kernel_rfl))).1 k_ q_.symm).2.1 e_.symm), (fun q_ => ((Q_HO170 (hon 5 (by kernel_rfl))).1 k_ q_.symm).2.1 e_.symm), (fun q_ => ((Q_HO176 (hon 10 (by kernel_rfl))).1 k_ q_.symm).2.1 e_.symm), (fun q_ => ((Q_HO179 (hon 11 (by kernel_rfl))).1 k_ q_.symm).2.1 e_.symm), ((Q_HO_155000).1 k_ e_).2⟩))
                    have R_HO_155001 := aS_ (Kd.R_reok rfl (ok := (fun k_ => ((P0_0_ k_ ∨ P0_1_ k_) ∨ w.heap.size ≤ k_) ∧ some k_ ≠ (v166 : Value).ownBlock ∧ some k_ ≠ (v169 : Value).ownBlock ∧ some k_ ≠ (v175 : Value).ownBlock ∧ some k_ ≠ (v178 : Value).ownBlock ∧ some k_ ≠ (.slice Ao12 l0_0.length co12 : Value).ownBlock)) (Q_HO_155001) (fun k_ e_ => ⟨((Q_HO_155001).1 k_ e_).1, (fun q_ => ((Q_HO167 (hon 4 (by kernel_rfl))).1 k_ q_.symm).2.2 e_.symm), (fun q_ => ((Q_HO170 (hon 5 (by kernel_rfl))).1 k_ q_.symm).2.2 e_.symm), (fun q_ => ((Q_HO176 (hon 10 (by kernel_rfl))).1 k_ q_.symm).2.2 e_.symm), (fun q_ => ((Q_HO179 (hon 11 (by kernel_rfl))).1 k_ q_.symm).2.2 e_.symm), ((Q_HO_155001).1 k_ e_).2⟩))
                    have R_HO167 := aS_ (Kd.R_reok rfl (ok := (fun k_ => ((P0_0_ k_ ∨ P0_1_ k_) ∨ w.heap.size ≤ k_) ∧ some k_ ≠ (v169 : Value).ownBlock ∧ some k_ ≠ (v175 : Value).ownBlock ∧ some k_ ≠ (v178 : Value).ownBlock ∧ some k_ ≠ (.slice Ao12 l0_0.length co12 : Value).ownBlock ∧ some k_ ≠ (.slice Ao13 l0_1.length co13 : Value).ownBlock)) (Q_HO167 (hon 4 (by kernel_rfl))) (fun k_ e_ => ⟨((Q_HO167 (hon 4 (by kernel_rfl))).1 k_ e_).1, (fun q_ => (Q_D_HO167_HO170 (hon 4 (by kernel_rfl)) (hon 5 (by kernel_rfl))) k_ e_ q_.symm), (fun q_ => (Q_D_HO167_HO176 (hon 4 (by kernel_rfl)) (hon 10 (by kernel_rfl))) k_ e_ q_.symm), (fun q_ => (Q_D_HO167_HO179 (hon 4 (by kernel_rfl)) (hon 11 (by kernel_rfl))) k_ e_ q_.symm), ((Q_HO167 (hon 4 (by kernel_rfl))).1 k_ e_).2.1, ((Q_HO167 (hon 4 (by kernel_rfl))).1 k_ e_).2.2⟩))
                    have R_HO170 := aS_ (Kd.R_reok rfl (ok := (fun k_ => ((P0_0_ k_ ∨ P0_1_ k_) ∨ w.heap.size ≤ k_) ∧ some k_ ≠ (v166 : Value).ownBlock ∧ some k_ ≠ (v175 : Value).ownBlock ∧ some k_ ≠ (v178 : Value).ownBlock ∧ some k_ ≠ (.slice Ao12 l0_0.length co12 : Value).ownBlock ∧ some k_ ≠ (.slice Ao13 l0_1.length co13 : Value).ownBlock)) (Q_HO170 (hon 5 (by kernel_rfl))) (fun k_ e_ => ⟨((Q_HO170 (hon 5 (by kernel_rfl))).1 k_ e_).1, (fun q_ => (Q_D_HO167_HO170 (hon 4 (by kernel_rfl)) (hon 5 (by kernel_rfl))) k_ q_.symm e_), (fun q_ => (Q_D_HO170_HO176 (hon 5 (by kernel_rfl)) (hon 10 (by kernel_rfl))) k_ e_ q_.symm), (fun q_ => (Q_D_HO170_HO179 (hon 5 (by kernel_rfl)) (hon 11 (by kernel_rfl))) k_ e_ q_.symm), ((Q_HO170 (hon 5 (by kernel_rfl))).1 k_ e_).2.1, ((Q_HO170 (hon 5 (by kernel_rfl))).1 k_ e_).2.2⟩))
                    have R_HO176 := aS_ (Kd.R_reok rfl (ok := (fun k_ => ((P0_0_ k_ ∨ P0_1_ k_) ∨ w.heap.size ≤ k_) ∧ some k_ ≠ (v166 : Value).ownBlock ∧ some k_ ≠ (v169 : Value).ownBlock ∧ some k_ ≠ (v178 : Value).ownBlock ∧ some k_ ≠ (.slice Ao12 l0_0.length co12 : Value).ownBlock ∧ some k_ ≠ (.slice Ao13 l0_1.length co13 : Value).ownBlock)) (Q_HO176 (hon 10 (by kernel_rfl))) (fun k_ e_ => ⟨((Q_HO176 (hon 10 (by kernel_rfl))).1 k_ e_).1, (fun q_ => (Q_D_HO167_HO176 (hon 4 (by kernel_rfl)) (hon 10 (by kernel_rfl))) k_ q_.symm e_), (fun q_ => (Q_D_HO170_HO176 (hon 5 (by kernel_rfl)) (hon 10 (by kernel_rfl))) k_ q_.symm e_), (fun q_ => (Q_D_HO176_HO179 (hon 10 (by kernel_rfl)) (hon 11 (by kernel_rfl))) k_ e_ q_.symm), ((Q_HO176 (hon 10 (by kernel_rfl))).1 k_ e_).2.1, ((Q_HO176 (hon 10 (by kernel_rfl))).1 k_ e_).2.2⟩))
                    have R_HO179 := aS_ (Kd.R_reok rfl (ok := (fun k_ => ((P0_0_ k_ ∨ P0_1_ k_) ∨ w.heap.size ≤ k_) ∧ some k_ ≠ (v166 : Value).ownBlock ∧ some k_ ≠ (v169 : Value).ownBlock ∧ some k_ ≠ (v175 : Value).ownBlock ∧ some k_ ≠ (.slice Ao12 l0_0.length co12 : Value).ownBlock ∧ some k_ ≠ (.slice Ao13 l0_1.length co13 : Value).ownBlock)) (Q_HO179 (hon 11 (by kernel_rfl))) (fun k_ e_ => ⟨((Q_HO179 (hon 11 (by kernel_rfl))).1 k_ e_).1, (fun q_ => (Q_D_HO167_HO179 (hon 4 (by kernel_rfl)) (hon 11 (by kernel_rfl))) k_ q_.symm e_), (fun q_ => (Q_D_HO170_HO179 (hon 5 (by kernel_rfl)) (hon 11 (by kernel_rfl))) k_ q_.symm e_), (fun q_ => (Q_D_HO176_HO179 (hon 10 (by kernel_rfl)) (hon 11 (by kernel_rfl))) k_ q_.symm e_), ((Q_HO179 (hon 11 (by kernel_rfl))).1 k_ e_).2.1, ((Q_HO179 (hon 11 (by kernel_rfl))).1 k_ e_).2.2⟩))
                    clear HO_155000
                    have HO_155000 := R_HO_155000
                    clear R_HO_155000 HO_155001
                    have HO_155001 := R_HO_155001
                    clear R_HO_155001 HO167
                    have HO167 := R_HO167
                    clear R_HO167 HO170
                    have HO170 := R_HO170
                    clear R_HO170 HO176
                    have HO176 := R_HO176
                    clear R_HO176 HO179
                    have HO179 := R_HO179
                    clear R_HO179
                    obtain ⟨Ao12_0, co12_0, eo_⟩ := Kd.R_slice HO170.out
                    subst eo_
                    obtain ⟨Ao12_1, co12_1, eo_⟩ := Kd.R_slice HO179.out
                    subst eo_
                    refine value_ (w1 := w') (v := .agg #[.slice Ao12_0 y168.length co12_0, .slice Ao12_1 y177.length co12_1]) (by rfl) rfl ?_ ?_
                    ·go_simp
                     (try simp only [i64_w])
                     try rfl
                    refine hK.out _ _ ⟨v163, v166, .slice Ao12_0 y168.length co12_0, v172, v175, .slice Ao12_1 y177.length co12_1, gb180, (.agg #[.slice Ao12_0 y168.length co12_0, .slice Ao12_1 y177.length co12_1]), m13_, (by rw [ha.out]; exact putSel_upk 8 hb_ rfl rfl rfl), Q_HO_155000, Q_HO_155001, Q_BK154, Q_BK155, Q_HK, Q_HB, fun _ h1_ => absurd ((hon 5 (by kernel_rfl)).symm.trans h1_) (by decide), Q_HO167, Q_HO170, fun _ h1_ => absurd ((hon 11 (by kernel_rfl)).symm.trans h1_) (by decide), Q_HO176, Q_HO179, Q_BK180, Q_GW180, Q_GE180, Q_NB154_180, Q_NB180_154, Q_NB155_180, Q_NB180_155, fun h0_ => absurd ((hoff 14 (by kernel_rfl)).symm.trans h0_) (by decide), fun _ => rfl, Q_X13_, Q_D_HO164_HO167, Q_D_HO164_HO173, Q_D_HO164_HO176, Q_D_HO164_HO179, Q_D_HO167_HO170, Q_D_HO167_HO173, Q_D_HO167_HO176, Q_D_HO167_HO179, Q_D_HO170_HO173, Q_D_HO170_HO176, Q_D_HO170_HO179, Q_D_HO173_HO176, Q_D_HO176_HO179⟩
                   refine steps_cons ?_ ?_
                   ·rintro b a w' ⟨v163, v166, v169, v172, v175, v178, gb180, m12_, m13_, ha, Q_HO_155000, Q_HO_155001, Q_BK154, Q_BK155, Q_HK, Q_HB, Q_HO164, Q_HO167, Q_HO170, Q_HO173, Q_HO176, Q_HO179, Q_BK180, Q_GW180, Q_GE180, Q_NB154_180, Q_NB180_154, Q_NB155_180, Q_NB180_155, Q_BK180_e14, Q_X12_, Q_X13_, Q_D_HO164_HO167, Q_D_HO164_HO173, Q_D_HO164_HO176, Q_D_HO164_HO179, Q_D_HO167_HO170, Q_D_HO167_HO173, Q_D_HO167_HO176, Q_D_HO167_HO179, Q_D_HO170_HO173, Q_D_HO170_HO176, Q_D_HO170_HO179, Q_D_HO173_HO176, Q_D_HO176_HO179⟩ hb_ hon hoff
                    refine ⟨_, rfl, fun K hK => ?_⟩
                    replace ha := aS_ ha
                    have HO_155000 := aS_ Q_HO_155000
                    have HO_155001 := aS_ Q_HO_155001
                    have BK154 := aS_ Q_BK154
                    have BK155 := aS_ Q_BK155
                    have HK := aS_ Q_HK
                    have HB := aS_ Q_HB
                    refine box_step ?hg (N := 11) ?hd (cs := #[.slice none 0 0, .slice none 0 0]) (t := 34) ?hr ?_; (case hd => rfl); (case hg => rfl); (case hr => first | (go_simp; done) | (go_simp; rfl))
                    intro gb180 hg w56 hbox hb
                    have n0_ := aS_ (Kd.R_below (by (with_reducible repeat (first | apply rA_ | apply rN_ | apply rD_)); exact HO_155000.out) hb)
                    have n1_ := aS_ (Kd.R_below (by (with_reducible repeat (first | apply rA_ | apply rN_ | apply rD_)); exact HO_155001.out) hb)
                    have n2_ := aS_ (blk_below (g := gb154) (o := .cells #[.slice Ao12 l0_0.length co12, .slice Ao13 l0_1.length co13] 34 (0, 0)) (by (with_reducible repeat (first | refine kN_ ?_ _ | refine kD_ ?_ | refine kA_ ?_ _)); exact BK154.out) hb)
                    have n3_ := aS_ (blk_below (g := gb155) (o := .cells #[.slice none 0 0, .slice none 0 0] 34 (0, 0)) (by (with_reducible repeat (first | refine kN_ ?_ _ | refine kD_ ?_ | refine kA_ ?_ _)); exact BK155.out) hb)
                    have n4_ := aS_ (Kept.below (S := (fun k_ => P0_0_ k_ ∨ P0_1_ k_)) (by repeat (first | (with_reducible first | exact HK.out | apply Kept.alloc | apply Kept.drewN | apply Kept.drew | refine Kept.setCell ?_ (.inr GW154.out) _ | refine Kept.setCell ?_ (.inr GW155.out) _) | exact HK.out)) hb)
                    have n5_ := aS_ (below_step (by repeat (first | (with_reducible first | exact HB.out | apply bA_ | apply pN_ | apply bD_ | refine bS_ ?_ GE154.out | refine bS_ ?_ GE155.out) | exact HB.out)) hb)
                    have n6_ := aS_ (hbox)
                    have n7_ := aS_ ((by rw [hg]; exact (by first | exact HK.out.1 | exact (show Kept w _ (fun k_ => P0_0_ k_ ∨ P0_1_ k_) from by repeat (first | (with_reducible first | exact HK.out | apply Kept.alloc | apply Kept.drewN | apply Kept.drew | refine Kept.setCell ?_ (.inr GW154.out) _ | refine Kept.setCell ?_ (.inr GW155.out) _) | exact HK.out)).1) : w.heap.size ≤ gb180))
                    have n8_ := aS_ ((by rw [hg]; exact (below_size (by repeat (first | (with_reducible first | exact HB.out | apply bA_ | apply pN_ | apply bD_ | refine bS_ ?_ GE154.out | refine bS_ ?_ GE155.out) | exact HB.out))) : w0.heap.size ≤ gb180))
                    have n9_ := aS_ ((by rw [hg]; exact Nat.ne_of_lt (blk_lt (g := gb154) (o := .cells #[.slice Ao12 l0_0.length co12, .slice Ao13 l0_1.length co13] 34 (0, 0)) (by (with_reducible repeat (first | refine kN_ ?_ _ | refine kD_ ?_ | refine kA_ ?_ _)); exact BK154.out)) : gb154 ≠ gb180))
                    have n10_ := aS_ ((by rw [hg]; exact Nat.ne_of_gt (blk_lt (g := gb154) (o := .cells #[.slice Ao12 l0_0.length co12, .slice Ao13 l0_1.length co13] 34 (0, 0)) (by (with_reducible repeat (first | refine kN_ ?_ _ | refine kD_ ?_ | refine kA_ ?_ _)); exact BK154.out)) : gb180 ≠ gb154))
                    have n11_ := aS_ ((by rw [hg]; exact Nat.ne_of_lt (blk_lt (g := gb155) (o := .cells #[.slice none 0 0, .slice none 0 0] 34 (0, 0)) (by (with_reducible repeat (first | refine kN_ ?_ _ | refine kD_ ?_ | refine kA_ ?_ _)); exact BK155.out)) : gb155 ≠ gb180))
                    have n12_ := aS_ ((by rw [hg]; exact Nat.ne_of_gt (blk_lt (g := gb155) (o := .cells #[.slice none 0 0, .slice none 0 0] 34 (0, 0)) (by (with_reducible repeat (first | refine kN_ ?_ _ | refine kD_ ?_ | refine kA_ ?_ _)); exact BK155.out)) : gb180 ≠ gb155))
                    have z_HO164 := fun (h0_ : b 2 = true) (h1_ : b 5 = false) => (show Kd.R (Kd.int .i64) 3 w56 w0.heap.size (fun k_ => ((P0_0_ k_ ∨ P0_1_ k_) ∨ w.heap.size ≤ k_) ∧ some k_ ≠ (.slice Ao12 l0_0.length co12 : Value).ownBlock ∧ some k_ ≠ (.slice Ao13 l0_1.length co13 : Value).ownBlock) v163 t162 from by first | exact (Kd.R_below (by (with_reducible repeat (first | apply rA_ | apply rN_ | apply rD_)); exact (Q_HO164 h0_ h1_)) hb) | exact Kd.R_mono (Kd.R_below (by (with_reducible repeat (first | apply rA_ | apply rN_ | apply rD_)); exact (Q_HO164 h0_ h1_)) hb) (fun _ hk => by first | trivial | exact hk | exact hk.1 | (simp only [hk, ne_eq, not_false_eq_true, and_self])))
                    have z_HO167 := fun (h0_ : b 4 = true) => (show Kd.R (Kd.int .i64) 3 w56 w0.heap.size (fun k_ => ((P0_0_ k_ ∨ P0_1_ k_) ∨ w.heap.size ≤ k_) ∧ some k_ ≠ (.slice Ao12 l0_0.length co12 : Value).ownBlock ∧ some k_ ≠ (.slice Ao13 l0_1.length co13 : Value).ownBlock) v166 y165 from by first | exact (Kd.R_below (by (with_reducible repeat (first | apply rA_ | apply rN_ | apply rD_)); exact (Q_HO167 h0_)) hb) | exact Kd.R_mono (Kd.R_below (by (with_reducible repeat (first | apply rA_ | apply rN_ | apply rD_)); exact (Q_HO167 h0_)) hb) (fun _ hk => by first | trivial | exact hk | exact hk.1 | (simp only [hk, ne_eq, not_false_eq_true, and_self])))
                    have z_HO170 := fun (h0_ : b 5 = true) => (show Kd.R (Kd.int .i64) 3 w56 w0.heap.size (fun k_ => ((P0_0_ k_ ∨ P0_1_ k_) ∨ w.heap.size ≤ k_) ∧ some k_ ≠ (.slice Ao12 l0_0.length co12 : Value).ownBlock ∧ some k_ ≠ (.slice Ao13 l0_1.length co13 : Value).ownBlock) v169 y168 from by first | exact (Kd.R_below (by (with_reducible repeat (first | apply rA_ | apply rN_ | apply rD_)); exact (Q_HO170 h0_)) hb) | exact Kd.R_mono (Kd.R_below (by (with_reducible repeat (first | apply rA_ | apply rN_ | apply rD_)); exact (Q_HO170 h0_)) hb) (fun _ hk => by first | trivial | exact hk | exact hk.1 | (simp only [hk, ne_eq, not_false_eq_true, and_self])))
                    have z_HO173 := fun (h0_ : b 8 = true) (h1_ : b 11 = false) => (show Kd.R (Kd.int .i64) 3 w56 w0.heap.size (fun k_ => ((P0_0_ k_ ∨ P0_1_ k_) ∨ w.heap.size ≤ k_) ∧ some k_ ≠ (.slice Ao12 l0_0.length co12 : Value).ownBlock ∧ some k_ ≠ (.slice Ao13 l0_1.length co13 : Value).ownBlock) v172 t171 from by first | exact (Kd.R_below (by (with_reducible repeat (first | apply rA_ | apply rN_ | apply rD_)); exact (Q_HO173 h0_ h1_)) hb) | exact Kd.R_mono (Kd.R_below (by (with_reducible repeat (first | apply rA_ | apply rN_ | apply rD_)); exact (Q_HO173 h0_ h1_)) hb) (fun _ hk => by first | trivial | exact hk | exact hk.1 | (simp only [hk, ne_eq, not_false_eq_true, and_self])))
                    have z_HO176 := fun (h0_ : b 10 = true) => (show Kd.R (Kd.int .i64) 3 w56 w0.heap.size (fun k_ => ((P0_0_ k_ ∨ P0_1_ k_) ∨ w.heap.size ≤ k_) ∧ some k_ ≠ (.slice Ao12 l0_0.length co12 : Value).ownBlock ∧ some k_ ≠ (.slice Ao13 l0_1.length co13 : Value).ownBlock) v175 y174 from by first | exact (Kd.R_below (by (with_reducible repeat (first | apply rA_ | apply rN_ | apply rD_)); exact (Q_HO176 h0_)) hb) | exact Kd.R_mono (Kd.R_below (by (with_reducible repeat (first | apply rA_ | apply rN_ | apply rD_)); exact (Q_HO176 h0_)) hb) (fun _ hk => by first | trivial | exact hk | exact hk.1 | (simp only [hk, ne_eq, not_false_eq_true, and_self])))
                    have z_HO179 := fun (h0_ : b 11 = true) => (show Kd.R (Kd.int .i64) 3 w56 w0.heap.size (fun k_ => ((P0_0_ k_ ∨ P0_1_ k_) ∨ w.heap.size ≤ k_) ∧ some k_ ≠ (.slice Ao12 l0_0.length co12 : Value).ownBlock ∧ some k_ ≠ (.slice Ao13 l0_1.length co13 : Value).ownBlock) v178 y177 from by first | exact (Kd.R_below (by (with_reducible repeat (first | apply rA_ | apply rN_ | apply rD_)); exact (Q_HO179 h0_)) hb) | exact Kd.R_mono (Kd.R_below (by (with_reducible repeat (first | apply rA_ | apply rN_ | apply rD_)); exact (Q_HO179 h0_)) hb) (fun _ hk => by first | trivial | exact hk | exact hk.1 | (simp only [hk, ne_eq, not_false_eq_true, and_self])))
                    clear HO_155000 HO_155001 BK154 BK155 HK HB
                    have HO_155000 := n0_
                    have HO_155001 := n1_
                    have BK154 := n2_
                    have BK155 := n3_
                    have HK := n4_
                    have HB := n5_
                    have BK180 := n6_
                    have GW180 := n7_
                    have GE180 := n8_
                    have NB154_180 := n9_
                    have NB180_154 := n10_
                    have NB155_180 := n11_
                    have NB180_155 := n12_
                    clear n0_ n1_ n2_ n3_ n4_ n5_ n6_ n7_ n8_ n9_ n10_ n11_ n12_
                    clear hb hbox hg
                    refine hK.out _ _ ⟨v163, v166, v169, v172, v175, v178, gb180, m12_, (.pointer (some ⟨gb180, 0, none⟩)), (by rw [ha.out]; exact putSel_upk 9 hb_ rfl rfl rfl), (by (with_reducible repeat (first | apply rA_ | apply rN_ | apply rD_)); exact HO_155000.out), (by (with_reducible repeat (first | apply rA_ | apply rN_ | apply rD_)); exact HO_155001.out), (by (with_reducible repeat (first | refine kN_ ?_ _ | refine kD_ ?_ | refine kA_ ?_ _)); exact BK154.out), (by (with_reducible repeat (first | refine kN_ ?_ _ | refine kD_ ?_ | refine kA_ ?_ _)); exact BK155.out), (by repeat (first | (with_reducible first | exact HK.out | apply Kept.alloc | apply Kept.drewN | apply Kept.drew | refine Kept.setCell ?_ (.inr GW154.out) _ | refine Kept.setCell ?_ (.inr GW155.out) _ | refine Kept.setCell ?_ (.inr GW180.out) _) | exact HK.out)), (by repeat (first | (with_reducible first | exact HB.out | apply bA_ | apply pN_ | apply bD_ | refine bS_ ?_ GE154.out | refine bS_ ?_ GE155.out | refine bS_ ?_ GE180.out) | exact HB.out)), z_HO164, z_HO167, z_HO170, z_HO173, z_HO176, z_HO179, fun _ _ => (by (with_reducible repeat (first | refine kN_ ?_ _ | refine kD_ ?_ | refine kA_ ?_ _)); exact BK180.out), fun _ => GW180.out, fun _ => GE180.out, fun _ => NB154_180.out, fun _ => NB180_154.out, fun _ => NB155_180.out, fun _ => NB180_155.out, fun h0_ => absurd ((hoff 14 (by kernel_rfl)).symm.trans h0_) (by decide), Q_X12_, fun _ => rfl, Q_D_HO164_HO167, Q_D_HO164_HO173, Q_D_HO164_HO176, Q_D_HO164_HO179, Q_D_HO167_HO170, Q_D_HO167_HO173, Q_D_HO167_HO176, Q_D_HO167_HO179, Q_D_HO170_HO173, Q_D_HO170_HO176, Q_D_HO170_HO179, Q_D_HO173_HO176, Q_D_HO176_HO179⟩
                   refine steps_cons ?_ ?_
                   ·rintro b a w' ⟨v163, v166, v169, v172, v175, v178, gb180, m12_, m13_, ha, Q_HO_155000, Q_HO_155001, Q_BK154, Q_BK155, Q_HK, Q_HB, Q_HO164, Q_HO167, Q_HO170, Q_HO173, Q_HO176, Q_HO179, Q_BK180, Q_GW180, Q_GE180, Q_NB154_180, Q_NB180_154, Q_NB155_180, Q_NB180_155, Q_BK180_e14, Q_X12_, Q_X13_, Q_D_HO164_HO167, Q_D_HO164_HO173, Q_D_HO164_HO176, Q_D_HO164_HO179, Q_D_HO167_HO170, Q_D_HO167_HO173, Q_D_HO167_HO176, Q_D_HO167_HO179, Q_D_HO170_HO173, Q_D_HO170_HO176, Q_D_HO170_HO179, Q_D_HO173_HO176, Q_D_HO176_HO179⟩ hb_ hon hoff
                    refine ⟨_, rfl, fun K hK => ?_⟩
                    have e11 : a.tmps[11]? = some (m13_) := by rw [ha]; exact putSel_on (e := (13, 11, m13_)) 9 rfl rfl (hon 13 (by kernel_rfl)) rfl
                    rw [Q_X13_ (hon 13 (by kernel_rfl))] at e11
                    have e81 : a.tmps[81]? = some (m12_) := by rw [ha]; exact putSel_on (e := (12, 81, m12_)) 8 rfl rfl (hon 12 (by kernel_rfl)) rfl
                    rw [Q_X12_ (hon 12 (by kernel_rfl))] at e81
                    replace ha := aS_ ha
                    have HO_155000 := aS_ Q_HO_155000
                    have HO_155001 := aS_ Q_HO_155001
                    have BK154 := aS_ Q_BK154
                    have BK155 := aS_ Q_BK155
                    have HK := aS_ Q_HK
                    have HB := aS_ Q_HB
                    have HO167 := aS_ (Q_HO167 (hon 4 (by kernel_rfl)))
                    have HO170 := aS_ (Q_HO170 (hon 5 (by kernel_rfl)))
                    have HO176 := aS_ (Q_HO176 (hon 10 (by kernel_rfl)))
                    have HO179 := aS_ (Q_HO179 (hon 11 (by kernel_rfl)))
                    have R_HO_155000 := aS_ (Kd.R_reok rfl (ok := (fun k_ => ((P0_0_ k_ ∨ P0_1_ k_) ∨ w.heap.size ≤ k_) ∧ some k_ ≠ (v166 : Value).ownBlock ∧ some k_ ≠ (v169 : Value).ownBlock ∧ some k_ ≠ (v175 : Value).ownBlock ∧ some k_ ≠ (v178 : Value).ownBlock ∧ some k_ ≠ (.slice Ao13 l0_1.length co13 : Value).ownBlock)) (Q_HO_155000) (fun k_ e_ => ⟨((Q_HO_155000).1 k_ e_).1, (fun q_ => ((Q_HO167 (hon 4 (by kernel_rfl))).1 k_ q_.symm).2.1 e_.symm), (fun q_ => ((Q_HO170 (hon 5 (by kernel_rfl))).1 k_ q_.symm).2.1 e_.symm), (fun q_ => ((Q_HO176 (hon 10 (by kernel_rfl))).1 k_ q_.symm).2.1 e_.symm), (fun q_ => ((Q_HO179 (hon 11 (by kernel_rfl))).1 k_ q_.symm).2.1 e_.symm), ((Q_HO_155000).1 k_ e_).2⟩))
                    have R_HO_155001 := aS_ (Kd.R_reok rfl (ok := (fun k_ => ((P0_0_ k_ ∨ P0_1_ k_) ∨ w.heap.size ≤ k_) ∧ some k_ ≠ (v166 : Value).ownBlock ∧ some k_ ≠ (v169 : Value).ownBlock ∧ some k_ ≠ (v175 : Value).ownBlock ∧ some k_ ≠ (v178 : Value).ownBlock ∧ some k_ ≠ (.slice Ao12 l0_0.length co12 : Value).ownBlock)) (Q_HO_155001) (fun k_ e_ => ⟨((Q_HO_155001).1 k_ e_).1, (fun q_ => ((Q_HO167 (hon 4 (by kernel_rfl))).1 k_ q_.symm).2.2 e_.symm), (fun q_ => ((Q_HO170 (hon 5 (by kernel_rfl))).1 k_ q_.symm).2.2 e_.symm), (fun q_ => ((Q_HO176 (hon 10 (by kernel_rfl))).1 k_ q_.symm).2.2 e_.symm), (fun q_ => ((Q_HO179 (hon 11 (by kernel_rfl))).1 k_ q_.symm).2.2 e_.symm), ((Q_HO_155001).1 k_ e_).2⟩))
                    have R_HO167 := aS_ (Kd.R_reok rfl (ok := (fun k_ => ((P0_0_ k_ ∨ P0_1_ k_) ∨ w.heap.size ≤ k_) ∧ some k_ ≠ (v169 : Value).ownBlock ∧ some k_ ≠ (v175 : Value).ownBlock ∧ some k_ ≠ (v178 : Value).ownBlock ∧ some k_ ≠ (.slice Ao12 l0_0.length co12 : Value).ownBlock ∧ some k_ ≠ (.slice Ao13 l0_1.length co13 : Value).ownBlock)) (Q_HO167 (hon 4 (by kernel_rfl))) (fun k_ e_ => ⟨((Q_HO167 (hon 4 (by kernel_rfl))).1 k_ e_).1, (fun q_ => (Q_D_HO167_HO170 (hon 4 (by kernel_rfl)) (hon 5 (by kernel_rfl))) k_ e_ q_.symm), (fun q_ => (Q_D_HO167_HO176 (hon 4 (by kernel_rfl)) (hon 10 (by kernel_rfl))) k_ e_ q_.symm), (fun q_ => (Q_D_HO167_HO179 (hon 4 (by kernel_rfl)) (hon 11 (by kernel_rfl))) k_ e_ q_.symm), ((Q_HO167 (hon 4 (by kernel_rfl))).1 k_ e_).2.1, ((Q_HO167 (hon 4 (by kernel_rfl))).1 k_ e_).2.2⟩))
                    have R_HO170 := aS_ (Kd.R_reok rfl (ok := (fun k_ => ((P0_0_ k_ ∨ P0_1_ k_) ∨ w.heap.size ≤ k_) ∧ some k_ ≠ (v166 : Value).ownBlock ∧ some k_ ≠ (v175 : Value).ownBlock ∧ some k_ ≠ (v178 : Value).ownBlock ∧ some k_ ≠ (.slice Ao12 l0_0.length co12 : Value).ownBlock ∧ some k_ ≠ (.slice Ao13 l0_1.length co13 : Value).ownBlock)) (Q_HO170 (hon 5 (by kernel_rfl))) (fun k_ e_ => ⟨((Q_HO170 (hon 5 (by kernel_rfl))).1 k_ e_).1, (fun q_ => (Q_D_HO167_HO170 (hon 4 (by kernel_rfl)) (hon 5 (by kernel_rfl))) k_ q_.symm e_), (fun q_ => (Q_D_HO170_HO176 (hon 5 (by kernel_rfl)) (hon 10 (by kernel_rfl))) k_ e_ q_.symm), (fun q_ => (Q_D_HO170_HO179 (hon 5 (by kernel_rfl)) (hon 11 (by kernel_rfl))) k_ e_ q_.symm), ((Q_HO170 (hon 5 (by kernel_rfl))).1 k_ e_).2.1, ((Q_HO170 (hon 5 (by kernel_rfl))).1 k_ e_).2.2⟩))
                    have R_HO176 := aS_ (Kd.R_reok rfl (ok := (fun k_ => ((P0_0_ k_ ∨ P0_1_ k_) ∨ w.heap.size ≤ k_) ∧ some k_ ≠ (v166 : Value).ownBlock ∧ some k_ ≠ (v169 : Value).ownBlock ∧ some k_ ≠ (v178 : Value).ownBlock ∧ some k_ ≠ (.slice Ao12 l0_0.length co12 : Value).ownBlock ∧ some k_ ≠ (.slice Ao13 l0_1.length co13 : Value).ownBlock)) (Q_HO176 (hon 10 (by kernel_rfl))) (fun k_ e_ => ⟨((Q_HO176 (hon 10 (by kernel_rfl))).1 k_ e_).1, (fun q_ => (Q_D_HO167_HO176 (hon 4 (by kernel_rfl)) (hon 10 (by kernel_rfl))) k_ q_.symm e_), (fun q_ => (Q_D_HO170_HO176 (hon 5 (by kernel_rfl)) (hon 10 (by kernel_rfl))) k_ q_.symm e_), (fun q_ => (Q_D_HO176_HO179 (hon 10 (by kernel_rfl)) (hon 11 (by kernel_rfl))) k_ e_ q_.symm), ((Q_HO176 (hon 10 (by kernel_rfl))).1 k_ e_).2.1, ((Q_HO176 (hon 10 (by kernel_rfl))).1 k_ e_).2.2⟩))
                    have R_HO179 := aS_ (Kd.R_reok rfl (ok := (fun k_ => ((P0_0_ k_ ∨ P0_1_ k_) ∨ w.heap.size ≤ k_) ∧ some k_ ≠ (v166 : Value).ownBlock ∧ some k_ ≠ (v169 : Value).ownBlock ∧ some k_ ≠ (v175 : Value).ownBlock ∧ some k_ ≠ (.slice Ao12 l0_0.length co12 : Value).ownBlock ∧ some k_ ≠ (.slice Ao13 l0_1.length co13 : Value).ownBlock)) (Q_HO179 (hon 11 (by kernel_rfl))) (fun k_ e_ => ⟨((Q_HO179 (hon 11 (by kernel_rfl))).1 k_ e_).1, (fun q_ => (Q_D_HO167_HO179 (hon 4 (by kernel_rfl)) (hon 11 (by kernel_rfl))) k_ q_.symm e_), (fun q_ => (Q_D_HO170_HO179 (hon 5 (by kernel_rfl)) (hon 11 (by kernel_rfl))) k_ q_.symm e_), (fun q_ => (Q_D_HO176_HO179 (hon 10 (by kernel_rfl)) (hon 11 (by kernel_rfl))) k_ q_.symm e_), ((Q_HO179 (hon 11 (by kernel_rfl))).1 k_ e_).2.1, ((Q_HO179 (hon 11 (by kernel_rfl))).1 k_ e_).2.2⟩))
                    clear HO_155000
                    have HO_155000 := R_HO_155000
                    clear R_HO_155000 HO_155001
                    have HO_155001 := R_HO_155001
                    clear R_HO_155001 HO167
                    have HO167 := R_HO167
                    clear R_HO167 HO170
                    have HO170 := R_HO170
                    clear R_HO170 HO176
                    have HO176 := R_HO176
                    clear R_HO176 HO179
                    have HO179 := R_HO179
                    clear R_HO179
                    have BK180 := aS_ (Q_BK180 (hon 13 (by kernel_rfl)) hb_)
                    have GW180 := aS_ (Q_GW180 (hon 13 (by kernel_rfl)))
                    have GE180 := aS_ (Q_GE180 (hon 13 (by kernel_rfl)))
                    have NB154_180 := aS_ (Q_NB154_180 (hon 13 (by kernel_rfl)))
                    have NB180_154 := aS_ (Q_NB180_154 (hon 13 (by kernel_rfl)))
                    have NB155_180 := aS_ (Q_NB155_180 (hon 13 (by kernel_rfl)))
                    have NB180_155 := aS_ (Q_NB180_155 (hon 13 (by kernel_rfl)))
                    obtain ⟨Ao70, co70, eo70⟩ := Kd.R_slice HO179.out
                    (first | subst eo70 | (injection eo70 with f1_ f2_ f3_; have f4_ := f1_.symm; have f5_ := f3_.symm; clear f1_ f2_ f3_; subst f4_; subst f5_))
                    obtain ⟨Ao71, co71, eo71⟩ := Kd.R_slice HO170.out
                    (first | subst eo71 | (injection eo71 with f1_ f2_ f3_; have f4_ := f1_.symm; have f5_ := f3_.symm; clear f1_ f2_ f3_; subst f4_; subst f5_))
                    have hs72 : w'.cell? ⟨gb180, 0, none⟩ = some (.slice none 0 0) := (blk_cell BK180.out 0).trans rfl
                    have hfs72 := blk_frozen BK180.out 0
                    have hns72_0 := NB154_180.out
                    have hns72_1 := NB155_180.out
                    have hms72_0 := NB180_154.out
                    have hms72_1 := NB180_155.out
                    have hs73 : w'.cell? ⟨gb180, 1, none⟩ = some (.slice none 0 0) := (blk_cell BK180.out 1).trans rfl
                    have hfs73 := blk_frozen BK180.out 1
                    have hns73_0 := NB154_180.out
                    have hns73_1 := NB155_180.out
                    have hms73_0 := NB180_154.out
                    have hms73_1 := NB180_155.out
                    refine skip_ (w1 := ?_) (by rfl) rfl ?_ ?_
                    rotate_left
                    ·go_simp
                     rfl
                    refine hK.out _ _ ⟨v163, v166, .slice Ao71 y168.length co71, v172, v175, .slice Ao70 y177.length co70, gb180, m12_, m13_, (by rw [ha.out]; exact putSel_none (v := undef) rfl), (by (with_reducible repeat (first | apply rA_ | apply rN_ | apply rD_)); exact Kd.R_mono (Kd.R_far (p := ⟨gb180, 1, none⟩) (Kd.R_far (p := ⟨gb180, 0, none⟩) (Kd.R_types HO_155000.out BK180.out (by decide)) (fun _ hk => hk.2) (.slice Ao71 y168.length co71)) (fun _ hk => hk.2) (.slice Ao70 y177.length co70)) (fun _ hk => by first | exact ⟨hk.1.1, ⟨hk.1.2.1, ⟨hk.1.2.2.1, ⟨hk.1.2.2.2.1, ⟨hk.1.2.2.2.2.1, hk.1.2.2.2.2.2⟩⟩⟩⟩⟩ | (simp only [hk, ne_eq, not_false_eq_true, and_self]))), (by (with_reducible repeat (first | apply rA_ | apply rN_ | apply rD_)); exact Kd.R_mono (Kd.R_far (p := ⟨gb180, 1, none⟩) (Kd.R_far (p := ⟨gb180, 0, none⟩) (Kd.R_types HO_155001.out BK180.out (by decide)) (fun _ hk => hk.2) (.slice Ao71 y168.length co71)) (fun _ hk => hk.2) (.slice Ao70 y177.length co70)) (fun _ hk => by first | exact ⟨hk.1.1, ⟨hk.1.2.1, ⟨hk.1.2.2.1, ⟨hk.1.2.2.2.1, ⟨hk.1.2.2.2.2.1, hk.1.2.2.2.2.2⟩⟩⟩⟩⟩ | (simp only [hk, ne_eq, not_false_eq_true, and_self]))), (by (with_reducible repeat (first | refine kN_ ?_ _ | refine kD_ ?_ | refine kA_ ?_ _)); refine blk_far ?_ NB154_180.out _; (with_reducible repeat (first | refine kN_ ?_ _ | refine kD_ ?_ | refine kA_ ?_ _)); refine blk_far ?_ NB154_180.out _; (with_reducible repeat (first | refine kN_ ?_ _ | refine kD_ ?_ | refine kA_ ?_ _)); exact BK154.out), (by (with_reducible repeat (first | refine kN_ ?_ _ | refine kD_ ?_ | refine kA_ ?_ _)); refine blk_far ?_ NB155_180.out _; (with_reducible repeat (first | refine kN_ ?_ _ | refine kD_ ?_ | refine kA_ ?_ _)); refine blk_far ?_ NB155_180.out _; (with_reducible repeat (first | refine kN_ ?_ _ | refine kD_ ?_ | refine kA_ ?_ _)); exact BK155.out), (by repeat (first | (with_reducible first | exact HK.out | apply Kept.alloc | apply Kept.drewN | apply Kept.drew | refine Kept.setCell ?_ (.inr GW154.out) _ | refine Kept.setCell ?_ (.inr GW155.out) _ | refine Kept.setCell ?_ (.inr GW180.out) _) | exact HK.out)), (by repeat (first | (with_reducible first | exact HB.out | apply bA_ | apply pN_ | apply bD_ | refine bS_ ?_ GE154.out | refine bS_ ?_ GE155.out | refine bS_ ?_ GE180.out) | exact HB.out)), fun _ h1_ => absurd ((hon 5 (by kernel_rfl)).symm.trans h1_) (by decide), fun _ => (by (with_reducible repeat (first | apply rA_ | apply rN_ | apply rD_)); exact Kd.R_mono (Kd.R_far (p := ⟨gb180, 1, none⟩) (Kd.R_far (p := ⟨gb180, 0, none⟩) (Kd.R_types HO167.out BK180.out (by decide)) (fun _ hk => hk.2) (.slice Ao71 y168.length co71)) (fun _ hk => hk.2) (.slice Ao70 y177.length co70)) (fun _ hk => by first | exact ⟨hk.1.1, ⟨hk.1.2.1, ⟨hk.1.2.2.1, ⟨hk.1.2.2.2.1, ⟨hk.1.2.2.2.2.1, hk.1.2.2.2.2.2⟩⟩⟩⟩⟩ | (simp only [hk, ne_eq, not_false_eq_true, and_self]))), fun _ => (by (with_reducible repeat (first | apply rA_ | apply rN_ | apply rD_)); exact Kd.R_mono (Kd.R_far (p := ⟨gb180, 1, none⟩) (Kd.R_far (p := ⟨gb180, 0, none⟩) (Kd.R_types HO170.out BK180.out (by decide)) (fun _ hk => hk.2) (.slice Ao71 y168.length co71)) (fun _ hk => hk.2) (.slice Ao70 y177.length co70)) (fun _ hk => by first | exact ⟨hk.1.1, ⟨hk.1.2.1, ⟨hk.1.2.2.1, ⟨hk.1.2.2.2.1, ⟨hk.1.2.2.2.2.1, hk.1.2.2.2.2.2⟩⟩⟩⟩⟩ | (simp only [hk, ne_eq, not_false_eq_true, and_self]))), fun _ h1_ => absurd ((hon 11 (by kernel_rfl)).symm.trans h1_) (by decide), fun _ => (by (with_reducible repeat (first | apply rA_ | apply rN_ | apply rD_)); exact Kd.R_mono (Kd.R_far (p := ⟨gb180, 1, none⟩) (Kd.R_far (p := ⟨gb180, 0, none⟩) (Kd.R_types HO176.out BK180.out (by decide)) (fun _ hk => hk.2) (.slice Ao71 y168.length co71)) (fun _ hk => hk.2) (.slice Ao70 y177.length co70)) (fun _ hk => by first | exact ⟨hk.1.1, ⟨hk.1.2.1, ⟨hk.1.2.2.1, ⟨hk.1.2.2.2.1, ⟨hk.1.2.2.2.2.1, hk.1.2.2.2.2.2⟩⟩⟩⟩⟩ | (simp only [hk, ne_eq, not_false_eq_true, and_self]))), fun _ => (by (with_reducible repeat (first | apply rA_ | apply rN_ | apply rD_)); exact Kd.R_mono (Kd.R_far (p := ⟨gb180, 1, none⟩) (Kd.R_far (p := ⟨gb180, 0, none⟩) (Kd.R_types HO179.out BK180.out (by decide)) (fun _ hk => hk.2) (.slice Ao71 y168.length co71)) (fun _ hk => hk.2) (.slice Ao70 y177.length co70)) (fun _ hk => by first | exact ⟨hk.1.1, ⟨hk.1.2.1, ⟨hk.1.2.2.1, ⟨hk.1.2.2.2.1, ⟨hk.1.2.2.2.2.1, hk.1.2.2.2.2.2⟩⟩⟩⟩⟩ | (simp only [hk, ne_eq, not_false_eq_true, and_self]))), fun _ h1_ => absurd ((up_self b 14).symm.trans h1_) (by decide), fun _ => GW180.out, fun _ => GE180.out, fun _ => NB154_180.out, fun _ => NB180_154.out, fun _ => NB155_180.out, fun _ => NB180_155.out, fun _ => (by (with_reducible repeat (first | refine kN_ ?_ _ | refine kD_ ?_ | refine kA_ ?_ _)); refine blk_put (cs := #[.slice Ao71 y168.length co71, .slice none 0 0]) ?_ 1 _ rfl; (with_reducible repeat (first | refine kN_ ?_ _ | refine kD_ ?_ | refine kA_ ?_ _)); refine blk_put (cs := #[.slice none 0 0, .slice none 0 0]) ?_ 0 _ rfl; (with_reducible repeat (first | refine kN_ ?_ _ | refine kD_ ?_ | refine kA_ ?_ _)); exact BK180.out), Q_X12_, Q_X13_, Q_D_HO164_HO167, Q_D_HO164_HO173, Q_D_HO164_HO176, Q_D_HO164_HO179, Q_D_HO167_HO170, Q_D_HO167_HO173, Q_D_HO167_HO176, Q_D_HO167_HO179, Q_D_HO170_HO173, Q_D_HO170_HO176, Q_D_HO170_HO179, Q_D_HO173_HO176, Q_D_HO176_HO179⟩
                   exact steps_nil
                  rintro b a w71 hall ⟨v163, v166, v169, v172, v175, v178, gb180, m12_, m13_, ha, Q_HO_155000, Q_HO_155001, Q_BK154, Q_BK155, Q_HK, Q_HB, Q_HO164, Q_HO167, Q_HO170, Q_HO173, Q_HO176, Q_HO179, Q_BK180, Q_GW180, Q_GE180, Q_NB154_180, Q_NB180_154, Q_NB155_180, Q_NB180_155, Q_BK180_e14, Q_X12_, Q_X13_, Q_D_HO164_HO167, Q_D_HO164_HO173, Q_D_HO164_HO176, Q_D_HO164_HO179, Q_D_HO167_HO170, Q_D_HO167_HO173, Q_D_HO167_HO176, Q_D_HO167_HO179, Q_D_HO170_HO173, Q_D_HO170_HO176, Q_D_HO170_HO179, Q_D_HO173_HO176, Q_D_HO176_HO179⟩
                  clear BK154 BK155 HB HK HO_155000 HO_155001
                  have hb1_ := hall 1 (by kernel_rfl)
                  have hb2_ := hall 2 (by kernel_rfl)
                  have hb4_ := hall 4 (by kernel_rfl)
                  have hb5_ := hall 5 (by kernel_rfl)
                  have hb7_ := hall 7 (by kernel_rfl)
                  have hb8_ := hall 8 (by kernel_rfl)
                  have hb10_ := hall 10 (by kernel_rfl)
                  have hb11_ := hall 11 (by kernel_rfl)
                  have hb12_ := hall 12 (by kernel_rfl)
                  have hb13_ := hall 13 (by kernel_rfl)
                  have hb14_ := hall 14 (by kernel_rfl)
                  subst ha
                  obtain rfl := Q_X12_ hb12_
                  obtain rfl := Q_X13_ hb13_
                  simp only [putSel, hb1_, hb2_, hb4_, hb5_, hb7_, hb8_, hb10_, hb11_, hb12_, hb13_, hb14_, if_true, Act.put, List.setIfInBounds_toArray, List.set_cons_zero, List.set_cons_succ]
                  have BK154 := aS_ Q_BK154
                  clear Q_BK154
                  have BK155 := aS_ Q_BK155
                  clear Q_BK155
                  have HK := aS_ Q_HK
                  clear Q_HK
                  have HB := aS_ Q_HB
                  clear Q_HB
                  have HO_155000 := aS_ (Kd.R_reok rfl (ok := (fun k_ => ((P0_0_ k_ ∨ P0_1_ k_) ∨ w.heap.size ≤ k_) ∧ some k_ ≠ (v166 : Value).ownBlock ∧ some k_ ≠ (v169 : Value).ownBlock ∧ some k_ ≠ (v175 : Value).ownBlock ∧ some k_ ≠ (v178 : Value).ownBlock ∧ some k_ ≠ (.slice Ao13 l0_1.length co13 : Value).ownBlock)) (Q_HO_155000) (fun k_ e_ => ⟨((Q_HO_155000).1 k_ e_).1, (fun q_ => ((Q_HO167 hb4_).1 k_ q_.symm).2.1 e_.symm), (fun q_ => ((Q_HO170 hb5_).1 k_ q_.symm).2.1 e_.symm), (fun q_ => ((Q_HO176 hb10_).1 k_ q_.symm).2.1 e_.symm), (fun q_ => ((Q_HO179 hb11_).1 k_ q_.symm).2.1 e_.symm), ((Q_HO_155000).1 k_ e_).2⟩))
                  have HO_155001 := aS_ (Kd.R_reok rfl (ok := (fun k_ => ((P0_0_ k_ ∨ P0_1_ k_) ∨ w.heap.size ≤ k_) ∧ some k_ ≠ (v166 : Value).ownBlock ∧ some k_ ≠ (v169 : Value).ownBlock ∧ some k_ ≠ (v175 : Value).ownBlock ∧ some k_ ≠ (v178 : Value).ownBlock ∧ some k_ ≠ (.slice Ao12 l0_0.length co12 : Value).ownBlock)) (Q_HO_155001) (fun k_ e_ => ⟨((Q_HO_155001).1 k_ e_).1, (fun q_ => ((Q_HO167 hb4_).1 k_ q_.symm).2.2 e_.symm), (fun q_ => ((Q_HO170 hb5_).1 k_ q_.symm).2.2 e_.symm), (fun q_ => ((Q_HO176 hb10_).1 k_ q_.symm).2.2 e_.symm), (fun q_ => ((Q_HO179 hb11_).1 k_ q_.symm).2.2 e_.symm), ((Q_HO_155001).1 k_ e_).2⟩))
                  have HO167 := aS_ (Kd.R_reok rfl (ok := (fun k_ => ((P0_0_ k_ ∨ P0_1_ k_) ∨ w.heap.size ≤ k_) ∧ some k_ ≠ (v169 : Value).ownBlock ∧ some k_ ≠ (v175 : Value).ownBlock ∧ some k_ ≠ (v178 : Value).ownBlock ∧ some k_ ≠ (.slice Ao12 l0_0.length co12 : Value).ownBlock ∧ some k_ ≠ (.slice Ao13 l0_1.length co13 : Value).ownBlock)) (Q_HO167 hb4_) (fun k_ e_ => ⟨((Q_HO167 hb4_).1 k_ e_).1, (fun q_ => (Q_D_HO167_HO170 hb4_ hb5_) k_ e_ q_.symm), (fun q_ => (Q_D_HO167_HO176 hb4_ hb10_) k_ e_ q_.symm), (fun q_ => (Q_D_HO167_HO179 hb4_ hb11_) k_ e_ q_.symm), ((Q_HO167 hb4_).1 k_ e_).2.1, ((Q_HO167 hb4_).1 k_ e_).2.2⟩))
                  have HO170 := aS_ (Kd.R_reok rfl (ok := (fun k_ => ((P0_0_ k_ ∨ P0_1_ k_) ∨ w.heap.size ≤ k_) ∧ some k_ ≠ (v166 : Value).ownBlock ∧ some k_ ≠ (v175 : Value).ownBlock ∧ some k_ ≠ (v178 : Value).ownBlock ∧ some k_ ≠ (.slice Ao12 l0_0.length co12 : Value).ownBlock ∧ some k_ ≠ (.slice Ao13 l0_1.length co13 : Value).ownBlock)) (Q_HO170 hb5_) (fun k_ e_ => ⟨((Q_HO170 hb5_).1 k_ e_).1, (fun q_ => (Q_D_HO167_HO170 hb4_ hb5_) k_ q_.symm e_), (fun q_ => (Q_D_HO170_HO176 hb5_ hb10_) k_ e_ q_.symm), (fun q_ => (Q_D_HO170_HO179 hb5_ hb11_) k_ e_ q_.symm), ((Q_HO170 hb5_).1 k_ e_).2.1, ((Q_HO170 hb5_).1 k_ e_).2.2⟩))
                  have HO176 := aS_ (Kd.R_reok rfl (ok := (fun k_ => ((P0_0_ k_ ∨ P0_1_ k_) ∨ w.heap.size ≤ k_) ∧ some k_ ≠ (v166 : Value).ownBlock ∧ some k_ ≠ (v169 : Value).ownBlock ∧ some k_ ≠ (v178 : Value).ownBlock ∧ some k_ ≠ (.slice Ao12 l0_0.length co12 : Value).ownBlock ∧ some k_ ≠ (.slice Ao13 l0_1.length co13 : Value).ownBlock)) (Q_HO176 hb10_) (fun k_ e_ => ⟨((Q_HO176 hb10_).1 k_ e_).1, (fun q_ => (Q_D_HO167_HO176 hb4_ hb10_) k_ q_.symm e_), (fun q_ => (Q_D_HO170_HO176 hb5_ hb10_) k_ q_.symm e_), (fun q_ => (Q_D_HO176_HO179 hb10_ hb11_) k_ e_ q_.symm), ((Q_HO176 hb10_).1 k_ e_).2.1, ((Q_HO176 hb10_).1 k_ e_).2.2⟩))
                  have HO179 := aS_ (Kd.R_reok rfl (ok := (fun k_ => ((P0_0_ k_ ∨ P0_1_ k_) ∨ w.heap.size ≤ k_) ∧ some k_ ≠ (v166 : Value).ownBlock ∧ some k_ ≠ (v169 : Value).ownBlock ∧ some k_ ≠ (v175 : Value).ownBlock ∧ some k_ ≠ (.slice Ao12 l0_0.length co12 : Value).ownBlock ∧ some k_ ≠ (.slice Ao13 l0_1.length co13 : Value).ownBlock)) (Q_HO179 hb11_) (fun k_ e_ => ⟨((Q_HO179 hb11_).1 k_ e_).1, (fun q_ => (Q_D_HO167_HO179 hb4_ hb11_) k_ q_.symm e_), (fun q_ => (Q_D_HO170_HO179 hb5_ hb11_) k_ q_.symm e_), (fun q_ => (Q_D_HO176_HO179 hb10_ hb11_) k_ q_.symm e_), ((Q_HO179 hb11_).1 k_ e_).2.1, ((Q_HO179 hb11_).1 k_ e_).2.2⟩))
                  clear Q_HO_155000 Q_HO_155001 Q_HO164 Q_HO167 Q_HO170 Q_HO173 Q_HO176 Q_D_HO164_HO167 Q_D_HO164_HO173 Q_D_HO164_HO176 Q_D_HO164_HO179 Q_D_HO167_HO170 Q_D_HO167_HO173 Q_D_HO167_HO176 Q_D_HO167_HO179 Q_D_HO170_HO173 Q_D_HO170_HO176 Q_D_HO170_HO179 Q_D_HO173_HO176 Q_D_HO176_HO179 Q_HO179 Q_BK180
                  have GW180 := aS_ (Q_GW180 hb13_)
                  clear Q_GW180
                  have GE180 := aS_ (Q_GE180 hb13_)
                  clear Q_GE180
                  have NB154_180 := aS_ (Q_NB154_180 hb13_)
                  clear Q_NB154_180
                  have NB180_154 := aS_ (Q_NB180_154 hb13_)
                  clear Q_NB180_154
                  have NB155_180 := aS_ (Q_NB155_180 hb13_)
                  clear Q_NB155_180
                  have NB180_155 := aS_ (Q_NB180_155 hb13_)
                  clear Q_NB180_155
                  have BK180 := aS_ (Q_BK180_e14 hb14_)
                  clear Q_BK180_e14
                  clear hall hb1_ hb2_ hb4_ hb5_ hb7_ hb8_ hb10_ hb11_ hb12_ hb13_ hb14_
                  obtain ⟨Ao72, co72, eo72⟩ := Kd.R_slice HO179.out
                  (first | subst eo72 | (injection eo72 with f1_ f2_ f3_; have f4_ := f1_.symm; have f5_ := f3_.symm; clear f1_ f2_ f3_; subst f4_; subst f5_))
                  obtain ⟨Ao73, co73, eo73⟩ := Kd.R_slice HO170.out
                  (first | subst eo73 | (injection eo73 with f1_ f2_ f3_; have f4_ := f1_.symm; have f5_ := f3_.symm; clear f1_ f2_ f3_; subst f4_; subst f5_))
                  have hnb74 := NB180_154.out
                  have hnc74 := NB154_180.out
                  have hnb75 := NB180_155.out
                  have hnc75 := NB155_180.out
                  have hcz76_0 : w71.cell? ⟨gb180, 0, none⟩ = some (.slice Ao73 y168.length co73) := (blk_cell BK180.out 0).trans rfl
                  have hcz76_1 : w71.cell? ⟨gb180, 1, none⟩ = some (.slice Ao72 y177.length co72) := (blk_cell BK180.out 1).trans rfl
                  have hfz76_0 := blk_frozen BK180.out 0
                  have hfz76_1 := blk_frozen BK180.out 1
                  have H := Hc54.out
                  clear Hc54
                  by_cases c54 : t187 = true
                  ·subst c54
                   rw [if_pos rfl] at H
                   simp only [Option.some.injEq, Prod.mk.injEq] at H
                   obtain ⟨rfl, rfl, rfl⟩ := H
                   try go_wp2_with (first | ((with_reducible refine gate_callee (f := 11) rfl ?_); refine goesL_ (some 85) rfl rfl Try.func11 (by kernel_rfl) rfl #[.agg #[.slice Ao73 y168.length co73, .slice Ao72 y177.length co72], .slice (some ad157) l1.length c1] rfl (by (try simp only [List.map_toArray, List.map_cons, List.map_nil]); first | done | rfl | (simp only [List.length_drop, List.length_take]; rfl)) ?_; (with_reducible refine (ih kj33 (by have := HJ10.out; have := HK2.out; have := HK3.out; have := HJ33.out; omega) (fun k_ => some k_ = (.slice Ao73 y168.length co73 : Value).ownBlock) (.slice Ao73 y168.length co73) y168 (fun k_ => some k_ = (.slice Ao72 y177.length co72 : Value).ownBlock) (.slice Ao72 y177.length co72) y177 _ _ l1 t181 t184 true w0 _ ?side1 ?side2 ?side3 ?side4 ?side5 ?side6 ?side7 A53.out).mono ?_); (case side1 => repeat (first | (with_reducible first | exact HB.out | apply bA_ | apply pN_ | apply bD_ | refine bS_ ?_ GE154.out | refine bS_ ?_ GE155.out | refine bS_ ?_ GE180.out) | exact HB.out)); (case side2 => exact Kd.R_tight rfl HO170.out); (case side3 => exact fun k_ e_ => (HO170.out.1 k_ e_.symm).2.2.2.1); (case side4 => exact Kd.R_tight rfl HO179.out); (case side5 => exact fun k_ e_ => (HO179.out.1 k_ e_.symm).2.2.1); (case side6 => exact Kd.C_kept_call HR1.out (by repeat (first | (with_reducible first | exact HK.out | apply Kept.alloc | apply Kept.drewN | apply Kept.drew | refine Kept.setCell ?_ (.inr GW154.out) _ | refine Kept.setCell ?_ (.inr GW155.out) _ | refine Kept.setCell ?_ (.inr GW180.out) _) | exact HK.out)) (fun k_ hs_ => Or.elim hs_ (fun e_ => (fun e_ => (HO170.out.1 k_ e_.symm).1) e_) (fun e_ => (fun e_ => (HO179.out.1 k_ e_.symm).1) e_))); (case side7 => exact HC1.out); rintro e w77 ⟨v182, v185, rfl, ho0, ho1, hb, hkp⟩; refine ⟨_, rfl, ?_⟩; have n0_ := aS_ (Kd.R_mono (ok' := fun k_ => ((P0_0_ k_ ∨ P0_1_ k_) ∨ w.heap.size ≤ k_) ∧ some k_ ≠ (.slice Ao13 l0_1.length co13 : Value).ownBlock ∧ some k_ ≠ (v166 : Value).ownBlock ∧ some k_ ≠ (v175 : Value).ownBlock ∧ some k_ ≠ (v182 : Value).ownBlock ∧ some k_ ≠ (v185 : Value).ownBlock) (Kd.R_keptB (HO_155000.out) hkp (fun k_ hk_ hs_ => Or.elim hs_ (fun e_ => (hk_.2.2.1) e_) (fun e_ => (hk_.2.2.2.2.1) e_))) (fun k_ hk_ => ⟨hk_.1.1, hk_.1.2.2.2.2.2, hk_.1.2.1, hk_.1.2.2.2.1, fun e_ => Or.elim (ho0.1 k_ e_.symm).1 (fun hs_ => hk_.2.1 hs_) (fun hn_ => Nat.not_le.2 hk_.2.2 hn_), fun e_ => Or.elim (ho1.1 k_ e_.symm).1 (fun hs_ => hk_.2.1 hs_) (fun hn_ => Nat.not_le.2 hk_.2.2 hn_)⟩)); have n1_ := aS_ (Kd.R_mono (ok' := fun k_ => ((P0_0_ k_ ∨ P0_1_ k_) ∨ w.heap.size ≤ k_) ∧ some k_ ≠ (.slice Ao12 l0_0.length co12 : Value).ownBlock ∧ some k_ ≠ (v166 : Value).ownBlock ∧ some k_ ≠ (v175 : Value).ownBlock ∧ some k_ ≠ (v182 : Value).ownBlock ∧ some k_ ≠ (v185 : Value).ownBlock) (Kd.R_keptB (HO_155001.out) hkp (fun k_ hk_ hs_ => Or.elim hs_ (fun e_ => (hk_.2.2.1) e_) (fun e_ => (hk_.2.2.2.2.1) e_))) (fun k_ hk_ => ⟨hk_.1.1, hk_.1.2.2.2.2.2, hk_.1.2.1, hk_.1.2.2.2.1, fun e_ => Or.elim (ho0.1 k_ e_.symm).1 (fun hs_ => hk_.2.1 hs_) (fun hn_ => Nat.not_le.2 hk_.2.2 hn_), fun e_ => Or.elim (ho1.1 k_ e_.symm).1 (fun hs_ => hk_.2.1 hs_) (fun hn_ => Nat.not_le.2 hk_.2.2 hn_)⟩)); have n2_ := aS_ (blk_kept (by (with_reducible repeat (first | refine kN_ ?_ _ | refine kD_ ?_ | refine kA_ ?_ _)); exact BK154.out) hkp (fun hs_ => Or.elim hs_ (fun e_ => (fun e_ => (Kd.R_ne HO170.out BK154.out (by decide)) e_) e_) (fun e_ => (fun e_ => (Kd.R_ne HO179.out BK154.out (by decide)) e_) e_))); have n3_ := aS_ (blk_kept (by (with_reducible repeat (first | refine kN_ ?_ _ | refine kD_ ?_ | refine kA_ ?_ _)); exact BK155.out) hkp (fun hs_ => Or.elim hs_ (fun e_ => (fun e_ => (Kd.R_ne HO170.out BK155.out (by decide)) e_) e_) (fun e_ => (fun e_ => (Kd.R_ne HO179.out BK155.out (by decide)) e_) e_))); have n4_ := aS_ (Kd.R_mono (ok' := fun k_ => ((P0_0_ k_ ∨ P0_1_ k_) ∨ w.heap.size ≤ k_) ∧ some k_ ≠ (.slice Ao12 l0_0.length co12 : Value).ownBlock ∧ some k_ ≠ (.slice Ao13 l0_1.length co13 : Value).ownBlock ∧ some k_ ≠ (v175 : Value).ownBlock ∧ some k_ ≠ (v182 : Value).ownBlock ∧ some k_ ≠ (v185 : Value).ownBlock) (Kd.R_keptB (HO167.out) hkp (fun k_ hk_ hs_ => Or.elim hs_ (fun e_ => (hk_.2.1) e_) (fun e_ => (hk_.2.2.2.1) e_))) (fun k_ hk_ => ⟨hk_.1.1, hk_.1.2.2.2.2.1, hk_.1.2.2.2.2.2, hk_.1.2.2.1, fun e_ => Or.elim (ho0.1 k_ e_.symm).1 (fun hs_ => hk_.2.1 hs_) (fun hn_ => Nat.not_le.2 hk_.2.2 hn_), fun e_ => Or.elim (ho1.1 k_ e_.symm).1 (fun hs_ => hk_.2.1 hs_) (fun hn_ => Nat.not_le.2 hk_.2.2 hn_)⟩)); have n5_ := aS_ (Kd.R_mono (ok' := fun k_ => ((P0_0_ k_ ∨ P0_1_ k_) ∨ w.heap.size ≤ k_) ∧ some k_ ≠ (.slice Ao12 l0_0.length co12 : Value).ownBlock ∧ some k_ ≠ (.slice Ao13 l0_1.length co13 : Value).ownBlock ∧ some k_ ≠ (v166 : Value).ownBlock ∧ some k_ ≠ (v182 : Value).ownBlock ∧ some k_ ≠ (v185 : Value).ownBlock) (Kd.R_keptB (HO176.out) hkp (fun k_ hk_ hs_ => Or.elim hs_ (fun e_ => (hk_.2.2.1) e_) (fun e_ => (hk_.2.2.2.1) e_))) (fun k_ hk_ => ⟨hk_.1.1, hk_.1.2.2.2.2.1, hk_.1.2.2.2.2.2, hk_.1.2.1, fun e_ => Or.elim (ho0.1 k_ e_.symm).1 (fun hs_ => hk_.2.1 hs_) (fun hn_ => Nat.not_le.2 hk_.2.2 hn_), fun e_ => Or.elim (ho1.1 k_ e_.symm).1 (fun hs_ => hk_.2.1 hs_) (fun hn_ => Nat.not_le.2 hk_.2.2 hn_)⟩)); have n6_ := aS_ (blk_kept (by (with_reducible repeat (first | refine kN_ ?_ _ | refine kD_ ?_ | refine kA_ ?_ _)); exact BK180.out) hkp (fun hs_ => Or.elim hs_ (fun e_ => (fun e_ => (Kd.R_ne HO170.out BK180.out (by decide)) e_) e_) (fun e_ => (fun e_ => (Kd.R_ne HO179.out BK180.out (by decide)) e_) e_))); have n7_ := aS_ (Kd.R_mono (ok' := fun k_ => ((P0_0_ k_ ∨ P0_1_ k_) ∨ w.heap.size ≤ k_) ∧ some k_ ≠ (v185 : Value).ownBlock ∧ some k_ ≠ (.slice Ao12 l0_0.length co12 : Value).ownBlock ∧ some k_ ≠ (.slice Ao13 l0_1.length co13 : Value).ownBlock ∧ some k_ ≠ (v166 : Value).ownBlock ∧ some k_ ≠ (v175 : Value).ownBlock) ho0 (fun k_ hk_ => ⟨Or.elim hk_.1 (fun hs_ => Or.elim hs_ (fun hs_ => (HO170.out.1 k_ (hs_).symm).1) (fun hs_ => (HO179.out.1 k_ (hs_).symm).1)) (fun hn_ => (.inr (Nat.le_trans (by first | exact HK.out.1 | exact (show Kept w _ (fun k_ => P0_0_ k_ ∨ P0_1_ k_) from by repeat (first | (with_reducible first | exact HK.out | apply Kept.alloc | apply Kept.drewN | apply Kept.drew | refine Kept.setCell ?_ (.inr GW154.out) _ | refine Kept.setCell ?_ (.inr GW155.out) _ | refine Kept.setCell ?_ (.inr GW180.out) _) | exact HK.out)).1) hn_))), hk_.2, Or.elim hk_.1 (fun hs_ => Or.elim hs_ (fun hs_ => fun e_ => (((HO_155000.out).1 k_ e_.symm).2.2.1) hs_) (fun hs_ => fun e_ => (((HO_155000.out).1 k_ e_.symm).2.2.2.2.1) hs_)) (fun hn_ => (Kd.fresh' (Kd.R_lt (by (with_reducible repeat (first | apply rA_ | apply rN_ | apply rD_)); exact HO_155000.out)) k_ hn_)), Or.elim hk_.1 (fun hs_ => Or.elim hs_ (fun hs_ => fun e_ => (((HO_155001.out).1 k_ e_.symm).2.2.1) hs_) (fun hs_ => fun e_ => (((HO_155001.out).1 k_ e_.symm).2.2.2.2.1) hs_)) (fun hn_ => (Kd.fresh' (Kd.R_lt (by (with_reducible repeat (first | apply rA_ | apply rN_ | apply rD_)); exact HO_155001.out)) k_ hn_)), Or.elim hk_.1 (fun hs_ => Or.elim hs_ (fun hs_ => fun e_ => (((HO167.out).1 k_ e_.symm).2.1) hs_) (fun hs_ => fun e_ => (((HO167.out).1 k_ e_.symm).2.2.2.1) hs_)) (fun hn_ => (Kd.fresh' (Kd.R_lt (by (with_reducible repeat (first | apply rA_ | apply rN_ | apply rD_)); exact HO167.out)) k_ hn_)), Or.elim hk_.1 (fun hs_ => Or.elim hs_ (fun hs_ => fun e_ => (((HO176.out).1 k_ e_.symm).2.2.1) hs_) (fun hs_ => fun e_ => (((HO176.out).1 k_ e_.symm).2.2.2.1) hs_)) (fun hn_ => (Kd.fresh' (Kd.R_lt (by (with_reducible repeat (first | apply rA_ | apply rN_ | apply rD_)); exact HO176.out)) k_ hn_))⟩)); have n8_ := aS_ (Kd.R_mono (ok' := fun k_ => ((P0_0_ k_ ∨ P0_1_ k_) ∨ w.heap.size ≤ k_) ∧ some k_ ≠ (v182 : Value).ownBlock ∧ some k_ ≠ (.slice Ao12 l0_0.length co12 : Value).ownBlock ∧ some k_ ≠ (.slice Ao13 l0_1.length co13 : Value).ownBlock ∧ some k_ ≠ (v166 : Value).ownBlock ∧ some k_ ≠ (v175 : Value).ownBlock) ho1 (fun k_ hk_ => ⟨Or.elim hk_.1 (fun hs_ => Or.elim hs_ (fun hs_ => (HO170.out.1 k_ (hs_).symm).1) (fun hs_ => (HO179.out.1 k_ (hs_).symm).1)) (fun hn_ => (.inr (Nat.le_trans (by first | exact HK.out.1 | exact (show Kept w _ (fun k_ => P0_0_ k_ ∨ P0_1_ k_) from by repeat (first | (with_reducible first | exact HK.out | apply Kept.alloc | apply Kept.drewN | apply Kept.drew | refine Kept.setCell ?_ (.inr GW154.out) _ | refine Kept.setCell ?_ (.inr GW155.out) _ | refine Kept.setCell ?_ (.inr GW180.out) _) | exact HK.out)).1) hn_))), hk_.2, Or.elim hk_.1 (fun hs_ => Or.elim hs_ (fun hs_ => fun e_ => (((HO_155000.out).1 k_ e_.symm).2.2.1) hs_) (fun hs_ => fun e_ => (((HO_155000.out).1 k_ e_.symm).2.2.2.2.1) hs_)) (fun hn_ => (Kd.fresh' (Kd.R_lt (by (with_reducible repeat (first | apply rA_ | apply rN_ | apply rD_)); exact HO_155000.out)) k_ hn_)), Or.elim hk_.1 (fun hs_ => Or.elim hs_ (fun hs_ => fun e_ => (((HO_155001.out).1 k_ e_.symm).2.2.1) hs_) (fun hs_ => fun e_ => (((HO_155001.out).1 k_ e_.symm).2.2.2.2.1) hs_)) (fun hn_ => (Kd.fresh' (Kd.R_lt (by (with_reducible repeat (first | apply rA_ | apply rN_ | apply rD_)); exact HO_155001.out)) k_ hn_)), Or.elim hk_.1 (fun hs_ => Or.elim hs_ (fun hs_ => fun e_ => (((HO167.out).1 k_ e_.symm).2.1) hs_) (fun hs_ => fun e_ => (((HO167.out).1 k_ e_.symm).2.2.2.1) hs_)) (fun hn_ => (Kd.fresh' (Kd.R_lt (by (with_reducible repeat (first | apply rA_ | apply rN_ | apply rD_)); exact HO167.out)) k_ hn_)), Or.elim hk_.1 (fun hs_ => Or.elim hs_ (fun hs_ => fun e_ => (((HO176.out).1 k_ e_.symm).2.2.1) hs_) (fun hs_ => fun e_ => (((HO176.out).1 k_ e_.symm).2.2.2.1) hs_)) (fun hn_ => (Kd.fresh' (Kd.R_lt (by (with_reducible repeat (first | apply rA_ | apply rN_ | apply rD_)); exact HO176.out)) k_ hn_))⟩)); have n9_ := aS_ (Kept.then_ (S := (fun k_ => P0_0_ k_ ∨ P0_1_ k_)) (by repeat (first | (with_reducible first | exact HK.out | apply Kept.alloc | apply Kept.drewN | apply Kept.drew | refine Kept.setCell ?_ (.inr GW154.out) _ | refine Kept.setCell ?_ (.inr GW155.out) _ | refine Kept.setCell ?_ (.inr GW180.out) _) | exact HK.out)) hkp (fun k_ hs_ => Or.elim hs_ (fun e_ => (fun e_ => (HO170.out.1 k_ e_.symm).1) e_) (fun e_ => (fun e_ => (HO179.out.1 k_ e_.symm).1) e_))); have n10_ := aS_ (hb); clear HO_155000; clear HO_155001; clear BK154; clear BK155; clear HO167; clear HO176; clear BK180; clear HK; clear HB; clear HO170; clear HO179; have HO_155000 := n0_; have HO_155001 := n1_; have BK154 := n2_; have BK155 := n3_; have HO167 := n4_; have HO176 := n5_; have BK180 := n6_; have HO183 := n7_; have HO186 := n8_; have HK := n9_; have HB := n10_; clear n0_ n1_ n2_ n3_ n4_ n5_ n6_ n7_ n8_ n9_ n10_; (try clear hb); (try clear hkp); (try clear ho0); (try clear ho1)) | ((with_reducible refine gate_dst (N := 12) rfl ?_); refine box_event ?hg (N := 12) ?hd (cs := #[.slice none 0 0, .slice none 0 0]) (t := 34) ?hr ?_; (case hd => rfl); (case hg => rfl); (case hr => first | (go_simp; done) | (go_simp; rfl)); intro gb188 hg w78 hbox hb; have n0_ := aS_ (Kd.R_below (by (with_reducible repeat (first | apply rA_ | apply rN_ | apply rD_)); exact HO_155000.out) hb); have n1_ := aS_ (Kd.R_below (by (with_reducible repeat (first | apply rA_ | apply rN_ | apply rD_)); exact HO_155001.out) hb); have n2_ := aS_ (Kd.R_below (by (with_reducible repeat (first | apply rA_ | apply rN_ | apply rD_)); exact HO167.out) hb); have n3_ := aS_ (Kd.R_below (by (with_reducible repeat (first | apply rA_ | apply rN_ | apply rD_)); exact HO176.out) hb); have n4_ := aS_ (Kd.R_below (by (with_reducible repeat (first | apply rA_ | apply rN_ | apply rD_)); exact HO183.out) hb); have n5_ := aS_ (Kd.R_below (by (with_reducible repeat (first | apply rA_ | apply rN_ | apply rD_)); exact HO186.out) hb); have n6_ := aS_ (blk_below (g := gb154) (o := .cells #[.slice Ao12 l0_0.length co12, .slice Ao13 l0_1.length co13] 34 (0, 0)) (by (with_reducible repeat (first | refine kN_ ?_ _ | refine kD_ ?_ | refine kA_ ?_ _)); exact BK154.out) hb); have n7_ := aS_ (blk_below (g := gb155) (o := .cells #[.slice none 0 0, .slice none 0 0] 34 (0, 0)) (by (with_reducible repeat (first | refine kN_ ?_ _ | refine kD_ ?_ | refine kA_ ?_ _)); exact BK155.out) hb); have n8_ := aS_ (blk_below (g := gb180) (o := .cells #[.slice Ao73 y168.length co73, .slice Ao72 y177.length co72] 34 (0, 0)) (by (with_reducible repeat (first | refine kN_ ?_ _ | refine kD_ ?_ | refine kA_ ?_ _)); exact BK180.out) hb); have n9_ := aS_ (Kept.below (S := (fun k_ => P0_0_ k_ ∨ P0_1_ k_)) (by repeat (first | (with_reducible first | exact HK.out | apply Kept.alloc | apply Kept.drewN | apply Kept.drew | refine Kept.setCell ?_ (.inr GW154.out) _ | refine Kept.setCell ?_ (.inr GW155.out) _ | refine Kept.setCell ?_ (.inr GW180.out) _) | exact HK.out)) hb); have n10_ := aS_ (below_step (by repeat (first | (with_reducible first | exact HB.out | apply bA_ | apply pN_ | apply bD_ | refine bS_ ?_ GE154.out | refine bS_ ?_ GE155.out | refine bS_ ?_ GE180.out) | exact HB.out)) hb); have n11_ := aS_ (hbox); have n12_ := aS_ ((by rw [hg]; exact (by first | exact HK.out.1 | exact (show Kept w _ (fun k_ => P0_0_ k_ ∨ P0_1_ k_) from by repeat (first | (with_reducible first | exact HK.out | apply Kept.alloc | apply Kept.drewN | apply Kept.drew | refine Kept.setCell ?_ (.inr GW154.out) _ | refine Kept.setCell ?_ (.inr GW155.out) _ | refine Kept.setCell ?_ (.inr GW180.out) _) | exact HK.out)).1) : w.heap.size ≤ gb188)); have n13_ := aS_ ((by rw [hg]; exact (below_size (by repeat (first | (with_reducible first | exact HB.out | apply bA_ | apply pN_ | apply bD_ | refine bS_ ?_ GE154.out | refine bS_ ?_ GE155.out | refine bS_ ?_ GE180.out) | exact HB.out))) : w0.heap.size ≤ gb188)); have n14_ := aS_ ((by rw [hg]; exact Nat.ne_of_lt (blk_lt (g := gb154) (o := .cells #[.slice Ao12 l0_0.length co12, .slice Ao13 l0_1.length co13] 34 (0, 0)) (by (with_reducible repeat (first | refine kN_ ?_ _ | refine kD_ ?_ | refine kA_ ?_ _)); exact BK154.out)) : gb154 ≠ gb188)); have n15_ := aS_ ((by rw [hg]; exact Nat.ne_of_gt (blk_lt (g := gb154) (o := .cells #[.slice Ao12 l0_0.length co12, .slice Ao13 l0_1.length co13] 34 (0, 0)) (by (with_reducible repeat (first | refine kN_ ?_ _ | refine kD_ ?_ | refine kA_ ?_ _)); exact BK154.out)) : gb188 ≠ gb154)); have n16_ := aS_ ((by rw [hg]; exact Nat.ne_of_lt (blk_lt (g := gb155) (o := .cells #[.slice none 0 0, .slice none 0 0] 34 (0, 0)) (by (with_reducible repeat (first | refine kN_ ?_ _ | refine kD_ ?_ | refine kA_ ?_ _)); exact BK155.out)) : gb155 ≠ gb188)); have n17_ := aS_ ((by rw [hg]; exact Nat.ne_of_gt (blk_lt (g := gb155) (o := .cells #[.slice none 0 0, .slice none 0 0] 34 (0, 0)) (by (with_reducible repeat (first | refine kN_ ?_ _ | refine kD_ ?_ | refine kA_ ?_ _)); exact BK155.out)) : gb188 ≠ gb155)); have n18_ := aS_ ((by rw [hg]; exact Nat.ne_of_lt (blk_lt (g := gb180) (o := .cells #[.slice Ao73 y168.length co73, .slice Ao72 y177.length co72] 34 (0, 0)) (by (with_reducible repeat (first | refine kN_ ?_ _ | refine kD_ ?_ | refine kA_ ?_ _)); exact BK180.out)) : gb180 ≠ gb188)); have n19_ := aS_ ((by rw [hg]; exact Nat.ne_of_gt (blk_lt (g := gb180) (o := .cells #[.slice Ao73 y168.length co73, .slice Ao72 y177.length co72] 34 (0, 0)) (by (with_reducible repeat (first | refine kN_ ?_ _ | refine kD_ ?_ | refine kA_ ?_ _)); exact BK180.out)) : gb188 ≠ gb180)); clear HO_155000; clear HO_155001; clear HO167; clear HO176; clear HO183; clear HO186; clear BK154; clear BK155; clear BK180; clear HK; clear HB; have HO_155000 := n0_; have HO_155001 := n1_; have HO167 := n2_; have HO176 := n3_; have HO183 := n4_; have HO186 := n5_; have BK154 := n6_; have BK155 := n7_; have BK180 := n8_; have HK := n9_; have HB := n10_; have BK188 := n11_; have GW188 := n12_; have GE188 := n13_; have NB154_188 := n14_; have NB188_154 := n15_; have NB155_188 := n16_; have NB188_155 := n17_; have NB180_188 := n18_; have NB188_180 := n19_; clear n0_ n1_ n2_ n3_ n4_ n5_ n6_ n7_ n8_ n9_ n10_ n11_ n12_ n13_ n14_ n15_ n16_ n17_ n18_ n19_; clear hb hbox hg; obtain ⟨Ao79, co79, eo79⟩ := Kd.R_slice HO183.out; subst eo79; have hnb80 := NB188_154.out; have hnc80 := NB154_188.out; have hnb81 := NB188_155.out; have hnc81 := NB155_188.out; have hnb82 := NB188_180.out; have hnc82 := NB180_188.out; have hcz83_0 : w78.cell? ⟨gb188, 0, none⟩ = some (.slice none 0 0) := (blk_cell BK188.out 0).trans rfl; have hcz83_1 : w78.cell? ⟨gb188, 1, none⟩ = some (.slice none 0 0) := (blk_cell BK188.out 1).trans rfl; have hfz83_0 := blk_frozen BK188.out 0; have hfz83_1 := blk_frozen BK188.out 1; obtain ⟨Ao84, co84, eo84⟩ := Kd.R_slice HO186.out; subst eo84; have hnb85 := NB155_154.out; have hnc85 := NB154_155.out; have hcz86_0 : w78.cell? ⟨gb155, 0, none⟩ = some (.slice none 0 0) := (blk_cell BK155.out 0).trans rfl; have hcz86_1 : w78.cell? ⟨gb155, 1, none⟩ = some (.slice none 0 0) := (blk_cell BK155.out 1).trans rfl; have hfz86_0 := blk_frozen BK155.out 0; have hfz86_1 := blk_frozen BK155.out 1))
                   refine bodyPost_ret (results_ct rfl _ _ gb155 34 #[.slice Ao79 t181.length co79, .slice Ao84 t184.length co84] (0, 0) _ rfl (by (with_reducible repeat (first | refine kN_ ?_ _ | refine kD_ ?_ | refine kA_ ?_ _)); refine blk_put (cs := #[.slice Ao79 t181.length co79, .slice none 0 0]) ?_ 1 _ rfl; (with_reducible repeat (first | refine kN_ ?_ _ | refine kD_ ?_ | refine kA_ ?_ _)); refine blk_put (cs := #[.slice none 0 0, .slice none 0 0]) ?_ 0 _ rfl; (with_reducible repeat (first | refine kN_ ?_ _ | refine kD_ ?_ | refine kA_ ?_ _)); refine blk_far ?_ NB155_188.out _; (with_reducible repeat (first | refine kN_ ?_ _ | refine kD_ ?_ | refine kA_ ?_ _)); refine blk_far ?_ NB155_188.out _; (with_reducible repeat (first | refine kN_ ?_ _ | refine kD_ ?_ | refine kA_ ?_ _)); exact BK155.out) Try.underlying34 rfl (by kernel_rfl)) rfl ?_
                   exact ⟨_, _, by first | rfl | (simp [errW_none, errW_some] <;> rfl) | (simp [*, errW_none, errW_some] <;> rfl), by (with_reducible repeat (first | apply rA_ | apply rN_ | apply rD_)); exact Kd.R_mono (Kd.R_far (p := ⟨gb155, 1, none⟩) (Kd.R_far (p := ⟨gb155, 0, none⟩) (Kd.R_far (p := ⟨gb188, 1, none⟩) (Kd.R_far (p := ⟨gb188, 0, none⟩) (Kd.R_types (Kd.R_types HO183.out BK188.out (by decide)) BK155.out (by decide)) (fun _ hk => hk.1.2) (.slice Ao79 t181.length co79)) (fun _ hk => hk.1.2) (.slice Ao84 t184.length co84)) (fun _ hk => hk.2) (.slice Ao79 t181.length co79)) (fun _ hk => hk.2) (.slice Ao84 t184.length co84)) (fun _ hk => by first | exact ⟨hk.1.1.1, hk.1.1.2.1⟩ | (simp only [hk, ne_eq, not_false_eq_true, and_self])), by (with_reducible repeat (first | apply rA_ | apply rN_ | apply rD_)); exact Kd.R_mono (Kd.R_far (p := ⟨gb155, 1, none⟩) (Kd.R_far (p := ⟨gb155, 0, none⟩) (Kd.R_far (p := ⟨gb188, 1, none⟩) (Kd.R_far (p := ⟨gb188, 0, none⟩) (Kd.R_types (Kd.R_types HO186.out BK188.out (by decide)) BK155.out (by decide)) (fun _ hk => hk.1.2) (.slice Ao79 t181.length co79)) (fun _ hk => hk.1.2) (.slice Ao84 t184.length co84)) (fun _ hk => hk.2) (.slice Ao79 t181.length co79)) (fun _ hk => hk.2) (.slice Ao84 t184.length co84)) (fun _ hk => by first | exact ⟨hk.1.1.1, hk.1.1.2.1⟩ | (simp only [hk, ne_eq, not_false_eq_true, and_self])), by repeat (first | (with_reducible first | exact HB.out | apply bA_ | apply pN_ | apply bD_ | refine bS_ ?_ GE154.out | refine bS_ ?_ GE155.out | refine bS_ ?_ GE180.out | refine bS_ ?_ GE188.out) | exact HB.out), by repeat (first | (with_reducible first | exact HK.out | apply Kept.alloc | apply Kept.drewN | apply Kept.drew | refine Kept.setCell ?_ (.inr GW154.out) _ | refine Kept.setCell ?_ (.inr GW155.out) _ | refine Kept.setCell ?_ (.inr GW180.out) _ | refine Kept.setCell ?_ (.inr GW188.out) _) | exact HK.out)⟩
                  ·replace c54 := Bool.eq_false_iff.mpr c54
                   subst c54
                   rw [if_neg (show ¬ (false = true) by decide)] at H
                   have H' := aS_ H
                   clear H
                   try go_wp2_with (first | ((with_reducible refine gate_callee (f := 11) rfl ?_); refine goesL_ (some 85) rfl rfl Try.func11 (by kernel_rfl) rfl #[.agg #[.slice Ao73 y168.length co73, .slice Ao72 y177.length co72], .slice (some ad157) l1.length c1] rfl (by (try simp only [List.map_toArray, List.map_cons, List.map_nil]); first | done | rfl | (simp only [List.length_drop, List.length_take]; rfl)) ?_; (with_reducible refine (ih kj33 (by have := HJ10.out; have := HK2.out; have := HK3.out; have := HJ33.out; omega) (fun k_ => some k_ = (.slice Ao73 y168.length co73 : Value).ownBlock) (.slice Ao73 y168.length co73) y168 (fun k_ => some k_ = (.slice Ao72 y177.length co72 : Value).ownBlock) (.slice Ao72 y177.length co72) y177 _ _ l1 t181 t184 false w0 _ ?side1 ?side2 ?side3 ?side4 ?side5 ?side6 ?side7 A53.out).mono ?_); (case side1 => repeat (first | (with_reducible first | exact HB.out | apply bA_ | apply pN_ | apply bD_ | refine bS_ ?_ GE154.out | refine bS_ ?_ GE155.out | refine bS_ ?_ GE180.out) | exact HB.out)); (case side2 => exact Kd.R_tight rfl HO170.out); (case side3 => exact fun k_ e_ => (HO170.out.1 k_ e_.symm).2.2.2.1); (case side4 => exact Kd.R_tight rfl HO179.out); (case side5 => exact fun k_ e_ => (HO179.out.1 k_ e_.symm).2.2.1); (case side6 => exact Kd.C_kept_call HR1.out (by repeat (first | (with_reducible first | exact HK.out | apply Kept.alloc | apply Kept.drewN | apply Kept.drew | refine Kept.setCell ?_ (.inr GW154.out) _ | refine Kept.setCell ?_ (.inr GW155.out) _ | refine Kept.setCell ?_ (.inr GW180.out) _) | exact HK.out)) (fun k_ hs_ => Or.elim hs_ (fun e_ => (fun e_ => (HO170.out.1 k_ e_.symm).1) e_) (fun e_ => (fun e_ => (HO179.out.1 k_ e_.symm).1) e_))); (case side7 => exact HC1.out); rintro e w109 ⟨v182, v185, rfl, ho0, ho1, hb, hkp⟩; refine ⟨_, rfl, ?_⟩; have n0_ := aS_ (Kd.R_mono (ok' := fun k_ => ((P0_0_ k_ ∨ P0_1_ k_) ∨ w.heap.size ≤ k_) ∧ some k_ ≠ (.slice Ao13 l0_1.length co13 : Value).ownBlock ∧ some k_ ≠ (v166 : Value).ownBlock ∧ some k_ ≠ (v175 : Value).ownBlock ∧ some k_ ≠ (v182 : Value).ownBlock ∧ some k_ ≠ (v185 : Value).ownBlock) (Kd.R_keptB (HO_155000.out) hkp (fun k_ hk_ hs_ => Or.elim hs_ (fun e_ => (hk_.2.2.1) e_) (fun e_ => (hk_.2.2.2.2.1) e_))) (fun k_ hk_ => ⟨hk_.1.1, hk_.1.2.2.2.2.2, hk_.1.2.1, hk_.1.2.2.2.1, fun e_ => Or.elim (ho0.1 k_ e_.symm).1 (fun hs_ => hk_.2.1 hs_) (fun hn_ => Nat.not_le.2 hk_.2.2 hn_), fun e_ => Or.elim (ho1.1 k_ e_.symm).1 (fun hs_ => hk_.2.1 hs_) (fun hn_ => Nat.not_le.2 hk_.2.2 hn_)⟩)); have n1_ := aS_ (Kd.R_mono (ok' := fun k_ => ((P0_0_ k_ ∨ P0_1_ k_) ∨ w.heap.size ≤ k_) ∧ some k_ ≠ (.slice Ao12 l0_0.length co12 : Value).ownBlock ∧ some k_ ≠ (v166 : Value).ownBlock ∧ some k_ ≠ (v175 : Value).ownBlock ∧ some k_ ≠ (v182 : Value).ownBlock ∧ some k_ ≠ (v185 : Value).ownBlock) (Kd.R_keptB (HO_155001.out) hkp (fun k_ hk_ hs_ => Or.elim hs_ (fun e_ => (hk_.2.2.1) e_) (fun e_ => (hk_.2.2.2.2.1) e_))) (fun k_ hk_ => ⟨hk_.1.1, hk_.1.2.2.2.2.2, hk_.1.2.1, hk_.1.2.2.2.1, fun e_ => Or.elim (ho0.1 k_ e_.symm).1 (fun hs_ => hk_.2.1 hs_) (fun hn_ => Nat.not_le.2 hk_.2.2 hn_), fun e_ => Or.elim (ho1.1 k_ e_.symm).1 (fun hs_ => hk_.2.1 hs_) (fun hn_ => Nat.not_le.2 hk_.2.2 hn_)⟩)); have n2_ := aS_ (blk_kept (by (with_reducible repeat (first | refine kN_ ?_ _ | refine kD_ ?_ | refine kA_ ?_ _)); exact BK154.out) hkp (fun hs_ => Or.elim hs_ (fun e_ => (fun e_ => (Kd.R_ne HO170.out BK154.out (by decide)) e_) e_) (fun e_ => (fun e_ => (Kd.R_ne HO179.out BK154.out (by decide)) e_) e_))); have n3_ := aS_ (blk_kept (by (with_reducible repeat (first | refine kN_ ?_ _ | refine kD_ ?_ | refine kA_ ?_ _)); exact BK155.out) hkp (fun hs_ => Or.elim hs_ (fun e_ => (fun e_ => (Kd.R_ne HO170.out BK155.out (by decide)) e_) e_) (fun e_ => (fun e_ => (Kd.R_ne HO179.out BK155.out (by decide)) e_) e_))); have n4_ := aS_ (Kd.R_mono (ok' := fun k_ => ((P0_0_ k_ ∨ P0_1_ k_) ∨ w.heap.size ≤ k_) ∧ some k_ ≠ (.slice Ao12 l0_0.length co12 : Value).ownBlock ∧ some k_ ≠ (.slice Ao13 l0_1.length co13 : Value).ownBlock ∧ some k_ ≠ (v175 : Value).ownBlock ∧ some k_ ≠ (v182 : Value).ownBlock ∧ some k_ ≠ (v185 : Value).ownBlock) (Kd.R_keptB (HO167.out) hkp (fun k_ hk_ hs_ => Or.elim hs_ (fun e_ => (hk_.2.1) e_) (fun e_ => (hk_.2.2.2.1) e_))) (fun k_ hk_ => ⟨hk_.1.1, hk_.1.2.2.2.2.1, hk_.1.2.2.2.2.2, hk_.1.2.2.1, fun e_ => Or.elim (ho0.1 k_ e_.symm).1 (fun hs_ => hk_.2.1 hs_) (fun hn_ => Nat.not_le.2 hk_.2.2 hn_), fun e_ => Or.elim (ho1.1 k_ e_.symm).1 (fun hs_ => hk_.2.1 hs_) (fun hn_ => Nat.not_le.2 hk_.2.2 hn_)⟩)); have n5_ := aS_ (Kd.R_mono (ok' := fun k_ => ((P0_0_ k_ ∨ P0_1_ k_) ∨ w.heap.size ≤ k_) ∧ some k_ ≠ (.slice Ao12 l0_0.length co12 : Value).ownBlock ∧ some k_ ≠ (.slice Ao13 l0_1.length co13 : Value).ownBlock ∧ some k_ ≠ (v166 : Value).ownBlock ∧ some k_ ≠ (v182 : Value).ownBlock ∧ some k_ ≠ (v185 : Value).ownBlock) (Kd.R_keptB (HO176.out) hkp (fun k_ hk_ hs_ => Or.elim hs_ (fun e_ => (hk_.2.2.1) e_) (fun e_ => (hk_.2.2.2.1) e_))) (fun k_ hk_ => ⟨hk_.1.1, hk_.1.2.2.2.2.1, hk_.1.2.2.2.2.2, hk_.1.2.1, fun e_ => Or.elim (ho0.1 k_ e_.symm).1 (fun hs_ => hk_.2.1 hs_) (fun hn_ => Nat.not_le.2 hk_.2.2 hn_), fun e_ => Or.elim (ho1.1 k_ e_.symm).1 (fun hs_ => hk_.2.1 hs_) (fun hn_ => Nat.not_le.2 hk_.2.2 hn_)⟩)); have n6_ := aS_ (blk_kept (by (with_reducible repeat (first | refine kN_ ?_ _ | refine kD_ ?_ | refine kA_ ?_ _)); exact BK180.out) hkp (fun hs_ => Or.elim hs_ (fun e_ => (fun e_ => (Kd.R_ne HO170.out BK180.out (by decide)) e_) e_) (fun e_ => (fun e_ => (Kd.R_ne HO179.out BK180.out (by decide)) e_) e_))); have n7_ := aS_ (Kd.R_mono (ok' := fun k_ => ((P0_0_ k_ ∨ P0_1_ k_) ∨ w.heap.size ≤ k_) ∧ some k_ ≠ (v185 : Value).ownBlock ∧ some k_ ≠ (.slice Ao12 l0_0.length co12 : Value).ownBlock ∧ some k_ ≠ (.slice Ao13 l0_1.length co13 : Value).ownBlock ∧ some k_ ≠ (v166 : Value).ownBlock ∧ some k_ ≠ (v175 : Value).ownBlock) ho0 (fun k_ hk_ => ⟨Or.elim hk_.1 (fun hs_ => Or.elim hs_ (fun hs_ => (HO170.out.1 k_ (hs_).symm).1) (fun hs_ => (HO179.out.1 k_ (hs_).symm).1)) (fun hn_ => (.inr (Nat.le_trans (by first | exact HK.out.1 | exact (show Kept w _ (fun k_ => P0_0_ k_ ∨ P0_1_ k_) from by repeat (first | (with_reducible first | exact HK.out | apply Kept.alloc | apply Kept.drewN | apply Kept.drew | refine Kept.setCell ?_ (.inr GW154.out) _ | refine Kept.setCell ?_ (.inr GW155.out) _ | refine Kept.setCell ?_ (.inr GW180.out) _) | exact HK.out)).1) hn_))), hk_.2, Or.elim hk_.1 (fun hs_ => Or.elim hs_ (fun hs_ => fun e_ => (((HO_155000.out).1 k_ e_.symm).2.2.1) hs_) (fun hs_ => fun e_ => (((HO_155000.out).1 k_ e_.symm).2.2.2.2.1) hs_)) (fun hn_ => (Kd.fresh' (Kd.R_lt (by (with_reducible repeat (first | apply rA_ | apply rN_ | apply rD_)); exact HO_155000.out)) k_ hn_)), Or.elim hk_.1 (fun hs_ => Or.elim hs_ (fun hs_ => fun e_ => (((HO_155001.out).1 k_ e_.symm).2.2.1) hs_) (fun hs_ => fun e_ => (((HO_155001.out).1 k_ e_.symm).2.2.2.2.1) hs_)) (fun hn_ => (Kd.fresh' (Kd.R_lt (by (with_reducible repeat (first | apply rA_ | apply rN_ | apply rD_)); exact HO_155001.out)) k_ hn_)), Or.elim hk_.1 (fun hs_ => Or.elim hs_ (fun hs_ => fun e_ => (((HO167.out).1 k_ e_.symm).2.1) hs_) (fun hs_ => fun e_ => (((HO167.out).1 k_ e_.symm).2.2.2.1) hs_)) (fun hn_ => (Kd.fresh' (Kd.R_lt (by (with_reducible repeat (first | apply rA_ | apply rN_ | apply rD_)); exact HO167.out)) k_ hn_)), Or.elim hk_.1 (fun hs_ => Or.elim hs_ (fun hs_ => fun e_ => (((HO176.out).1 k_ e_.symm).2.2.1) hs_) (fun hs_ => fun e_ => (((HO176.out).1 k_ e_.symm).2.2.2.1) hs_)) (fun hn_ => (Kd.fresh' (Kd.R_lt (by (with_reducible repeat (first | apply rA_ | apply rN_ | apply rD_)); exact HO176.out)) k_ hn_))⟩)); have n8_ := aS_ (Kd.R_mono (ok' := fun k_ => ((P0_0_ k_ ∨ P0_1_ k_) ∨ w.heap.size ≤ k_) ∧ some k_ ≠ (v182 : Value).ownBlock ∧ some k_ ≠ (.slice Ao12 l0_0.length co12 : Value).ownBlock ∧ some k_ ≠ (.slice Ao13 l0_1.length co13 : Value).ownBlock ∧ some k_ ≠ (v166 : Value).ownBlock ∧ some k_ ≠ (v175 : Value).ownBlock) ho1 (fun k_ hk_ => ⟨Or.elim hk_.1 (fun hs_ => Or.elim hs_ (fun hs_ => (HO170.out.1 k_ (hs_).symm).1) (fun hs_ => (HO179.out.1 k_ (hs_).symm).1)) (fun hn_ => (.inr (Nat.le_trans (by first | exact HK.out.1 | exact (show Kept w _ (fun k_ => P0_0_ k_ ∨ P0_1_ k_) from by repeat (first | (with_reducible first | exact HK.out | apply Kept.alloc | apply Kept.drewN | apply Kept.drew | refine Kept.setCell ?_ (.inr GW154.out) _ | refine Kept.setCell ?_ (.inr GW155.out) _ | refine Kept.setCell ?_ (.inr GW180.out) _) | exact HK.out)).1) hn_))), hk_.2, Or.elim hk_.1 (fun hs_ => Or.elim hs_ (fun hs_ => fun e_ => (((HO_155000.out).1 k_ e_.symm).2.2.1) hs_) (fun hs_ => fun e_ => (((HO_155000.out).1 k_ e_.symm).2.2.2.2.1) hs_)) (fun hn_ => (Kd.fresh' (Kd.R_lt (by (with_reducible repeat (first | apply rA_ | apply rN_ | apply rD_)); exact HO_155000.out)) k_ hn_)), Or.elim hk_.1 (fun hs_ => Or.elim hs_ (fun hs_ => fun e_ => (((HO_155001.out).1 k_ e_.symm).2.2.1) hs_) (fun hs_ => fun e_ => (((HO_155001.out).1 k_ e_.symm).2.2.2.2.1) hs_)) (fun hn_ => (Kd.fresh' (Kd.R_lt (by (with_reducible repeat (first | apply rA_ | apply rN_ | apply rD_)); exact HO_155001.out)) k_ hn_)), Or.elim hk_.1 (fun hs_ => Or.elim hs_ (fun hs_ => fun e_ => (((HO167.out).1 k_ e_.symm).2.1) hs_) (fun hs_ => fun e_ => (((HO167.out).1 k_ e_.symm).2.2.2.1) hs_)) (fun hn_ => (Kd.fresh' (Kd.R_lt (by (with_reducible repeat (first | apply rA_ | apply rN_ | apply rD_)); exact HO167.out)) k_ hn_)), Or.elim hk_.1 (fun hs_ => Or.elim hs_ (fun hs_ => fun e_ => (((HO176.out).1 k_ e_.symm).2.2.1) hs_) (fun hs_ => fun e_ => (((HO176.out).1 k_ e_.symm).2.2.2.1) hs_)) (fun hn_ => (Kd.fresh' (Kd.R_lt (by (with_reducible repeat (first | apply rA_ | apply rN_ | apply rD_)); exact HO176.out)) k_ hn_))⟩)); have n9_ := aS_ (Kept.then_ (S := (fun k_ => P0_0_ k_ ∨ P0_1_ k_)) (by repeat (first | (with_reducible first | exact HK.out | apply Kept.alloc | apply Kept.drewN | apply Kept.drew | refine Kept.setCell ?_ (.inr GW154.out) _ | refine Kept.setCell ?_ (.inr GW155.out) _ | refine Kept.setCell ?_ (.inr GW180.out) _) | exact HK.out)) hkp (fun k_ hs_ => Or.elim hs_ (fun e_ => (fun e_ => (HO170.out.1 k_ e_.symm).1) e_) (fun e_ => (fun e_ => (HO179.out.1 k_ e_.symm).1) e_))); have n10_ := aS_ (hb); clear HO_155000; clear HO_155001; clear BK154; clear BK155; clear HO167; clear HO176; clear BK180; clear HK; clear HB; clear HO170; clear HO179; have HO_155000 := n0_; have HO_155001 := n1_; have BK154 := n2_; have BK155 := n3_; have HO167 := n4_; have HO176 := n5_; have BK180 := n6_; have HO183 := n7_; have HO186 := n8_; have HK := n9_; have HB := n10_; clear n0_ n1_ n2_ n3_ n4_ n5_ n6_ n7_ n8_ n9_ n10_; (try clear hb); (try clear hkp); (try clear ho0); (try clear ho1)) | ((with_reducible refine gate_dst (N := 12) rfl ?_); refine box_event ?hg (N := 12) ?hd (cs := #[.slice none 0 0, .slice none 0 0]) (t := 34) ?hr ?_; (case hd => rfl); (case hg => rfl); (case hr => first | (go_simp; done) | (go_simp; rfl)); intro gb188 hg w110 hbox hb; have n0_ := aS_ (Kd.R_below (by (with_reducible repeat (first | apply rA_ | apply rN_ | apply rD_)); exact HO_155000.out) hb); have n1_ := aS_ (Kd.R_below (by (with_reducible repeat (first | apply rA_ | apply rN_ | apply rD_)); exact HO_155001.out) hb); have n2_ := aS_ (Kd.R_below (by (with_reducible repeat (first | apply rA_ | apply rN_ | apply rD_)); exact HO167.out) hb); have n3_ := aS_ (Kd.R_below (by (with_reducible repeat (first | apply rA_ | apply rN_ | apply rD_)); exact HO176.out) hb); have n4_ := aS_ (Kd.R_below (by (with_reducible repeat (first | apply rA_ | apply rN_ | apply rD_)); exact HO183.out) hb); have n5_ := aS_ (Kd.R_below (by (with_reducible repeat (first | apply rA_ | apply rN_ | apply rD_)); exact HO186.out) hb); have n6_ := aS_ (blk_below (g := gb154) (o := .cells #[.slice Ao12 l0_0.length co12, .slice Ao13 l0_1.length co13] 34 (0, 0)) (by (with_reducible repeat (first | refine kN_ ?_ _ | refine kD_ ?_ | refine kA_ ?_ _)); exact BK154.out) hb); have n7_ := aS_ (blk_below (g := gb155) (o := .cells #[.slice none 0 0, .slice none 0 0] 34 (0, 0)) (by (with_reducible repeat (first | refine kN_ ?_ _ | refine kD_ ?_ | refine kA_ ?_ _)); exact BK155.out) hb); have n8_ := aS_ (blk_below (g := gb180) (o := .cells #[.slice Ao73 y168.length co73, .slice Ao72 y177.length co72] 34 (0, 0)) (by (with_reducible repeat (first | refine kN_ ?_ _ | refine kD_ ?_ | refine kA_ ?_ _)); exact BK180.out) hb); have n9_ := aS_ (Kept.below (S := (fun k_ => P0_0_ k_ ∨ P0_1_ k_)) (by repeat (first | (with_reducible first | exact HK.out | apply Kept.alloc | apply Kept.drewN | apply Kept.drew | refine Kept.setCell ?_ (.inr GW154.out) _ | refine Kept.setCell ?_ (.inr GW155.out) _ | refine Kept.setCell ?_ (.inr GW180.out) _) | exact HK.out)) hb); have n10_ := aS_ (below_step (by repeat (first | (with_reducible first | exact HB.out | apply bA_ | apply pN_ | apply bD_ | refine bS_ ?_ GE154.out | refine bS_ ?_ GE155.out | refine bS_ ?_ GE180.out) | exact HB.out)) hb); have n11_ := aS_ (hbox); have n12_ := aS_ ((by rw [hg]; exact (by first | exact HK.out.1 | exact (show Kept w _ (fun k_ => P0_0_ k_ ∨ P0_1_ k_) from by repeat (first | (with_reducible first | exact HK.out | apply Kept.alloc | apply Kept.drewN | apply Kept.drew | refine Kept.setCell ?_ (.inr GW154.out) _ | refine Kept.setCell ?_ (.inr GW155.out) _ | refine Kept.setCell ?_ (.inr GW180.out) _) | exact HK.out)).1) : w.heap.size ≤ gb188)); have n13_ := aS_ ((by rw [hg]; exact (below_size (by repeat (first | (with_reducible first | exact HB.out | apply bA_ | apply pN_ | apply bD_ | refine bS_ ?_ GE154.out | refine bS_ ?_ GE155.out | refine bS_ ?_ GE180.out) | exact HB.out))) : w0.heap.size ≤ gb188)); have n14_ := aS_ ((by rw [hg]; exact Nat.ne_of_lt (blk_lt (g := gb154) (o := .cells #[.slice Ao12 l0_0.length co12, .slice Ao13 l0_1.length co13] 34 (0, 0)) (by (with_reducible repeat (first | refine kN_ ?_ _ | refine kD_ ?_ | refine kA_ ?_ _)); exact BK154.out)) : gb154 ≠ gb188)); have n15_ := aS_ ((by rw [hg]; exact Nat.ne_of_gt (blk_lt (g := gb154) (o := .cells #[.slice Ao12 l0_0.length co12, .slice Ao13 l0_1.length co13] 34 (0, 0)) (by (with_reducible repeat (first | refine kN_ ?_ _ | refine kD_ ?_ | refine kA_ ?_ _)); exact BK154.out)) : gb188 ≠ gb154)); have n16_ := aS_ ((by rw [hg]; exact Nat.ne_of_lt (blk_lt (g := gb155) (o := .cells #[.slice none 0 0, .slice none 0 0] 34 (0, 0)) (by (with_reducible repeat (first | refine kN_ ?_ _ | refine kD_ ?_ | refine kA_ ?_ _)); exact BK155.out)) : gb155 ≠ gb188)); have n17_ := aS_ ((by rw [hg]; exact Nat.ne_of_gt (blk_lt (g := gb155) (o := .cells #[.slice none 0 0, .slice none 0 0] 34 (0, 0)) (by (with_reducible repeat (first | refine kN_ ?_ _ | refine kD_ ?_ | refine kA_ ?_ _)); exact BK155.out)) : gb188 ≠ gb155)); have n18_ := aS_ ((by rw [hg]; exact Nat.ne_of_lt (blk_lt (g := gb180) (o := .cells #[.slice Ao73 y168.length co73, .slice Ao72 y177.length co72] 34 (0, 0)) (by (with_reducible repeat (first | refine kN_ ?_ _ | refine kD_ ?_ | refine kA_ ?_ _)); exact BK180.out)) : gb180 ≠ gb188)); have n19_ := aS_ ((by rw [hg]; exact Nat.ne_of_gt (blk_lt (g := gb180) (o := .cells #[.slice Ao73 y168.length co73, .slice Ao72 y177.length co72] 34 (0, 0)) (by (with_reducible repeat (first | refine kN_ ?_ _ | refine kD_ ?_ | refine kA_ ?_ _)); exact BK180.out)) : gb188 ≠ gb180)); clear HO_155000; clear HO_155001; clear HO167; clear HO176; clear HO183; clear HO186; clear BK154; clear BK155; clear BK180; clear HK; clear HB; have HO_155000 := n0_; have HO_155001 := n1_; have HO167 := n2_; have HO176 := n3_; have HO183 := n4_; have HO186 := n5_; have BK154 := n6_; have BK155 := n7_; have BK180 := n8_; have HK := n9_; have HB := n10_; have BK188 := n11_; have GW188 := n12_; have GE188 := n13_; have NB154_188 := n14_; have NB188_154 := n15_; have NB155_188 := n16_; have NB188_155 := n17_; have NB180_188 := n18_; have NB188_180 := n19_; clear n0_ n1_ n2_ n3_ n4_ n5_ n6_ n7_ n8_ n9_ n10_ n11_ n12_ n13_ n14_ n15_ n16_ n17_ n18_ n19_; clear hb hbox hg; obtain ⟨Ao111, co111, eo111⟩ := Kd.R_slice HO183.out; subst eo111; have hnb112 := NB188_154.out; have hnc112 := NB154_188.out; have hnb113 := NB188_155.out; have hnc113 := NB155_188.out; have hnb114 := NB188_180.out; have hnc114 := NB180_188.out; have hcz115_0 : w110.cell? ⟨gb188, 0, none⟩ = some (.slice none 0 0) := (blk_cell BK188.out 0).trans rfl; have hcz115_1 : w110.cell? ⟨gb188, 1, none⟩ = some (.slice none 0 0) := (blk_cell BK188.out 1).trans rfl; have hfz115_0 := blk_frozen BK188.out 0; have hfz115_1 := blk_frozen BK188.out 1; obtain ⟨Ao116, co116, eo116⟩ := Kd.R_slice HO186.out; subst eo116))
                   go_roundg kj33
                   case measure => have := HJ10.out; have := HK2.out; have := HK3.out; have := HJ33.out; omega
                   case rel => exact ⟨(wrap64 (x10_3 + 1)), (by first | rfl | (simp; done) | (simp [*]; done)), H', ⟨by have := HJ10.out; have := HK2.out; have := HK3.out; have := HJ33.out; omega⟩, ⟨by (with_reducible repeat (first | apply rA_ | apply rN_ | apply rD_)); exact Kd.R_mono (Kd.R_far (p := ⟨gb188, 1, none⟩) (Kd.R_far (p := ⟨gb188, 0, none⟩) (Kd.R_types HO_155000.out BK188.out (by decide)) (fun _ hk => hk.2) (.slice Ao111 t181.length co111)) (fun _ hk => hk.2) (.slice Ao116 t184.length co116)) (fun _ hk => by first | exact ⟨hk.1.1, hk.1.2.1⟩ | (simp only [hk, ne_eq, not_false_eq_true, and_self]))⟩, ⟨by (with_reducible repeat (first | apply rA_ | apply rN_ | apply rD_)); exact Kd.R_mono (Kd.R_far (p := ⟨gb188, 1, none⟩) (Kd.R_far (p := ⟨gb188, 0, none⟩) (Kd.R_types HO_155001.out BK188.out (by decide)) (fun _ hk => hk.2) (.slice Ao111 t181.length co111)) (fun _ hk => hk.2) (.slice Ao116 t184.length co116)) (fun _ hk => by first | exact ⟨hk.1.1, hk.1.2.1⟩ | (simp only [hk, ne_eq, not_false_eq_true, and_self]))⟩, ⟨by (with_reducible repeat (first | refine kN_ ?_ _ | refine kD_ ?_ | refine kA_ ?_ _)); refine blk_far ?_ NB154_188.out _; (with_reducible repeat (first | refine kN_ ?_ _ | refine kD_ ?_ | refine kA_ ?_ _)); refine blk_far ?_ NB154_188.out _; (with_reducible repeat (first | refine kN_ ?_ _ | refine kD_ ?_ | refine kA_ ?_ _)); exact BK154.out⟩, ⟨by (with_reducible repeat (first | refine kN_ ?_ _ | refine kD_ ?_ | refine kA_ ?_ _)); refine blk_far ?_ NB155_188.out _; (with_reducible repeat (first | refine kN_ ?_ _ | refine kD_ ?_ | refine kA_ ?_ _)); refine blk_far ?_ NB155_188.out _; (with_reducible repeat (first | refine kN_ ?_ _ | refine kD_ ?_ | refine kA_ ?_ _)); exact BK155.out⟩, ⟨by repeat (first | (with_reducible first | exact HK.out | apply Kept.alloc | apply Kept.drewN | apply Kept.drew | refine Kept.setCell ?_ (.inr GW154.out) _ | refine Kept.setCell ?_ (.inr GW155.out) _ | refine Kept.setCell ?_ (.inr GW180.out) _ | refine Kept.setCell ?_ (.inr GW188.out) _) | exact HK.out)⟩, ⟨by repeat (first | (with_reducible first | exact HB.out | apply bA_ | apply pN_ | apply bD_ | refine bS_ ?_ GE154.out | refine bS_ ?_ GE155.out | refine bS_ ?_ GE180.out | refine bS_ ?_ GE188.out) | exact HB.out)⟩⟩
                 ·rw [if_neg c52] at H
                  exact absurd H (by simp)
                ·rw [if_neg c50] at H
                 exact absurd H (by simp)
            ·rw [if_neg c33] at H
             have c33b0 : decide (x10_3 ≤ (l0_0.length : Int)) = false := decide_eq_false c33
             clear c33
             have H' := aS_ H
             clear H
             go_wp2
             go_roundg k3
             case measure => have := HJ10.out; have := HK2.out; have := HK3.out; omega
             case rel => exact ⟨(wrap64 (x32_2 + 1)), (by first | rfl | (simp; done) | (simp [*]; done)), H', ⟨by have := HJ10.out; have := HK2.out; have := HK3.out; omega⟩, ⟨by (with_reducible repeat (first | apply rA_ | apply rN_ | apply rD_)); exact HO_155000.out⟩, ⟨by (with_reducible repeat (first | apply rA_ | apply rN_ | apply rD_)); exact HO_155001.out⟩, ⟨by (with_reducible repeat (first | refine kN_ ?_ _ | refine kD_ ?_ | refine kA_ ?_ _)); exact BK154.out⟩, ⟨by (with_reducible repeat (first | refine kN_ ?_ _ | refine kD_ ?_ | refine kA_ ?_ _)); exact BK155.out⟩, ⟨by repeat (first | (with_reducible first | exact HK.out | apply Kept.alloc | apply Kept.drewN | apply Kept.drew | refine Kept.setCell ?_ (.inr GW154.out) _ | refine Kept.setCell ?_ (.inr GW155.out) _) | exact HK.out)⟩, ⟨by repeat (first | (with_reducible first | exact HB.out | apply bA_ | apply pN_ | apply bD_ | refine bS_ ?_ GE154.out | refine bS_ ?_ GE155.out) | exact HB.out)⟩⟩
        ·rw [if_neg c26] at H
         exact absurd H (by simp)
       ·rw [if_neg c25] at H
        exact absurd H (by simp)
      ·rw [if_neg c24] at H
       have c24b0 : decide (x32_2 < (l1.length : Int)) = false := decide_eq_false c24
       clear c24
       simp only [Option.some.injEq, Prod.mk.injEq] at H
       obtain ⟨rfl, rfl, rfl⟩ := H
       have hnb117 := NB155_154.out
       have hnc117 := NB154_155.out
       have hcz118_0 : wr.cell? ⟨gb155, 0, none⟩ = some (.slice none 0 0) := (blk_cell BK155.out 0).trans rfl
       have hcz118_1 : wr.cell? ⟨gb155, 1, none⟩ = some (.slice none 0 0) := (blk_cell BK155.out 1).trans rfl
       have hfz118_0 := blk_frozen BK155.out 0
       have hfz118_1 := blk_frozen BK155.out 1
       go_wp2
       refine bodyPost_ret (results_ct rfl _ _ gb155 34 #[.slice none 0 0, .slice none 0 0] (0, 0) _ rfl (by (with_reducible repeat (first | refine kN_ ?_ _ | refine kD_ ?_ | refine kA_ ?_ _)); refine blk_put (cs := #[.slice none 0 0, .slice none 0 0]) ?_ 1 _ rfl; (with_reducible repeat (first | refine kN_ ?_ _ | refine kD_ ?_ | refine kA_ ?_ _)); refine blk_put (cs := #[.slice none 0 0, .slice none 0 0]) ?_ 0 _ rfl; (with_reducible repeat (first | refine kN_ ?_ _ | refine kD_ ?_ | refine kA_ ?_ _)); exact BK155.out) Try.underlying34 rfl (by kernel_rfl)) rfl ?_
       exact ⟨_, _, by first | rfl | (simp [errW_none, errW_some] <;> rfl) | (simp [*, errW_none, errW_some] <;> rfl), by first | exact Kd.R_nil _ _ _ _ _ | exact Kd.N_nil _ _ _ _ _ | exact Kd.V_nil _ _ _ _ _ | exact Kd.Q_nil _ _ _ _ _ | exact Kd.S_nil _ _ _ _ _, by first | exact Kd.R_nil _ _ _ _ _ | exact Kd.N_nil _ _ _ _ _ | exact Kd.V_nil _ _ _ _ _ | exact Kd.Q_nil _ _ _ _ _ | exact Kd.S_nil _ _ _ _ _, by repeat (first | (with_reducible first | exact HB.out | apply bA_ | apply pN_ | apply bD_ | refine bS_ ?_ GE154.out | refine bS_ ?_ GE155.out) | exact HB.out), by repeat (first | (with_reducible first | exact HK.out | apply Kept.alloc | apply Kept.drewN | apply Kept.drew | refine Kept.setCell ?_ (.inr GW154.out) _ | refine Kept.setCell ?_ (.inr GW155.out) _) | exact HK.out)⟩
def impl_choose.l0 : Nat → Int → Int → Int → Int → Option (Int)
  | 0, _, _, _, _ => none
  | k + 1, x0, x5, x7, x8 => if x8 < x7 then (if (wrap64 (x8 + 1)) = 0 then (none) else (impl_choose.l0 k x0 (wrap64 (Int.tdiv (wrap64 (x5 * (wrap64 (x0 - x8)))) (wrap64 (x8 + 1)))) x7 (wrap64 (x8 + 1)))) else (some x5)
def impl_choose.f (k : Nat) (a0 : Int) (a1 : Int) : Option (Int) := impl_choose.l0 k a0 1 a1 0
theorem impl_choose.mono_l : ∀ k, (∀ y0 y1 y2 y3, LeO (impl_choose.l0 k y0 y1 y2 y3) (impl_choose.l0 (k + 1) y0 y1 y2 y3))
  | 0 => fun _ _ _ _ r h => by simp [impl_choose.l0] at h
  | k + 1 => by
    have ih0 := impl_choose.mono_l k
    · intro y0 y1 y2 y3
      unfold impl_choose.l0
      repeat' first
      | (with_reducible exact ih0 _ _ _ _)
      | (with_reducible exact LeO.refl _)
      | (with_reducible exact LeO.none _)
      | (with_reducible refine LeO.ite ?_ ?_)
      | (with_reducible refine LeO.bind ?_ (fun _ => ?_))
      | exact ih0 _ _ _ _
      | exact LeO.none _
      | refine LeO.ite ?_ ?_
      | refine LeO.bind ?_ (fun _ => ?_)
theorem impl_choose.mono : ∀ a0 a1 k, LeO (impl_choose.f k a0 a1) (impl_choose.f (k + 1) a0 a1) := by
  intro a0 a1 k
  have ih0 := impl_choose.mono_l k
  unfold impl_choose.f
  repeat' first
      | (with_reducible exact ih0 _ _ _ _)
      | (with_reducible exact LeO.refl _)
      | (with_reducible exact LeO.none _)
      | (with_reducible refine LeO.ite ?_ ?_)
      | (with_reducible refine LeO.bind ?_ (fun _ => ?_))
      | exact ih0 _ _ _ _
      | exact LeO.none _
      | refine LeO.ite ?_ ?_
      | refine LeO.bind ?_ (fun _ => ?_)
end Go.Proofs.Ytbfbgpopbcodcaa.G
