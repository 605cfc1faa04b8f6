/- The law FnExactAllRegions: part 4 of the printed functions and the facts on them that its row leans on (merged by this session's slim.py). -/
import Derived.Test.YtbfbgpopbcodcaaZFnExactAllRegions3
namespace Go.Proofs.Ytbfbgpopbcodcaa.G
open Go.RowKit Go.Proofs.YtbfbgpopbcodcaaW.PrintWords Go.Proofs.YtbfbgpopbcodcaaW.PrintLast Go.Proofs.YtbfbgpopbcodcaaW.PrintMore
attribute [local go_sem] max2_int min2_int max_two min_two max_three min_three max_four min_four   -- for this text's walks alone
set_option linter.unusedVariables false
set_option linter.unusedSimpArgs false
/-! ### impl_regionOf: function 14 -/
mutual
def impl_regionOf.j0 : Nat → List Int → Int → Int → List Int → List Int → Option (List Int × List Int × Bool)
 | 0, _, _, _, _, _ => none
 | k + 1, x0, x6, x7, x233000, x233001 => impl_regionOf.l0 k x0 x6 x7 x0 (x0.length : Int) 0 x233000 x233001
def impl_regionOf.l0 : Nat → List Int → Int → Int → List Int → Int → Int → List Int → List Int → Option (List Int × List Int × Bool)
 | 0, _, _, _, _, _, _, _, _ => none
 | k + 1, x0, x6, x7, x30, x31, x32, x233000, x233001 => if x32 < x31 then (if 0 ≤ x32 then (if x32 < (x30.length : Int) then ((slices_Contains_int_int.f k x233000 x32).bind fun t236 => (if t236 = true then (impl_regionOf.l0 k x0 x6 x7 x30 x31 (wrap64 (x32 + 1)) x233000 x233001) else (impl_regionOf.l1 k x0 x6 x7 x32 (rd x30 x32) x7 x30 x31 x32 x233000 x233001))) else (none)) else (none)) else (some (([] : List Int), ([] : List Int), false))
def impl_regionOf.j3 : Nat → List Int → Int → Int → Int → Int → Int → List Int → Int → Int → List Int → List Int → Option (List Int × List Int × Bool)
 | 0, _, _, _, _, _, _, _, _, _, _, _ => none
 | k + 1, x0, x6, x7, x8, x9, x10, x30, x31, x32, x233000, x233001 => (impl_labelAt.f x233000 x10 x8).bind fun t238 => (if t238 = x9 then ((slices_Clone_int_int.f x233000).bind fun t239 => ((some (([x8] : List Int) : List Int)).bind fun y242 => (if t239.length + y242.length < 17592186044416 then ((slices_Clone_int_int.f x233001).bind fun t248 => ((some (([x10] : List Int) : List Int)).bind fun y251 => (if t248.length + y251.length < 17592186044416 then ((impl_regionOf.f k x0 (t239 ++ y242) (t248 ++ y251)).bind fun bt258 => (if bt258.2.2 = true then (some (bt258.1, bt258.2.1, true)) else (impl_regionOf.l0 k x0 x6 x7 x30 x31 (wrap64 (x32 + 1)) x233000 x233001))) else (none)))) else (none)))) else (impl_regionOf.l0 k x0 x6 x7 x30 x31 (wrap64 (x32 + 1)) x233000 x233001))
def impl_regionOf.l1 : Nat → List Int → Int → Int → Int → Int → Int → List Int → Int → Int → List Int → List Int → Option (List Int × List Int × Bool)
 | 0, _, _, _, _, _, _, _, _, _, _, _ => none
 | k + 1, x0, x6, x7, x8, x9, x10, x30, x31, x32, x233000, x233001 => if x10 < x6 then ((impl_labelAt.f x233000 x10 x8).bind fun t237 => (if t237 < x9 then (impl_regionOf.l1 k x0 x6 x7 x8 x9 (wrap64 (x10 + 1)) x30 x31 x32 x233000 x233001) else (impl_regionOf.j3 k x0 x6 x7 x8 x9 x10 x30 x31 x32 x233000 x233001))) else (impl_regionOf.j3 k x0 x6 x7 x8 x9 x10 x30 x31 x32 x233000 x233001)
def impl_regionOf.f : Nat → List Int → List Int → List Int → Option (List Int × List Int × Bool)
 | 0, _, _, _ => none
 | k + 1, l0, l1_0, l1_1 => if (l1_0.length : Int) = (l0.length : Int) then (some (l1_0, l1_1, true)) else (if (l1_0.length : Int) > 0 then (if 0 ≤ (wrap64 ((l1_0.length : Int) - 1)) then (if (wrap64 ((l1_0.length : Int) - 1)) < (l1_1.length : Int) then (impl_regionOf.j0 k l0 (l1_0.length : Int) (rd l1_1 (wrap64 ((l1_0.length : Int) - 1))) l1_0 l1_1) else (none)) else (none)) else (impl_regionOf.j0 k l0 (l1_0.length : Int) 0 l1_0 l1_1))
end
theorem impl_regionOf.mono_l : ∀ k, (∀ y0 y1 y2, LeO (impl_regionOf.f k y0 y1 y2) (impl_regionOf.f (k + 1) y0 y1 y2)) ∧ (∀ y0 y1 y2 y3 y4, LeO (impl_regionOf.j0 k y0 y1 y2 y3 y4) (impl_regionOf.j0 (k + 1) y0 y1 y2 y3 y4)) ∧ (∀ y0 y1 y2 y3 y4 y5 y6 y7, LeO (impl_regionOf.l0 k y0 y1 y2 y3 y4 y5 y6 y7) (impl_regionOf.l0 (k + 1) y0 y1 y2 y3 y4 y5 y6 y7)) ∧ (∀ y0 y1 y2 y3 y4 y5 y6 y7 y8 y9 y10, LeO (impl_regionOf.j3 k y0 y1 y2 y3 y4 y5 y6 y7 y8 y9 y10) (impl_regionOf.j3 (k + 1) y0 y1 y2 y3 y4 y5 y6 y7 y8 y9 y10)) ∧ (∀ y0 y1 y2 y3 y4 y5 y6 y7 y8 y9 y10, LeO (impl_regionOf.l1 k y0 y1 y2 y3 y4 y5 y6 y7 y8 y9 y10) (impl_regionOf.l1 (k + 1) y0 y1 y2 y3 y4 y5 y6 y7 y8 y9 y10))
 | 0 => ⟨fun _ _ _ r h => by simp [impl_regionOf.f] at h, fun _ _ _ _ _ r h => by simp [impl_regionOf.j0] at h, fun _ _ _ _ _ _ _ _ r h => by simp [impl_regionOf.l0] at h, fun _ _ _ _ _ _ _ _ _ _ _ r h => by simp [impl_regionOf.j3] at h, fun _ _ _ _ _ _ _ _ _ _ _ r h => by simp [impl_regionOf.l1] at h⟩
 | k + 1 => by
  obtain ⟨ih0, ih1, ih2, ih3, ih4⟩ := impl_regionOf.mono_l k
  refine ⟨?_, ?_, ?_, ?_, ?_⟩
  ·intro y0 y1 y2
   unfold impl_regionOf.f
   repeat' first
   | (with_reducible exact ih0 _ _ _)
   | (with_reducible exact ih1 _ _ _ _ _)
   | (with_reducible exact ih2 _ _ _ _ _ _ _ _)
   | (with_reducible exact ih3 _ _ _ _ _ _ _ _ _ _ _)
   | (with_reducible exact ih4 _ _ _ _ _ _ _ _ _ _ _)
   | (with_reducible exact slices_Contains_int_int.mono _ _ _)
   | (with_reducible exact LeO.refl _)
   | (with_reducible exact LeO.none _)
   | (with_reducible refine LeO.ite ?_ ?_)
   | (with_reducible refine LeO.bind ?_ (fun _ => ?_))
   | exact ih0 _ _ _
   | exact ih1 _ _ _ _ _
   | exact ih2 _ _ _ _ _ _ _ _
   | exact ih3 _ _ _ _ _ _ _ _ _ _ _
   | exact ih4 _ _ _ _ _ _ _ _ _ _ _
   | exact slices_Contains_int_int.mono _ _ _
   | exact LeO.none _
   | refine LeO.ite ?_ ?_
   | refine LeO.bind ?_ (fun _ => ?_)
  ·intro y0 y1 y2 y3 y4
   unfold impl_regionOf.j0
   repeat' first
   | (with_reducible exact ih0 _ _ _)
   | (with_reducible exact ih1 _ _ _ _ _)
   | (with_reducible exact ih2 _ _ _ _ _ _ _ _)
   | (with_reducible exact ih3 _ _ _ _ _ _ _ _ _ _ _)
   | (with_reducible exact ih4 _ _ _ _ _ _ _ _ _ _ _)
   | (with_reducible exact slices_Contains_int_int.mono _ _ _)
   | (with_reducible exact LeO.refl _)
   | (with_reducible exact LeO.none _)
   | (with_reducible refine LeO.ite ?_ ?_)
   | (with_reducible refine LeO.bind ?_ (fun _ => ?_))
   | exact ih0 _ _ _
   | exact ih1 _ _ _ _ _
   | exact ih2 _ _ _ _ _ _ _ _
   | exact ih3 _ _ _ _ _ _ _ _ _ _ _
   | exact ih4 _ _ _ _ _ _ _ _ _ _ _
   | exact slices_Contains_int_int.mono _ _ _
   | exact LeO.none _
   | refine LeO.ite ?_ ?_
   | refine LeO.bind ?_ (fun _ => ?_)
  ·intro y0 y1 y2 y3 y4 y5 y6 y7
   unfold impl_regionOf.l0
   repeat' first
   | (with_reducible exact ih0 _ _ _)
   | (with_reducible exact ih1 _ _ _ _ _)
   | (with_reducible exact ih2 _ _ _ _ _ _ _ _)
   | (with_reducible exact ih3 _ _ _ _ _ _ _ _ _ _ _)
   | (with_reducible exact ih4 _ _ _ _ _ _ _ _ _ _ _)
   | (with_reducible exact slices_Contains_int_int.mono _ _ _)
   | (with_reducible exact LeO.refl _)
   | (with_reducible exact LeO.none _)
   | (with_reducible refine LeO.ite ?_ ?_)
   | (with_reducible refine LeO.bind ?_ (fun _ => ?_))
   | exact ih0 _ _ _
   | exact ih1 _ _ _ _ _
   | exact ih2 _ _ _ _ _ _ _ _
   | exact ih3 _ _ _ _ _ _ _ _ _ _ _
   | exact ih4 _ _ _ _ _ _ _ _ _ _ _
   | exact slices_Contains_int_int.mono _ _ _
   | exact LeO.none _
   | refine LeO.ite ?_ ?_
   | refine LeO.bind ?_ (fun _ => ?_)
  ·intro y0 y1 y2 y3 y4 y5 y6 y7 y8 y9 y10
   unfold impl_regionOf.j3
   repeat' first
   | (with_reducible exact ih0 _ _ _)
   | (with_reducible exact ih1 _ _ _ _ _)
   | (with_reducible exact ih2 _ _ _ _ _ _ _ _)
   | (with_reducible exact ih3 _ _ _ _ _ _ _ _ _ _ _)
   | (with_reducible exact ih4 _ _ _ _ _ _ _ _ _ _ _)
   | (with_reducible exact slices_Contains_int_int.mono _ _ _)
   | (with_reducible exact LeO.refl _)
   | (with_reducible exact LeO.none _)
   | (with_reducible refine LeO.ite ?_ ?_)
   | (with_reducible refine LeO.bind ?_ (fun _ => ?_))
   | exact ih0 _ _ _
   | exact ih1 _ _ _ _ _
   | exact ih2 _ _ _ _ _ _ _ _
   | exact ih3 _ _ _ _ _ _ _ _ _ _ _
   | exact ih4 _ _ _ _ _ _ _ _ _ _ _
   | exact slices_Contains_int_int.mono _ _ _
   | exact LeO.none _
   | refine LeO.ite ?_ ?_
   | refine LeO.bind ?_ (fun _ => ?_)
  ·intro y0 y1 y2 y3 y4 y5 y6 y7 y8 y9 y10
   unfold impl_regionOf.l1
   repeat' first
   | (with_reducible exact ih0 _ _ _)
   | (with_reducible exact ih1 _ _ _ _ _)
   | (with_reducible exact ih2 _ _ _ _ _ _ _ _)
   | (with_reducible exact ih3 _ _ _ _ _ _ _ _ _ _ _)
   | (with_reducible exact ih4 _ _ _ _ _ _ _ _ _ _ _)
   | (with_reducible exact slices_Contains_int_int.mono _ _ _)
   | (with_reducible exact LeO.refl _)
   | (with_reducible exact LeO.none _)
   | (with_reducible refine LeO.ite ?_ ?_)
   | (with_reducible refine LeO.bind ?_ (fun _ => ?_))
   | exact ih0 _ _ _
   | exact ih1 _ _ _ _ _
   | exact ih2 _ _ _ _ _ _ _ _
   | exact ih3 _ _ _ _ _ _ _ _ _ _ _
   | exact ih4 _ _ _ _ _ _ _ _ _ _ _
   | exact slices_Contains_int_int.mono _ _ _
   | exact LeO.none _
   | refine LeO.ite ?_ ?_
   | refine LeO.bind ?_ (fun _ => ?_)
theorem impl_regionOf.mono : ∀ a0 a1 a2 k, LeO (impl_regionOf.f k a0 a1 a2) (impl_regionOf.f (k + 1) a0 a1 a2) := by
 intro a0 a1 a2 k
 obtain ⟨ih0, ih1, ih2, ih3, ih4⟩ := impl_regionOf.mono_l k
 exact ih0 a0 a1 a2
def impl_regionOf.T15 : Bool × List (List Nat × List Nat) := (true, [([], []), ([0], [0]), ([1], [1]), ([], []), ([3], [3]), ([2, 4, 2], [2, 4]), ([], []), ([6], [6]), ([7, 5], [7]), ([], []), ([9], [9]), ([8, 10, 8], [8, 10]), ([5, 11], [5, 11]), ([], []), ([13, 12, 11, 0, 1, 2, 3, 4, 5, 6, 7, 8, 9, 10, 11, 12, 13], [12, 13])])
def impl_regionOf.B15 : List Nat := [0, 1, 3, 0, 8, 31, 0, 64, 255, 0, 512, 2047, 4095, 0, 16383]
theorem impl_regionOf.tab15 : rtab .any (opsOf Try.f14 15) = impl_regionOf.T15 := by kernel_rfl
theorem impl_regionOf.bits15 : waitsOk impl_regionOf.T15.2 impl_regionOf.B15 = true := by kernel_rfl
set_option maxHeartbeats 80000000 in
set_option maxRecDepth 100000 in
theorem impl_regionOf.calls (k : Nat) : ∀ (A0 : Option Addr) (c0 : Nat) (l0 : List Int) (P1_0_ : Nat → Prop) (u9000_ : Value) (l1_0 : List Int) (P1_1_ : Nat → Prop) (u9001_ : Value) (l1_1 : List Int) (r1 : List Int) (r2 : List Int) (r3 : Bool) (w0 w : World) (hB : Below w0.heap.size w0 w) (hr0 : ∀ W_, Kept w W_ (fun k_ => P1_0_ k_ ∨ P1_1_ k_) → Kd.C (Kd.int .i64) W_ A0 l0.length l0) (hc0 : l0.length ≤ c0) (ho1_0 : Kd.R (Kd.int .i64) 3 w w0.heap.size P1_0_ u9000_ l1_0) (hp1_0_1_1 : ∀ k_, P1_0_ k_ → ¬ P1_1_ k_) (ho1_1 : Kd.R (Kd.int .i64) 3 w w0.heap.size P1_1_ u9001_ l1_1) (hp1_1_1_0 : ∀ k_, P1_1_ k_ → ¬ P1_0_ k_) (h : impl_regionOf.f k l0 l1_0 l1_1 = some (r1, r2, r3)),
  Calls Try.prog 14 #[.slice A0 l0.length c0, .agg #[u9000_, u9001_]] w fun e w' => ∃ v0_ v1_ : Value, e = .returned (.tuple #[.agg #[v0_, v1_], .bool r3]) ∧ Kd.R (Kd.int .i64) 3 w' w0.heap.size (fun k_ => ((P1_0_ k_ ∨ P1_1_ k_) ∨ w.heap.size ≤ k_) ∧ some k_ ≠ (v1_ : Value).ownBlock) v0_ r1 ∧ Kd.R (Kd.int .i64) 3 w' w0.heap.size (fun k_ => ((P1_0_ k_ ∨ P1_1_ k_) ∨ w.heap.size ≤ k_) ∧ some k_ ≠ (v0_ : Value).ownBlock) v1_ r2 ∧ Below w0.heap.size w0 w' ∧ Kept w w' (fun k_ => P1_0_ k_ ∨ P1_1_ k_) := by
 induction k using Nat.strongRecOn with
 | _ k ih =>
 intro A0 c0 l0 P1_0_ u9000_ l1_0 P1_1_ u9001_ l1_1 r1 r2 r3 w0 w hB hr0 hc0 ho1_0 hp1_0_1_1 ho1_1 hp1_1_1_0 h
 cases k with
 | zero => exact absurd h (by simp [impl_regionOf.f])
 | succ k =>
 simp only [impl_regionOf.f] at h
 have hu34 := Try.underlying34
 have HR0 := aS_ hr0
 have HC0 := aS_ hc0
 clear hr0 hc0
 have HO1_0 := aS_ (show Kd.R (Kd.int .i64) 3 w w0.heap.size (fun k_ => ((P1_0_ k_ ∨ P1_1_ k_) ∨ w.heap.size ≤ k_) ∧ some k_ ≠ (u9001_ : Value).ownBlock) u9000_ l1_0 from Kd.R_mono ho1_0 (fun k_ hk => ⟨(.inl (.inl hk)), fun e_ => hp1_0_1_1 k_ hk (ho1_1.1 k_ e_.symm)⟩))
 have HO1_1 := aS_ (show Kd.R (Kd.int .i64) 3 w w0.heap.size (fun k_ => ((P1_0_ k_ ∨ P1_1_ k_) ∨ w.heap.size ≤ k_) ∧ some k_ ≠ (u9000_ : Value).ownBlock) u9001_ l1_1 from Kd.R_mono ho1_1 (fun k_ hk => ⟨(.inl (.inr hk)), fun e_ => hp1_1_1_0 k_ hk (ho1_0.1 k_ e_.symm)⟩))
 have HK := aS_ (Kept.refl w (fun k_ => P1_0_ k_ ∨ P1_1_ k_))
 have HW0 := aS_ hB.size
 have HB := aS_ hB
 clear hB
 have H : (if (l1_0.length : Int) = (l0.length : Int) then (some (l1_0, l1_1, true)) else (if (l1_0.length : Int) > 0 then (if 0 ≤ (wrap64 ((l1_0.length : Int) - 1)) then (if (wrap64 ((l1_0.length : Int) - 1)) < (l1_1.length : Int) then (impl_regionOf.j0 k l0 (l1_0.length : Int) (rd l1_1 (wrap64 ((l1_0.length : Int) - 1))) l1_0 l1_1) else (none)) else (none)) else (impl_regionOf.j0 k l0 (l1_0.length : Int) 0 l1_0 l1_1))) = some (r1, r2, r3) := h
 clear h
 by_cases c3 : (l1_0.length : Int) = (l0.length : Int)
 ·rw [if_pos c3] at H
  have c3b0 : ((l1_0.length : Int) == (l0.length : Int)) = true := beq_iff_eq.mpr c3
  have c3b1 : ((l1_0.length : Int) != (l0.length : Int)) = false := bne_eq_false_iff_eq.mpr c3
  have c3b2 : (l1_0.length == l0.length) = true := by first | simpa using c3 | (simp at c3 ⊢; omega)
  clear c3
  simp only [Option.some.injEq, Prod.mk.injEq] at H
  obtain ⟨rfl, rfl, rfl⟩ := H
  obtain ⟨Ao4, co4, eo4⟩ := Kd.R_slice HO1_0.out
  subst eo4
  obtain ⟨Ao5, co5, eo5⟩ := Kd.R_slice HO1_1.out
  subst eo5
  go_enter Try.func14, Try.ntmps14
  go_wp2_with (first | ((with_reducible refine gate_dst (N := 3) rfl ?_); refine box_event ?hg (N := 3) ?hd (cs := #[.slice Ao4 l1_0.length co4, .slice Ao5 l1_1.length co5]) (t := 34) ?hr ?_; (case hd => rfl); (case hg => rfl); (case hr => first | (go_simp; done) | (go_simp; rfl)); intro gb232 hg w6 hbox hb; have n0_ := aS_ (Kd.R_below (by (with_reducible repeat (first | apply rA_ | apply rN_ | apply rD_)); exact HO1_0.out) hb); have n1_ := aS_ (Kd.R_below (by (with_reducible repeat (first | apply rA_ | apply rN_ | apply rD_)); exact HO1_1.out) hb); have n2_ := aS_ (Kept.below (S := (fun k_ => P1_0_ k_ ∨ P1_1_ k_)) (by repeat (first | (with_reducible first | exact HK.out | apply Kept.alloc | apply Kept.drewN | apply Kept.drew) | exact HK.out)) hb); have n3_ := aS_ (below_step (by repeat (first | (with_reducible first | exact HB.out | apply bA_ | apply pN_ | apply bD_) | exact HB.out)) hb); have n4_ := aS_ (hbox); have n5_ := aS_ ((by rw [hg]; exact (by first | exact HK.out.1 | exact (show Kept w _ (fun k_ => P1_0_ k_ ∨ P1_1_ k_) from by repeat (first | (with_reducible first | exact HK.out | apply Kept.alloc | apply Kept.drewN | apply Kept.drew) | exact HK.out)).1) : w.heap.size ≤ gb232)); have n6_ := aS_ ((by rw [hg]; exact (below_size (by repeat (first | (with_reducible first | exact HB.out | apply bA_ | apply pN_ | apply bD_) | exact HB.out))) : w0.heap.size ≤ gb232)); clear HO1_0; clear HO1_1; clear HK; clear HB; have HO1_0 := n0_; have HO1_1 := n1_; have HK := n2_; have HB := n3_; have BK232 := n4_; have GW232 := n5_; have GE232 := n6_; clear n0_ n1_ n2_ n3_ n4_ n5_ n6_; clear hb hbox hg) | ((with_reducible refine gate_dst (N := 4) rfl ?_); refine box_event ?hg (N := 4) ?hd (cs := #[.slice none 0 0, .slice none 0 0]) (t := 34) ?hr ?_; (case hd => rfl); (case hg => rfl); (case hr => first | (go_simp; done) | (go_simp; rfl)); intro gb233 hg w7 hbox hb; have n0_ := aS_ (Kd.R_below (by (with_reducible repeat (first | apply rA_ | apply rN_ | apply rD_)); exact HO1_0.out) hb); have n1_ := aS_ (Kd.R_below (by (with_reducible repeat (first | apply rA_ | apply rN_ | apply rD_)); exact HO1_1.out) hb); have n2_ := aS_ (blk_below (g := gb232) (o := .cells #[.slice Ao4 l1_0.length co4, .slice Ao5 l1_1.length co5] 34 (0, 0)) (by (with_reducible repeat (first | refine kN_ ?_ _ | refine kD_ ?_ | refine kA_ ?_ _)); exact BK232.out) hb); have n3_ := aS_ (Kept.below (S := (fun k_ => P1_0_ k_ ∨ P1_1_ k_)) (by repeat (first | (with_reducible first | exact HK.out | apply Kept.alloc | apply Kept.drewN | apply Kept.drew | refine Kept.setCell ?_ (.inr GW232.out) _) | exact HK.out)) hb); have n4_ := aS_ (below_step (by repeat (first | (with_reducible first | exact HB.out | apply bA_ | apply pN_ | apply bD_ | refine bS_ ?_ GE232.out) | exact HB.out)) hb); have n5_ := aS_ (hbox); have n6_ := aS_ ((by rw [hg]; exact (by first | exact HK.out.1 | exact (show Kept w _ (fun k_ => P1_0_ k_ ∨ P1_1_ k_) from by repeat (first | (with_reducible first | exact HK.out | apply Kept.alloc | apply Kept.drewN | apply Kept.drew | refine Kept.setCell ?_ (.inr GW232.out) _) | exact HK.out)).1) : w.heap.size ≤ gb233)); have n7_ := aS_ ((by rw [hg]; exact (below_size (by repeat (first | (with_reducible first | exact HB.out | apply bA_ | apply pN_ | apply bD_ | refine bS_ ?_ GE232.out) | exact HB.out))) : w0.heap.size ≤ gb233)); have n8_ := aS_ ((by rw [hg]; exact Nat.ne_of_lt (blk_lt (g := gb232) (o := .cells #[.slice Ao4 l1_0.length co4, .slice Ao5 l1_1.length co5] 34 (0, 0)) (by (with_reducible repeat (first | refine kN_ ?_ _ | refine kD_ ?_ | refine kA_ ?_ _)); exact BK232.out)) : gb232 ≠ gb233)); have n9_ := aS_ ((by rw [hg]; exact Nat.ne_of_gt (blk_lt (g := gb232) (o := .cells #[.slice Ao4 l1_0.length co4, .slice Ao5 l1_1.length co5] 34 (0, 0)) (by (with_reducible repeat (first | refine kN_ ?_ _ | refine kD_ ?_ | refine kA_ ?_ _)); exact BK232.out)) : gb233 ≠ gb232)); clear HO1_0; clear HO1_1; clear BK232; clear HK; clear HB; have HO1_0 := n0_; have HO1_1 := n1_; have BK232 := n2_; have HK := n3_; have HB := n4_; have BK233 := n5_; have GW233 := n6_; have GE233 := n7_; have NB232_233 := n8_; have NB233_232 := n9_; clear n0_ n1_ n2_ n3_ n4_ n5_ n6_ n7_ n8_ n9_; clear hb hbox hg; have hnb8 := NB232_233.out; have hnc8 := NB233_232.out; have hcz9_0 : w7.cell? ⟨gb232, 0, none⟩ = some (.slice Ao4 l1_0.length co4) := (blk_cell BK232.out 0).trans rfl; have hcz9_1 : w7.cell? ⟨gb232, 1, none⟩ = some (.slice Ao5 l1_1.length co5) := (blk_cell BK232.out 1).trans rfl; have hfz9_0 := blk_frozen BK232.out 0; have hfz9_1 := blk_frozen BK232.out 1; have hcz10_0 : w7.cell? ⟨gb233, 0, none⟩ = some (.slice none 0 0) := (blk_cell BK233.out 0).trans rfl; have hcz10_1 : w7.cell? ⟨gb233, 1, none⟩ = some (.slice none 0 0) := (blk_cell BK233.out 1).trans rfl; have hfz10_0 := blk_frozen BK233.out 0; have hfz10_1 := blk_frozen BK233.out 1))
  refine bodyPost_ret (results_ct rfl _ _ gb233 34 #[.slice Ao4 l1_0.length co4, .slice Ao5 l1_1.length co5] (0, 0) _ rfl (by (with_reducible repeat (first | refine kN_ ?_ _ | refine kD_ ?_ | refine kA_ ?_ _)); refine blk_put (cs := #[.slice Ao4 l1_0.length co4, .slice none 0 0]) ?_ 1 _ rfl; (with_reducible repeat (first | refine kN_ ?_ _ | refine kD_ ?_ | refine kA_ ?_ _)); refine blk_put (cs := #[.slice none 0 0, .slice none 0 0]) ?_ 0 _ rfl; (with_reducible repeat (first | refine kN_ ?_ _ | refine kD_ ?_ | refine kA_ ?_ _)); exact BK233.out) Try.underlying34 rfl (by kernel_rfl)) rfl ?_
  exact ⟨_, _, by first | rfl | (simp [errW_none, errW_some] <;> rfl) | (simp [*, errW_none, errW_some] <;> rfl), by (with_reducible repeat (first | apply rA_ | apply rN_ | apply rD_)); exact Kd.R_mono (Kd.R_far (p := ⟨gb233, 1, none⟩) (Kd.R_far (p := ⟨gb233, 0, none⟩) (Kd.R_types HO1_0.out BK233.out (by decide)) (fun _ hk => hk.2) (.slice Ao4 l1_0.length co4)) (fun _ hk => hk.2) (.slice Ao5 l1_1.length co5)) (fun _ hk => by first | exact ⟨hk.1.1, hk.1.2⟩ | (simp only [hk, ne_eq, not_false_eq_true, and_self])), by (with_reducible repeat (first | apply rA_ | apply rN_ | apply rD_)); exact Kd.R_mono (Kd.R_far (p := ⟨gb233, 1, none⟩) (Kd.R_far (p := ⟨gb233, 0, none⟩) (Kd.R_types HO1_1.out BK233.out (by decide)) (fun _ hk => hk.2) (.slice Ao4 l1_0.length co4)) (fun _ hk => hk.2) (.slice Ao5 l1_1.length co5)) (fun _ hk => by first | exact ⟨hk.1.1, hk.1.2⟩ | (simp only [hk, ne_eq, not_false_eq_true, and_self])), by repeat (first | (with_reducible first | exact HB.out | apply bA_ | apply pN_ | apply bD_ | refine bS_ ?_ GE232.out | refine bS_ ?_ GE233.out) | exact HB.out), by repeat (first | (with_reducible first | exact HK.out | apply Kept.alloc | apply Kept.drewN | apply Kept.drew | refine Kept.setCell ?_ (.inr GW232.out) _ | refine Kept.setCell ?_ (.inr GW233.out) _) | exact HK.out)⟩
 ·rw [if_neg c3] at H
  have c3b0 : ((l1_0.length : Int) == (l0.length : Int)) = false := beq_eq_false_iff_ne.mpr c3
  have c3b1 : ((l1_0.length : Int) != (l0.length : Int)) = true := bne_iff_ne.mpr c3
  have c3b2 : (l1_0.length == l0.length) = false := by first | simpa using c3 | (simp at c3 ⊢; omega)
  have HC11 := aS_ H
  clear H
  obtain ⟨Ao12, co12, eo12⟩ := Kd.R_slice HO1_0.out
  subst eo12
  obtain ⟨Ao13, co13, eo13⟩ := Kd.R_slice HO1_1.out
  subst eo13
  go_enter Try.func14, Try.ntmps14
  go_upto_if 23 with (first | ((with_reducible refine gate_dst (N := 3) rfl ?_); refine box_event ?hg (N := 3) ?hd (cs := #[.slice Ao12 l1_0.length co12, .slice Ao13 l1_1.length co13]) (t := 34) ?hr ?_; (case hd => rfl); (case hg => rfl); (case hr => first | (go_simp; done) | (go_simp; rfl)); intro gb232 hg w14 hbox hb; have n0_ := aS_ (Kd.R_below (by (with_reducible repeat (first | apply rA_ | apply rN_ | apply rD_)); exact HO1_0.out) hb); have n1_ := aS_ (Kd.R_below (by (with_reducible repeat (first | apply rA_ | apply rN_ | apply rD_)); exact HO1_1.out) hb); have n2_ := aS_ (Kept.below (S := (fun k_ => P1_0_ k_ ∨ P1_1_ k_)) (by repeat (first | (with_reducible first | exact HK.out | apply Kept.alloc | apply Kept.drewN | apply Kept.drew) | exact HK.out)) hb); have n3_ := aS_ (below_step (by repeat (first | (with_reducible first | exact HB.out | apply bA_ | apply pN_ | apply bD_) | exact HB.out)) hb); have n4_ := aS_ (hbox); have n5_ := aS_ ((by rw [hg]; exact (by first | exact HK.out.1 | exact (show Kept w _ (fun k_ => P1_0_ k_ ∨ P1_1_ k_) from by repeat (first | (with_reducible first | exact HK.out | apply Kept.alloc | apply Kept.drewN | apply Kept.drew) | exact HK.out)).1) : w.heap.size ≤ gb232)); have n6_ := aS_ ((by rw [hg]; exact (below_size (by repeat (first | (with_reducible first | exact HB.out | apply bA_ | apply pN_ | apply bD_) | exact HB.out))) : w0.heap.size ≤ gb232)); clear HO1_0; clear HO1_1; clear HK; clear HB; have HO1_0 := n0_; have HO1_1 := n1_; have HK := n2_; have HB := n3_; have BK232 := n4_; have GW232 := n5_; have GE232 := n6_; clear n0_ n1_ n2_ n3_ n4_ n5_ n6_; clear hb hbox hg) | ((with_reducible refine gate_dst (N := 4) rfl ?_); refine box_event ?hg (N := 4) ?hd (cs := #[.slice none 0 0, .slice none 0 0]) (t := 34) ?hr ?_; (case hd => rfl); (case hg => rfl); (case hr => first | (go_simp; done) | (go_simp; rfl)); intro gb233 hg w15 hbox hb; have n0_ := aS_ (Kd.R_below (by (with_reducible repeat (first | apply rA_ | apply rN_ | apply rD_)); exact HO1_0.out) hb); have n1_ := aS_ (Kd.R_below (by (with_reducible repeat (first | apply rA_ | apply rN_ | apply rD_)); exact HO1_1.out) hb); have n2_ := aS_ (blk_below (g := gb232) (o := .cells #[.slice Ao12 l1_0.length co12, .slice Ao13 l1_1.length co13] 34 (0, 0)) (by (with_reducible repeat (first | refine kN_ ?_ _ | refine kD_ ?_ | refine kA_ ?_ _)); exact BK232.out) hb); have n3_ := aS_ (Kept.below (S := (fun k_ => P1_0_ k_ ∨ P1_1_ k_)) (by repeat (first | (with_reducible first | exact HK.out | apply Kept.alloc | apply Kept.drewN | apply Kept.drew | refine Kept.setCell ?_ (.inr GW232.out) _) | exact HK.out)) hb); have n4_ := aS_ (below_step (by repeat (first | (with_reducible first | exact HB.out | apply bA_ | apply pN_ | apply bD_ | refine bS_ ?_ GE232.out) | exact HB.out)) hb); have n5_ := aS_ (hbox); have n6_ := aS_ ((by rw [hg]; exact (by first | exact HK.out.1 | exact (show Kept w _ (fun k_ => P1_0_ k_ ∨ P1_1_ k_) from by repeat (first | (with_reducible first | exact HK.out | apply Kept.alloc | apply Kept.drewN | apply Kept.drew | refine Kept.setCell ?_ (.inr GW232.out) _) | exact HK.out)).1) : w.heap.size ≤ gb233)); have n7_ := aS_ ((by rw [hg]; exact (below_size (by repeat (first | (with_reducible first | exact HB.out | apply bA_ | apply pN_ | apply bD_ | refine bS_ ?_ GE232.out) | exact HB.out))) : w0.heap.size ≤ gb233)); have n8_ := aS_ ((by rw [hg]; exact Nat.ne_of_lt (blk_lt (g := gb232) (o := .cells #[.slice Ao12 l1_0.length co12, .slice Ao13 l1_1.length co13] 34 (0, 0)) (by (with_reducible repeat (first | refine kN_ ?_ _ | refine kD_ ?_ | refine kA_ ?_ _)); exact BK232.out)) : gb232 ≠ gb233)); have n9_ := aS_ ((by rw [hg]; exact Nat.ne_of_gt (blk_lt (g := gb232) (o := .cells #[.slice Ao12 l1_0.length co12, .slice Ao13 l1_1.length co13] 34 (0, 0)) (by (with_reducible repeat (first | refine kN_ ?_ _ | refine kD_ ?_ | refine kA_ ?_ _)); exact BK232.out)) : gb233 ≠ gb232)); clear HO1_0; clear HO1_1; clear BK232; clear HK; clear HB; have HO1_0 := n0_; have HO1_1 := n1_; have BK232 := n2_; have HK := n3_; have HB := n4_; have BK233 := n5_; have GW233 := n6_; have GE233 := n7_; have NB232_233 := n8_; have NB233_232 := n9_; clear n0_ n1_ n2_ n3_ n4_ n5_ n6_ n7_ n8_ n9_; clear hb hbox hg; have hnb16 := NB232_233.out; have hnc16 := NB233_232.out; have hcz17_0 : w15.cell? ⟨gb232, 0, none⟩ = some (.slice Ao12 l1_0.length co12) := (blk_cell BK232.out 0).trans rfl; have hcz17_1 : w15.cell? ⟨gb232, 1, none⟩ = some (.slice Ao13 l1_1.length co13) := (blk_cell BK232.out 1).trans rfl; have hfz17_0 := blk_frozen BK232.out 0; have hfz17_1 := blk_frozen BK232.out 1))
  (try simp only [Act.put, List.setIfInBounds_toArray, List.set_cons_zero, List.set_cons_succ])
  go_cut [7] (fun v7 wc => ∃ (kq : Nat) (x7_10 : Int), v7 = .int .i64 x7_10 ∧ Aside0 (impl_regionOf.j0 kq l0 (l1_0.length : Int) x7_10 l1_0 l1_1 = some (r1, r2, r3)) ∧ Aside0 (kq ≤ k) ∧ Aside0 (Kd.R (Kd.int .i64) 3 wc w0.heap.size (fun k_ => ((P1_0_ k_ ∨ P1_1_ k_) ∨ w.heap.size ≤ k_) ∧ some k_ ≠ ((.slice Ao13 l1_1.length co13) : Value).ownBlock) (.slice Ao12 l1_0.length co12) l1_0) ∧ Aside0 (Kd.R (Kd.int .i64) 3 wc w0.heap.size (fun k_ => ((P1_0_ k_ ∨ P1_1_ k_) ∨ w.heap.size ≤ k_) ∧ some k_ ≠ ((.slice Ao12 l1_0.length co12) : Value).ownBlock) (.slice Ao13 l1_1.length co13) l1_1) ∧ Aside0 (wc.heap[gb232]? = some (.cells #[(.slice Ao12 l1_0.length co12), (.slice Ao13 l1_1.length co13)] 34 (0, 0))) ∧ Aside0 (wc.heap[gb233]? = some (.cells #[(.slice none 0 0), (.slice none 0 0)] 34 (0, 0))) ∧ Aside0 (Kept w wc (fun k_ => P1_0_ k_ ∨ P1_1_ k_)) ∧ Aside0 (Below w0.heap.size w0 wc))
  case first =>
   have H := HC11.out
   clear HC11
   by_cases c18 : (l1_0.length : Int) > 0
   ·rw [if_pos c18] at H
    have c18b0 : decide (0 < (l1_0.length : Int)) = true := decide_eq_true c18
    have c18b1 : decide (0 < l1_0.length) = true := decide_eq_true (by omega)
    clear c18
    (first | rw [c18b0] | (simp only [i64_w, i32_w]; rw [c18b0]) | rw [c18b1] | skip)
    obtain ⟨ji19, hji19⟩ : ∃ j_ : Int, (wrap64 ((l1_0.length : Int) - 1)) = j_ := ⟨_, rfl⟩
    replace H : (if 0 ≤ (ji19) then (if (ji19) < (l1_1.length : Int) then (impl_regionOf.j0 k l0 (l1_0.length : Int) (rd l1_1 (ji19)) l1_0 l1_1) else (none)) else (none)) = some (r1, r2, r3) := by first | (rw [hji19] at H; exact H) | (simp only [hji19] at H ⊢; exact H)
    have hji19w : (IntKind.i64.wrap ((l1_0.length : Int) - 1)) = ji19 := (i64_w _).trans hji19
    by_cases c20 : 0 ≤ (ji19)
    ·rw [if_pos c20] at H
     have c20b0 : decide (0 ≤ (ji19)) = true := decide_eq_true c20
     clear c20
     by_cases c21 : (ji19) < (l1_1.length : Int)
     ·rw [if_pos c21] at H
      have c21b0 : decide ((ji19) < (l1_1.length : Int)) = true := decide_eq_true c21
      clear c21
      have H' := aS_ H
      clear H
      have hnb22 := NB232_233.out
      have hnc22 := NB233_232.out
      have hcz23_0 : w15.cell? ⟨gb232, 0, none⟩ = some (.slice Ao12 l1_0.length co12) := (blk_cell BK232.out 0).trans rfl
      have hcz23_1 : w15.cell? ⟨gb232, 1, none⟩ = some (.slice Ao13 l1_1.length co13) := (blk_cell BK232.out 1).trans rfl
      have hfz23_0 := blk_frozen BK232.out 0
      have hfz23_1 := blk_frozen BK232.out 1
      have p234 : 0 ≤ ((ji19) : Int) := of_decide_eq_true (by assumption)
      have q234 : (ji19) < (l1_1.length : Int) := of_decide_eq_true (by assumption)
      obtain ⟨ad234, e234, hx234_0⟩ := Kd.at_int (Kd.R_reads' HO1_1.out).2.2 (ji19) p234 q234
      cases e234
      replace p234 := eq_true p234
      replace q234 := eq_true q234
      go_wp2
      go_meet
      case rel => exact ⟨_, (rd l1_1 (ji19)), (by first | rfl | (simp; done) | (simp only [← hji19] <;> (first | rfl | simp)) | (simp [*]; done)), H', ⟨by first | omega | exact Nat.le_refl _⟩, ⟨by (with_reducible repeat (first | apply rA_ | apply rN_ | apply rD_)); exact HO1_0.out⟩, ⟨by (with_reducible repeat (first | apply rA_ | apply rN_ | apply rD_)); exact HO1_1.out⟩, ⟨by (with_reducible repeat (first | refine kN_ ?_ _ | refine kD_ ?_ | refine kA_ ?_ _)); exact BK232.out⟩, ⟨by (with_reducible repeat (first | refine kN_ ?_ _ | refine kD_ ?_ | refine kA_ ?_ _)); exact BK233.out⟩, ⟨by repeat (first | (with_reducible first | exact HK.out | apply Kept.alloc | apply Kept.drewN | apply Kept.drew | refine Kept.setCell ?_ (.inr GW232.out) _ | refine Kept.setCell ?_ (.inr GW233.out) _) | exact HK.out)⟩, ⟨by repeat (first | (with_reducible first | exact HB.out | apply bA_ | apply pN_ | apply bD_ | refine bS_ ?_ GE232.out | refine bS_ ?_ GE233.out) | exact HB.out)⟩⟩
     ·rw [if_neg c21] at H
      exact absurd H (by simp)
    ·rw [if_neg c20] at H
     exact absurd H (by simp)
   ·rw [if_neg c18] at H
    have c18b0 : decide (0 < (l1_0.length : Int)) = false := decide_eq_false c18
    have c18b1 : decide (0 < l1_0.length) = false := decide_eq_false (by omega)
    clear c18
    (first | rw [c18b0] | (simp only [i64_w, i32_w]; rw [c18b0]) | rw [c18b1] | skip)
    have H' := aS_ H
    clear H
    go_wp2
    go_meet
    case rel => exact ⟨_, (0), (by first | rfl | (simp; done) | (simp [*]; done)), H', ⟨by first | omega | exact Nat.le_refl _⟩, ⟨by (with_reducible repeat (first | apply rA_ | apply rN_ | apply rD_)); exact HO1_0.out⟩, ⟨by (with_reducible repeat (first | apply rA_ | apply rN_ | apply rD_)); exact HO1_1.out⟩, ⟨by (with_reducible repeat (first | refine kN_ ?_ _ | refine kD_ ?_ | refine kA_ ?_ _)); exact BK232.out⟩, ⟨by (with_reducible repeat (first | refine kN_ ?_ _ | refine kD_ ?_ | refine kA_ ?_ _)); exact BK233.out⟩, ⟨by repeat (first | (with_reducible first | exact HK.out | apply Kept.alloc | apply Kept.drewN | apply Kept.drew | refine Kept.setCell ?_ (.inr GW232.out) _ | refine Kept.setCell ?_ (.inr GW233.out) _) | exact HK.out)⟩, ⟨by repeat (first | (with_reducible first | exact HB.out | apply bA_ | apply pN_ | apply bD_ | refine bS_ ?_ GE232.out | refine bS_ ?_ GE233.out) | exact HB.out)⟩⟩
  case rest =>
   clear HC11
   try clear c1
   try clear p1
   try clear c2
   try clear p2
   try clear q2
   try clear hx2
   try clear c3
   try clear c3b0
   try clear c3b1
   try clear c3b2
   try clear p6
   try clear c8
   try clear c14
   try clear c16
   try clear c18
   try clear c18b0
   try clear c18b1
   try clear c20
   try clear c20b0
   try clear c21
   try clear c21b0
   try clear c22
   try clear p23
   try clear q23
   try clear hx23
   try clear hcz10_0
   try clear hcz10_1
   try clear hcz17_0
   try clear hcz17_1
   try clear hcz23_0
   try clear hcz23_1
   try clear hcz9_0
   try clear hcz9_1
   try clear hfz10_0
   try clear hfz10_1
   try clear hfz17_0
   try clear hfz17_1
   try clear hfz23_0
   try clear hfz23_1
   try clear hfz9_0
   try clear hfz9_1
   try clear hx234_0
   try clear p234
   try clear q234
   obtain ⟨kq, x7_10, rfl, HA, HJ10, HO_233000, HO_233001, BK232, BK233, HK, HB⟩ := hcut
   cases kq with
   | zero => exact absurd HA.out (by simp [impl_regionOf.j0])
   | succ kj10 =>
    have H := HA.out
    clear HA
    simp only [impl_regionOf.j0] at H
    have H' := aS_ H
    clear H
    go_wp2
    go_loopg [32] kj10 (fun kq v32 w' => ∃ (x32_2 : Int), v32 = .int .i64 x32_2 ∧ Aside0 (impl_regionOf.l0 kq l0 (l1_0.length : Int) x7_10 l0 (l0.length : Int) x32_2 l1_0 l1_1 = some (r1, r2, r3)) ∧ Aside0 (kq ≤ kj10) ∧ Aside0 (Kd.R (Kd.int .i64) 3 w' w0.heap.size (fun k_ => ((P1_0_ k_ ∨ P1_1_ k_) ∨ w.heap.size ≤ k_) ∧ some k_ ≠ ((.slice Ao13 l1_1.length co13) : Value).ownBlock) (.slice Ao12 l1_0.length co12) l1_0) ∧ Aside0 (Kd.R (Kd.int .i64) 3 w' w0.heap.size (fun k_ => ((P1_0_ k_ ∨ P1_1_ k_) ∨ w.heap.size ≤ k_) ∧ some k_ ≠ ((.slice Ao12 l1_0.length co12) : Value).ownBlock) (.slice Ao13 l1_1.length co13) l1_1) ∧ Aside0 (w'.heap[gb232]? = some (.cells #[(.slice Ao12 l1_0.length co12), (.slice Ao13 l1_1.length co13)] 34 (0, 0))) ∧ Aside0 (w'.heap[gb233]? = some (.cells #[(.slice none 0 0), (.slice none 0 0)] 34 (0, 0))) ∧ Aside0 (Kept w w' (fun k_ => P1_0_ k_ ∨ P1_1_ k_)) ∧ Aside0 (Below w0.heap.size w0 w'))
    case atStart => exact ⟨(0), (by first | rfl | (simp; done) | (simp [*]; done)), H', ⟨Nat.le_refl _⟩, ⟨by (with_reducible repeat (first | apply rA_ | apply rN_ | apply rD_)); exact HO_233000.out⟩, ⟨by (with_reducible repeat (first | apply rA_ | apply rN_ | apply rD_)); exact HO_233001.out⟩, ⟨by (with_reducible repeat (first | refine kN_ ?_ _ | refine kD_ ?_ | refine kA_ ?_ _)); exact BK232.out⟩, ⟨by (with_reducible repeat (first | refine kN_ ?_ _ | refine kD_ ?_ | refine kA_ ?_ _)); exact BK233.out⟩, ⟨by repeat (first | (with_reducible first | exact HK.out | apply Kept.alloc | apply Kept.drewN | apply Kept.drew | refine Kept.setCell ?_ (.inr GW232.out) _ | refine Kept.setCell ?_ (.inr GW233.out) _) | exact HK.out)⟩, ⟨by repeat (first | (with_reducible first | exact HB.out | apply bA_ | apply pN_ | apply bD_ | refine bS_ ?_ GE232.out | refine bS_ ?_ GE233.out) | exact HB.out)⟩⟩
    case round =>
     clear H'
     try clear c1
     try clear p1
     try clear c2
     try clear p2
     try clear q2
     try clear hx2
     try clear c3
     try clear c3b0
     try clear c3b1
     try clear c3b2
     try clear p6
     try clear c8
     try clear c14
     try clear c16
     try clear c18
     try clear c18b0
     try clear c18b1
     try clear c20
     try clear c20b0
     try clear c21
     try clear c21b0
     try clear c22
     try clear p23
     try clear q23
     try clear hx23
     try clear hcz10_0
     try clear hcz10_1
     try clear hcz17_0
     try clear hcz17_1
     try clear hcz23_0
     try clear hcz23_1
     try clear hcz9_0
     try clear hcz9_1
     try clear hfz10_0
     try clear hfz10_1
     try clear hfz17_0
     try clear hfz17_1
     try clear hfz23_0
     try clear hfz23_1
     try clear hfz9_0
     try clear hfz9_1
     try clear hx234_0
     try clear p1
     try clear p2
     try clear p23
     try clear p234
     try clear p6
     try clear q2
     try clear q23
     try clear q234
     obtain ⟨x32_2, rfl, HA, HK2, HO_233000, HO_233001, BK232, BK233, HK, HB⟩ := hrel
     cases gk with
     | zero => exact absurd HA.out (by simp [impl_regionOf.l0])
     | succ k2 =>
      have H := HA.out
      clear HA
      simp only [impl_regionOf.l0] at H
      by_cases c24 : x32_2 < (l0.length : Int)
      ·rw [if_pos c24] at H
       have c24b0 : decide (x32_2 < (l0.length : Int)) = true := decide_eq_true c24
       clear c24
       by_cases c25 : 0 ≤ x32_2
       ·rw [if_pos c25] at H
        have c25b0 : decide (0 ≤ x32_2) = true := decide_eq_true c25
        clear c25
        by_cases c26 : x32_2 < (l0.length : Int)
        ·rw [if_pos c26] at H
         have c26b0 : decide (x32_2 < (l0.length : Int)) = true := decide_eq_true c26
         clear c26
         replace H := Option.bind_eq_some_iff.mp H
         obtain ⟨t236, A270, H⟩ := H
         have A27 := aS_ A270
         clear A270
         by_cases c28 : t236 = true
         ·subst c28
          rw [if_pos rfl] at H
          have H' := aS_ H
          clear H
          have p235 : 0 ≤ (x32_2 : Int) := of_decide_eq_true (by assumption)
          have q235 : x32_2 < (l0.length : Int) := of_decide_eq_true (by assumption)
          obtain ⟨ad235, e235, hx235_0⟩ := Kd.at_int (Kd.C_kept_now HR0.out HK.out) x32_2 p235 q235
          cases e235
          replace p235 := eq_true p235
          replace q235 := eq_true q235
          have hnb29 := NB232_233.out
          have hnc29 := NB233_232.out
          have hcz30_0 : wr.cell? ⟨gb232, 0, none⟩ = some (.slice Ao12 l1_0.length co12) := (blk_cell BK232.out 0).trans rfl
          have hcz30_1 : wr.cell? ⟨gb232, 1, none⟩ = some (.slice Ao13 l1_1.length co13) := (blk_cell BK232.out 1).trans rfl
          have hfz30_0 := blk_frozen BK232.out 0
          have hfz30_1 := blk_frozen BK232.out 1
          go_wp2_with (first | ((with_reducible refine gate_callee (f := 24) rfl ?_); refine goesL_ (some 40) rfl rfl Try.func24 (by kernel_rfl) rfl #[.slice Ao12 l1_0.length co12, .int .i64 x32_2] rfl (by (try simp only [List.map_toArray, List.map_cons, List.map_nil]); first | done | rfl | (simp only [List.length_drop, List.length_take]; rfl)) ?_; (with_reducible refine (slices_Contains_int_int.calls k2 _ _ l1_0 x32_2 true _ ?side1 ?side2 A27.out).mono ?_); (case side1 => repeat (first | exact (Kd.R_reads' HO_233000.out).2.2 | (with_reducible refine Kd.C_alloc ?_ _) | (with_reducible refine Kd.C_drewN ?_ _) | (with_reducible refine Kd.C_drew ?_))); (case side2 => exact (Kd.R_reads' HO_233000.out).2.1); rintro e w' ⟨rfl, ⟨nd, rfl⟩⟩; refine ⟨_, rfl, ?_⟩))
          go_roundg k2
          case measure => have := HJ10.out; have := HK2.out; omega
          case rel => exact ⟨(wrap64 (x32_2 + 1)), (by first | rfl | (simp; done) | (simp [*]; done)), H', ⟨by have := HJ10.out; have := HK2.out; omega⟩, ⟨by (with_reducible repeat (first | apply rA_ | apply rN_ | apply rD_)); exact HO_233000.out⟩, ⟨by (with_reducible repeat (first | apply rA_ | apply rN_ | apply rD_)); exact HO_233001.out⟩, ⟨by (with_reducible repeat (first | refine kN_ ?_ _ | refine kD_ ?_ | refine kA_ ?_ _)); exact BK232.out⟩, ⟨by (with_reducible repeat (first | refine kN_ ?_ _ | refine kD_ ?_ | refine kA_ ?_ _)); exact BK233.out⟩, ⟨by repeat (first | (with_reducible first | exact HK.out | apply Kept.alloc | apply Kept.drewN | apply Kept.drew | refine Kept.setCell ?_ (.inr GW232.out) _ | refine Kept.setCell ?_ (.inr GW233.out) _) | exact HK.out)⟩, ⟨by repeat (first | (with_reducible first | exact HB.out | apply bA_ | apply pN_ | apply bD_ | refine bS_ ?_ GE232.out | refine bS_ ?_ GE233.out) | exact HB.out)⟩⟩
         ·replace c28 := Bool.eq_false_iff.mpr c28
          subst c28
          rw [if_neg (show ¬ (false = true) by decide)] at H
          have HC31 := aS_ H
          clear H
          have p235 : 0 ≤ (x32_2 : Int) := of_decide_eq_true (by assumption)
          have q235 : x32_2 < (l0.length : Int) := of_decide_eq_true (by assumption)
          obtain ⟨ad235, e235, hx235_0⟩ := Kd.at_int (Kd.C_kept_now HR0.out HK.out) x32_2 p235 q235
          cases e235
          replace p235 := eq_true p235
          replace q235 := eq_true q235
          have hnb32 := NB232_233.out
          have hnc32 := NB233_232.out
          have hcz33_0 : wr.cell? ⟨gb232, 0, none⟩ = some (.slice Ao12 l1_0.length co12) := (blk_cell BK232.out 0).trans rfl
          have hcz33_1 : wr.cell? ⟨gb232, 1, none⟩ = some (.slice Ao13 l1_1.length co13) := (blk_cell BK232.out 1).trans rfl
          have hfz33_0 := blk_frozen BK232.out 0
          have hfz33_1 := blk_frozen BK232.out 1
          go_upto_block 2 with (first | ((with_reducible refine gate_callee (f := 24) rfl ?_); refine goesL_ (some 40) rfl rfl Try.func24 (by kernel_rfl) rfl #[.slice Ao12 l1_0.length co12, .int .i64 x32_2] rfl (by (try simp only [List.map_toArray, List.map_cons, List.map_nil]); first | done | rfl | (simp only [List.length_drop, List.length_take]; rfl)) ?_; (with_reducible refine (slices_Contains_int_int.calls k2 _ _ l1_0 x32_2 false _ ?side1 ?side2 A27.out).mono ?_); (case side1 => repeat (first | exact (Kd.R_reads' HO_233000.out).2.2 | (with_reducible refine Kd.C_alloc ?_ _) | (with_reducible refine Kd.C_drewN ?_ _) | (with_reducible refine Kd.C_drew ?_))); (case side2 => exact (Kd.R_reads' HO_233000.out).2.1); rintro e w' ⟨rfl, ⟨nd, rfl⟩⟩; refine ⟨_, rfl, ?_⟩))
          (try simp only [Act.put, List.setIfInBounds_toArray, List.set_cons_zero, List.set_cons_succ])
          go_cut [10] (fun v10 wc => ∃ (kq : Nat) (x10_30 : Int), v10 = .int .i64 x10_30 ∧ Aside0 (impl_regionOf.j3 kq l0 (l1_0.length : Int) x7_10 x32_2 (rd l0 x32_2) x10_30 l0 (l0.length : Int) x32_2 l1_0 l1_1 = some (r1, r2, r3)) ∧ Aside0 (kq ≤ k2) ∧ Aside0 (Kd.R (Kd.int .i64) 3 wc w0.heap.size (fun k_ => ((P1_0_ k_ ∨ P1_1_ k_) ∨ w.heap.size ≤ k_) ∧ some k_ ≠ ((.slice Ao13 l1_1.length co13) : Value).ownBlock) (.slice Ao12 l1_0.length co12) l1_0) ∧ Aside0 (Kd.R (Kd.int .i64) 3 wc w0.heap.size (fun k_ => ((P1_0_ k_ ∨ P1_1_ k_) ∨ w.heap.size ≤ k_) ∧ some k_ ≠ ((.slice Ao12 l1_0.length co12) : Value).ownBlock) (.slice Ao13 l1_1.length co13) l1_1) ∧ Aside0 (wc.heap[gb232]? = some (.cells #[(.slice Ao12 l1_0.length co12), (.slice Ao13 l1_1.length co13)] 34 (0, 0))) ∧ Aside0 (wc.heap[gb233]? = some (.cells #[(.slice none 0 0), (.slice none 0 0)] 34 (0, 0))) ∧ Aside0 (Kept w wc (fun k_ => P1_0_ k_ ∨ P1_1_ k_)) ∧ Aside0 (Below w0.heap.size w0 wc))
          case first =>
           have H := HC31.out
           clear HC31
           have H' := aS_ H
           clear H
           go_wp2
           go_loopg [10] k2 (fun kq v10 w' => ∃ (x10_3 : Int), v10 = .int .i64 x10_3 ∧ Aside0 (impl_regionOf.l1 kq l0 (l1_0.length : Int) x7_10 x32_2 (rd l0 x32_2) x10_3 l0 (l0.length : Int) x32_2 l1_0 l1_1 = some (r1, r2, r3)) ∧ Aside0 (kq ≤ k2) ∧ Aside0 (Kd.R (Kd.int .i64) 3 w' w0.heap.size (fun k_ => ((P1_0_ k_ ∨ P1_1_ k_) ∨ w.heap.size ≤ k_) ∧ some k_ ≠ ((.slice Ao13 l1_1.length co13) : Value).ownBlock) (.slice Ao12 l1_0.length co12) l1_0) ∧ Aside0 (Kd.R (Kd.int .i64) 3 w' w0.heap.size (fun k_ => ((P1_0_ k_ ∨ P1_1_ k_) ∨ w.heap.size ≤ k_) ∧ some k_ ≠ ((.slice Ao12 l1_0.length co12) : Value).ownBlock) (.slice Ao13 l1_1.length co13) l1_1) ∧ Aside0 (w'.heap[gb232]? = some (.cells #[(.slice Ao12 l1_0.length co12), (.slice Ao13 l1_1.length co13)] 34 (0, 0))) ∧ Aside0 (w'.heap[gb233]? = some (.cells #[(.slice none 0 0), (.slice none 0 0)] 34 (0, 0))) ∧ Aside0 (Kept w w' (fun k_ => P1_0_ k_ ∨ P1_1_ k_)) ∧ Aside0 (Below w0.heap.size w0 w'))
           case atStart => exact ⟨(x7_10), (by first | rfl | (simp; done) | (simp [*]; done)), H', ⟨Nat.le_refl _⟩, ⟨by (with_reducible repeat (first | apply rA_ | apply rN_ | apply rD_)); exact HO_233000.out⟩, ⟨by (with_reducible repeat (first | apply rA_ | apply rN_ | apply rD_)); exact HO_233001.out⟩, ⟨by (with_reducible repeat (first | refine kN_ ?_ _ | refine kD_ ?_ | refine kA_ ?_ _)); exact BK232.out⟩, ⟨by (with_reducible repeat (first | refine kN_ ?_ _ | refine kD_ ?_ | refine kA_ ?_ _)); exact BK233.out⟩, ⟨by repeat (first | (with_reducible first | exact HK.out | apply Kept.alloc | apply Kept.drewN | apply Kept.drew | refine Kept.setCell ?_ (.inr GW232.out) _ | refine Kept.setCell ?_ (.inr GW233.out) _) | exact HK.out)⟩, ⟨by repeat (first | (with_reducible first | exact HB.out | apply bA_ | apply pN_ | apply bD_ | refine bS_ ?_ GE232.out | refine bS_ ?_ GE233.out) | exact HB.out)⟩⟩
           case round =>
            clear H'
            try clear c1
            try clear p1
            try clear c2
            try clear p2
            try clear q2
            try clear hx2
            try clear c3
            try clear c3b0
            try clear c3b1
            try clear c3b2
            try clear p6
            try clear c8
            try clear c14
            try clear c16
            try clear c18
            try clear c18b0
            try clear c18b1
            try clear c20
            try clear c20b0
            try clear c21
            try clear c21b0
            try clear c22
            try clear p23
            try clear q23
            try clear hx23
            try clear c24
            try clear c24b0
            try clear c25
            try clear c25b0
            try clear c26
            try clear c26b0
            try clear c28
            try clear c29
            try clear c32
            try clear hcz10_0
            try clear hcz10_1
            try clear hcz17_0
            try clear hcz17_1
            try clear hcz23_0
            try clear hcz23_1
            try clear hcz30_0
            try clear hcz30_1
            try clear hcz33_0
            try clear hcz33_1
            try clear hcz9_0
            try clear hcz9_1
            try clear hfz10_0
            try clear hfz10_1
            try clear hfz17_0
            try clear hfz17_1
            try clear hfz23_0
            try clear hfz23_1
            try clear hfz30_0
            try clear hfz30_1
            try clear hfz33_0
            try clear hfz33_1
            try clear hfz9_0
            try clear hfz9_1
            try clear hx234_0
            try clear hx235_0
            try clear p1
            try clear p2
            try clear p23
            try clear p234
            try clear p235
            try clear p6
            try clear q2
            try clear q23
            try clear q234
            try clear q235
            obtain ⟨x10_3, rfl, HA, HK3, HO_233000, HO_233001, BK232, BK233, HK, HB⟩ := hrel
            cases gk with
            | zero => exact absurd HA.out (by simp [impl_regionOf.l1])
            | succ k3 =>
             have H := HA.out
             clear HA
             simp only [impl_regionOf.l1] at H
             by_cases c34 : x10_3 < (l1_0.length : Int)
             ·rw [if_pos c34] at H
              have c34b0 : decide (x10_3 < (l1_0.length : Int)) = true := decide_eq_true c34
              clear c34
              (first | rw [c34b0] | (simp only [i64_w, i32_w]; rw [c34b0]) | skip)
              replace H := Option.bind_eq_some_iff.mp H
              obtain ⟨t237, A350, H⟩ := H
              have A35 := aS_ A350
              clear A350
              by_cases c36 : t237 < (rd l0 x32_2)
              ·rw [if_pos c36] at H
               have c36b0 : decide (t237 < (rd l0 x32_2)) = true := decide_eq_true c36
               clear c36
               have H' := aS_ H
               clear H
               have hnb37 := NB232_233.out
               have hnc37 := NB233_232.out
               have hcz38_0 : wr.cell? ⟨gb232, 0, none⟩ = some (.slice Ao12 l1_0.length co12) := (blk_cell BK232.out 0).trans rfl
               have hcz38_1 : wr.cell? ⟨gb232, 1, none⟩ = some (.slice Ao13 l1_1.length co13) := (blk_cell BK232.out 1).trans rfl
               have hfz38_0 := blk_frozen BK232.out 0
               have hfz38_1 := blk_frozen BK232.out 1
               go_wp2_with (first | (go_at_call 25; (with_reducible refine (impl_labelAt.calls _ _ l1_0 x10_3 x32_2 t237 _ ?side1 ?side2 A35.out).mono ?_); (case side1 => repeat (first | exact (Kd.R_reads' HO_233000.out).2.2 | (with_reducible refine Kd.C_alloc ?_ _) | (with_reducible refine Kd.C_drewN ?_ _) | (with_reducible refine Kd.C_drew ?_))); (case side2 => exact (Kd.R_reads' HO_233000.out).2.1); rintro e w39 ⟨rfl, hb⟩; have n0_ := aS_ (Kd.R_below (by (with_reducible repeat (first | apply rA_ | apply rN_ | apply rD_)); exact HO_233000.out) hb); have n1_ := aS_ (Kd.R_below (by (with_reducible repeat (first | apply rA_ | apply rN_ | apply rD_)); exact HO_233001.out) hb); have n2_ := aS_ (blk_below (g := gb232) (o := .cells #[.slice Ao12 l1_0.length co12, .slice Ao13 l1_1.length co13] 34 (0, 0)) (by (with_reducible repeat (first | refine kN_ ?_ _ | refine kD_ ?_ | refine kA_ ?_ _)); exact BK232.out) hb); have n3_ := aS_ (blk_below (g := gb233) (o := .cells #[.slice none 0 0, .slice none 0 0] 34 (0, 0)) (by (with_reducible repeat (first | refine kN_ ?_ _ | refine kD_ ?_ | refine kA_ ?_ _)); exact BK233.out) hb); have n4_ := aS_ (Kept.below (S := (fun k_ => P1_0_ k_ ∨ P1_1_ k_)) (by repeat (first | (with_reducible first | exact HK.out | apply Kept.alloc | apply Kept.drewN | apply Kept.drew | refine Kept.setCell ?_ (.inr GW232.out) _ | refine Kept.setCell ?_ (.inr GW233.out) _) | exact HK.out)) hb); have n5_ := aS_ (below_step (by repeat (first | (with_reducible first | exact HB.out | apply bA_ | apply pN_ | apply bD_ | refine bS_ ?_ GE232.out | refine bS_ ?_ GE233.out) | exact HB.out)) hb); clear HO_233000; clear HO_233001; clear BK232; clear BK233; clear HK; clear HB; have HO_233000 := n0_; have HO_233001 := n1_; have BK232 := n2_; have BK233 := n3_; have HK := n4_; have HB := n5_; clear n0_ n1_ n2_ n3_ n4_ n5_; (try clear hb); (try clear hb2); (try clear hk); (try clear hi)))
               go_roundg k3
               case measure => have := HJ10.out; have := HK2.out; have := HK3.out; omega
               case rel => exact ⟨(wrap64 (x10_3 + 1)), (by first | rfl | (simp; done) | (simp [*]; done)), H', ⟨by have := HJ10.out; have := HK2.out; have := HK3.out; omega⟩, ⟨by (with_reducible repeat (first | apply rA_ | apply rN_ | apply rD_)); exact HO_233000.out⟩, ⟨by (with_reducible repeat (first | apply rA_ | apply rN_ | apply rD_)); exact HO_233001.out⟩, ⟨by (with_reducible repeat (first | refine kN_ ?_ _ | refine kD_ ?_ | refine kA_ ?_ _)); exact BK232.out⟩, ⟨by (with_reducible repeat (first | refine kN_ ?_ _ | refine kD_ ?_ | refine kA_ ?_ _)); exact BK233.out⟩, ⟨by repeat (first | (with_reducible first | exact HK.out | apply Kept.alloc | apply Kept.drewN | apply Kept.drew | refine Kept.setCell ?_ (.inr GW232.out) _ | refine Kept.setCell ?_ (.inr GW233.out) _) | exact HK.out)⟩, ⟨by repeat (first | (with_reducible first | exact HB.out | apply bA_ | apply pN_ | apply bD_ | refine bS_ ?_ GE232.out | refine bS_ ?_ GE233.out) | exact HB.out)⟩⟩
              ·rw [if_neg c36] at H
               have c36b0 : decide (t237 < (rd l0 x32_2)) = false := decide_eq_false c36
               clear c36
               have H' := aS_ H
               clear H
               have hnb40 := NB232_233.out
               have hnc40 := NB233_232.out
               have hcz41_0 : wr.cell? ⟨gb232, 0, none⟩ = some (.slice Ao12 l1_0.length co12) := (blk_cell BK232.out 0).trans rfl
               have hcz41_1 : wr.cell? ⟨gb232, 1, none⟩ = some (.slice Ao13 l1_1.length co13) := (blk_cell BK232.out 1).trans rfl
               have hfz41_0 := blk_frozen BK232.out 0
               have hfz41_1 := blk_frozen BK232.out 1
               go_wp2_with (first | (go_at_call 25; (with_reducible refine (impl_labelAt.calls _ _ l1_0 x10_3 x32_2 t237 _ ?side1 ?side2 A35.out).mono ?_); (case side1 => repeat (first | exact (Kd.R_reads' HO_233000.out).2.2 | (with_reducible refine Kd.C_alloc ?_ _) | (with_reducible refine Kd.C_drewN ?_ _) | (with_reducible refine Kd.C_drew ?_))); (case side2 => exact (Kd.R_reads' HO_233000.out).2.1); rintro e w42 ⟨rfl, hb⟩; have n0_ := aS_ (Kd.R_below (by (with_reducible repeat (first | apply rA_ | apply rN_ | apply rD_)); exact HO_233000.out) hb); have n1_ := aS_ (Kd.R_below (by (with_reducible repeat (first | apply rA_ | apply rN_ | apply rD_)); exact HO_233001.out) hb); have n2_ := aS_ (blk_below (g := gb232) (o := .cells #[.slice Ao12 l1_0.length co12, .slice Ao13 l1_1.length co13] 34 (0, 0)) (by (with_reducible repeat (first | refine kN_ ?_ _ | refine kD_ ?_ | refine kA_ ?_ _)); exact BK232.out) hb); have n3_ := aS_ (blk_below (g := gb233) (o := .cells #[.slice none 0 0, .slice none 0 0] 34 (0, 0)) (by (with_reducible repeat (first | refine kN_ ?_ _ | refine kD_ ?_ | refine kA_ ?_ _)); exact BK233.out) hb); have n4_ := aS_ (Kept.below (S := (fun k_ => P1_0_ k_ ∨ P1_1_ k_)) (by repeat (first | (with_reducible first | exact HK.out | apply Kept.alloc | apply Kept.drewN | apply Kept.drew | refine Kept.setCell ?_ (.inr GW232.out) _ | refine Kept.setCell ?_ (.inr GW233.out) _) | exact HK.out)) hb); have n5_ := aS_ (below_step (by repeat (first | (with_reducible first | exact HB.out | apply bA_ | apply pN_ | apply bD_ | refine bS_ ?_ GE232.out | refine bS_ ?_ GE233.out) | exact HB.out)) hb); clear HO_233000; clear HO_233001; clear BK232; clear BK233; clear HK; clear HB; have HO_233000 := n0_; have HO_233001 := n1_; have BK232 := n2_; have BK233 := n3_; have HK := n4_; have HB := n5_; clear n0_ n1_ n2_ n3_ n4_ n5_; (try clear hb); (try clear hb2); (try clear hk); (try clear hi)))
               go_meet
               case rel => exact ⟨_, (x10_3), (by first | rfl | (simp; done) | (simp [*]; done)), H', ⟨by have := HJ10.out; have := HK2.out; have := HK3.out; first | omega | exact Nat.le_refl _⟩, ⟨by (with_reducible repeat (first | apply rA_ | apply rN_ | apply rD_)); exact HO_233000.out⟩, ⟨by (with_reducible repeat (first | apply rA_ | apply rN_ | apply rD_)); exact HO_233001.out⟩, ⟨by (with_reducible repeat (first | refine kN_ ?_ _ | refine kD_ ?_ | refine kA_ ?_ _)); exact BK232.out⟩, ⟨by (with_reducible repeat (first | refine kN_ ?_ _ | refine kD_ ?_ | refine kA_ ?_ _)); exact BK233.out⟩, ⟨by repeat (first | (with_reducible first | exact HK.out | apply Kept.alloc | apply Kept.drewN | apply Kept.drew | refine Kept.setCell ?_ (.inr GW232.out) _ | refine Kept.setCell ?_ (.inr GW233.out) _) | exact HK.out)⟩, ⟨by repeat (first | (with_reducible first | exact HB.out | apply bA_ | apply pN_ | apply bD_ | refine bS_ ?_ GE232.out | refine bS_ ?_ GE233.out) | exact HB.out)⟩⟩
             ·rw [if_neg c34] at H
              have c34b0 : decide (x10_3 < (l1_0.length : Int)) = false := decide_eq_false c34
              clear c34
              (first | rw [c34b0] | (simp only [i64_w, i32_w]; rw [c34b0]) | skip)
              have H' := aS_ H
              clear H
              go_wp2
              go_meet
              case rel => exact ⟨_, (x10_3), (by first | rfl | (simp; done) | (simp [*]; done)), H', ⟨by have := HJ10.out; have := HK2.out; have := HK3.out; first | omega | exact Nat.le_refl _⟩, ⟨by (with_reducible repeat (first | apply rA_ | apply rN_ | apply rD_)); exact HO_233000.out⟩, ⟨by (with_reducible repeat (first | apply rA_ | apply rN_ | apply rD_)); exact HO_233001.out⟩, ⟨by (with_reducible repeat (first | refine kN_ ?_ _ | refine kD_ ?_ | refine kA_ ?_ _)); exact BK232.out⟩, ⟨by (with_reducible repeat (first | refine kN_ ?_ _ | refine kD_ ?_ | refine kA_ ?_ _)); exact BK233.out⟩, ⟨by repeat (first | (with_reducible first | exact HK.out | apply Kept.alloc | apply Kept.drewN | apply Kept.drew | refine Kept.setCell ?_ (.inr GW232.out) _ | refine Kept.setCell ?_ (.inr GW233.out) _) | exact HK.out)⟩, ⟨by repeat (first | (with_reducible first | exact HB.out | apply bA_ | apply pN_ | apply bD_ | refine bS_ ?_ GE232.out | refine bS_ ?_ GE233.out) | exact HB.out)⟩⟩
          case rest =>
           clear HC31
           try clear c1
           try clear p1
           try clear c2
           try clear p2
           try clear q2
           try clear hx2
           try clear c3
           try clear c3b0
           try clear c3b1
           try clear c3b2
           try clear c4
           try clear p6
           try clear c8
           try clear c14
           try clear c16
           try clear c18
           try clear c18b0
           try clear c18b1
           try clear c20
           try clear c20b0
           try clear c21
           try clear c21b0
           try clear c22
           try clear p23
           try clear q23
           try clear hx23
           try clear c24
           try clear c24b0
           try clear c25
           try clear c25b0
           try clear c26
           try clear c26b0
           try clear c28
           try clear c29
           try clear c32
           try clear c34
           try clear c34b0
           try clear c36
           try clear c36b0
           try clear c37
           try clear c40
           try clear hcz10_0
           try clear hcz10_1
           try clear hcz17_0
           try clear hcz17_1
           try clear hcz23_0
           try clear hcz23_1
           try clear hcz30_0
           try clear hcz30_1
           try clear hcz33_0
           try clear hcz33_1
           try clear hcz38_0
           try clear hcz38_1
           try clear hcz41_0
           try clear hcz41_1
           try clear hcz9_0
           try clear hcz9_1
           try clear hfz10_0
           try clear hfz10_1
           try clear hfz17_0
           try clear hfz17_1
           try clear hfz23_0
           try clear hfz23_1
           try clear hfz30_0
           try clear hfz30_1
           try clear hfz33_0
           try clear hfz33_1
           try clear hfz38_0
           try clear hfz38_1
           try clear hfz41_0
           try clear hfz41_1
           try clear hfz9_0
           try clear hfz9_1
           try clear hx234_0
           try clear hx235_0
           try clear p1
           try clear p2
           try clear p23
           try clear p234
           try clear p235
           try clear p6
           try clear q2
           try clear q23
           try clear q234
           try clear q235
           obtain ⟨kq, x10_30, rfl, HA, HJ30, HO_233000, HO_233001, BK232, BK233, HK, HB⟩ := hcut
           cases kq with
           | zero => exact absurd HA.out (by simp [impl_regionOf.j3])
           | succ kj30 =>
            have H := HA.out
            clear HA
            simp only [impl_regionOf.j3] at H
            replace H := Option.bind_eq_some_iff.mp H
            obtain ⟨t238, A430, H⟩ := H
            have A43 := aS_ A430
            clear A430
            by_cases c44 : t238 = (rd l0 x32_2)
            ·rw [if_pos c44] at H
             have c44b0 : (t238 == (rd l0 x32_2)) = true := beq_iff_eq.mpr c44
             have c44b1 : (t238 != (rd l0 x32_2)) = false := bne_eq_false_iff_eq.mpr c44
             clear c44
             replace H := Option.bind_eq_some_iff.mp H
             obtain ⟨t239, A450, H⟩ := H
             have A45 := aS_ A450
             clear A450
             obtain ⟨y242, hy242⟩ : ∃ y_ : List Int, y_ = (([x32_2] : List Int)) := ⟨_, rfl⟩
             replace H : (if t239.length + y242.length < 17592186044416 then ((slices_Clone_int_int.f l1_1).bind fun t248 => ((some (([x10_30] : List Int) : List Int)).bind fun y251 => (if t248.length + y251.length < 17592186044416 then ((impl_regionOf.f kj30 l0 (t239 ++ y242) (t248 ++ y251)).bind fun bt258 => (if bt258.2.2 = true then (some (bt258.1, bt258.2.1, true)) else (impl_regionOf.l0 kj30 l0 (l1_0.length : Int) x7_10 l0 (l0.length : Int) (wrap64 (x32_2 + 1)) l1_0 l1_1))) else (none)))) else (none)) = some (r1, r2, r3) := by first | (rw [hy242]; with_reducible exact H) | (have H2_ := (Option.bind_some _ _).symm.trans H; rw [hy242]; with_reducible exact H2_) | (have H2_ := (Option.bind_some _ _).symm.trans H; with_reducible exact H2_) | with_reducible exact H | (rw [hy242]; exact H) | exact H
             have Ny242 := aS_ hy242
             clear hy242
             by_cases c46 : t239.length + y242.length < 17592186044416
             ·rw [if_pos c46] at H
              have LMc46 := aS_ c46
              clear c46
              obtain ⟨y245, hy245⟩ : ∃ y_ : List Int, y_ = (t239 ++ y242) := ⟨_, rfl⟩
              replace H : ((slices_Clone_int_int.f l1_1).bind fun t248 => ((some (([x10_30] : List Int) : List Int)).bind fun y251 => (if t248.length + y251.length < 17592186044416 then ((impl_regionOf.f kj30 l0 y245 (t248 ++ y251)).bind fun bt258 => (if bt258.2.2 = true then (some (bt258.1, bt258.2.1, true)) else (impl_regionOf.l0 kj30 l0 (l1_0.length : Int) x7_10 l0 (l0.length : Int) (wrap64 (x32_2 + 1)) l1_0 l1_1))) else (none)))) = some (r1, r2, r3) := by first | (rw [hy245]; with_reducible exact H) | (have H2_ := (Option.bind_some _ _).symm.trans H; rw [hy245]; with_reducible exact H2_) | (have H2_ := (Option.bind_some _ _).symm.trans H; with_reducible exact H2_) | with_reducible exact H | (rw [hy245]; exact H) | exact H
              have Ny245 := aS_ hy245
              clear hy245
              replace H := Option.bind_eq_some_iff.mp H
              obtain ⟨t248, A470, H⟩ := H
              have A47 := aS_ A470
              clear A470
              obtain ⟨y251, hy251⟩ : ∃ y_ : List Int, y_ = (([x10_30] : List Int)) := ⟨_, rfl⟩
              replace H : (if t248.length + y251.length < 17592186044416 then ((impl_regionOf.f kj30 l0 y245 (t248 ++ y251)).bind fun bt258 => (if bt258.2.2 = true then (some (bt258.1, bt258.2.1, true)) else (impl_regionOf.l0 kj30 l0 (l1_0.length : Int) x7_10 l0 (l0.length : Int) (wrap64 (x32_2 + 1)) l1_0 l1_1))) else (none)) = some (r1, r2, r3) := by first | (rw [hy251]; with_reducible exact H) | (have H2_ := (Option.bind_some _ _).symm.trans H; rw [hy251]; with_reducible exact H2_) | (have H2_ := (Option.bind_some _ _).symm.trans H; with_reducible exact H2_) | with_reducible exact H | (rw [hy251]; exact H) | exact H
              have Ny251 := aS_ hy251
              clear hy251
              by_cases c48 : t248.length + y251.length < 17592186044416
              ·rw [if_pos c48] at H
               have LMc48 := aS_ c48
               clear c48
               obtain ⟨y254, hy254⟩ : ∃ y_ : List Int, y_ = (t248 ++ y251) := ⟨_, rfl⟩
               replace H : ((impl_regionOf.f kj30 l0 y245 y254).bind fun bt258 => (if bt258.2.2 = true then (some (bt258.1, bt258.2.1, true)) else (impl_regionOf.l0 kj30 l0 (l1_0.length : Int) x7_10 l0 (l0.length : Int) (wrap64 (x32_2 + 1)) l1_0 l1_1))) = some (r1, r2, r3) := by first | (rw [hy254]; with_reducible exact H) | (have H2_ := (Option.bind_some _ _).symm.trans H; rw [hy254]; with_reducible exact H2_) | (have H2_ := (Option.bind_some _ _).symm.trans H; with_reducible exact H2_) | with_reducible exact H | (rw [hy254]; exact H) | exact H
               have Ny254 := aS_ hy254
               clear hy254
               replace H := Option.bind_eq_some_iff.mp H
               obtain ⟨⟨t258, t261, t264⟩, A490, H⟩ := H
               have A49 := aS_ A490
               clear A490
               have Hc50 := aS_ H
               clear H
               have hnb51 := NB232_233.out
               have hnc51 := NB233_232.out
               have hcz52_0 : wc.cell? ⟨gb232, 0, none⟩ = some (.slice Ao12 l1_0.length co12) := (blk_cell BK232.out 0).trans rfl
               have hcz52_1 : wc.cell? ⟨gb232, 1, none⟩ = some (.slice Ao13 l1_1.length co13) := (blk_cell BK232.out 1).trans rfl
               have hfz52_0 := blk_frozen BK232.out 0
               have hfz52_1 := blk_frozen BK232.out 1
               try go_wp2_with (first | ((with_reducible refine gate_callee (f := 25) rfl ?_); refine goesL_ (some 60) rfl rfl Try.func25 (by kernel_rfl) rfl #[.slice Ao12 l1_0.length co12, .int .i64 x10_30, .int .i64 x32_2] rfl (by (try simp only [List.map_toArray, List.map_cons, List.map_nil]); first | done | rfl | (simp only [List.length_drop, List.length_take]; rfl)) ?_; (with_reducible refine (impl_labelAt.calls _ _ l1_0 x10_30 x32_2 t238 _ ?side1 ?side2 A43.out).mono ?_); (case side1 => repeat (first | exact (Kd.R_reads' HO_233000.out).2.2 | (with_reducible refine Kd.C_alloc ?_ _) | (with_reducible refine Kd.C_drewN ?_ _) | (with_reducible refine Kd.C_drew ?_))); (case side2 => exact (Kd.R_reads' HO_233000.out).2.1); rintro e w53 ⟨rfl, hb⟩; refine ⟨_, rfl, ?_⟩; have n0_ := aS_ (Kd.R_below (by (with_reducible repeat (first | apply rA_ | apply rN_ | apply rD_)); exact HO_233000.out) hb); have n1_ := aS_ (Kd.R_below (by (with_reducible repeat (first | apply rA_ | apply rN_ | apply rD_)); exact HO_233001.out) hb); have n2_ := aS_ (blk_below (g := gb232) (o := .cells #[.slice Ao12 l1_0.length co12, .slice Ao13 l1_1.length co13] 34 (0, 0)) (by (with_reducible repeat (first | refine kN_ ?_ _ | refine kD_ ?_ | refine kA_ ?_ _)); exact BK232.out) hb); have n3_ := aS_ (blk_below (g := gb233) (o := .cells #[.slice none 0 0, .slice none 0 0] 34 (0, 0)) (by (with_reducible repeat (first | refine kN_ ?_ _ | refine kD_ ?_ | refine kA_ ?_ _)); exact BK233.out) hb); have n4_ := aS_ (Kept.below (S := (fun k_ => P1_0_ k_ ∨ P1_1_ k_)) (by repeat (first | (with_reducible first | exact HK.out | apply Kept.alloc | apply Kept.drewN | apply Kept.drew | refine Kept.setCell ?_ (.inr GW232.out) _ | refine Kept.setCell ?_ (.inr GW233.out) _) | exact HK.out)) hb); have n5_ := aS_ (below_step (by repeat (first | (with_reducible first | exact HB.out | apply bA_ | apply pN_ | apply bD_ | refine bS_ ?_ GE232.out | refine bS_ ?_ GE233.out) | exact HB.out)) hb); clear HO_233000; clear HO_233001; clear BK232; clear BK233; clear HK; clear HB; have HO_233000 := n0_; have HO_233001 := n1_; have BK232 := n2_; have BK233 := n3_; have HK := n4_; have HB := n5_; clear n0_ n1_ n2_ n3_ n4_ n5_; (try clear hb); (try clear hb2); (try clear hk); (try clear hi)))
               have n0_ := aS_ (rD_ HO_233000.out)
               have n1_ := aS_ (rD_ HO_233001.out)
               have n2_ := aS_ (kD_ BK232.out)
               have n3_ := aS_ (kD_ BK233.out)
               have n4_ := aS_ (Kept.drew HK.out)
               have n5_ := aS_ (bD_ HB.out)
               clear HO_233000 HO_233001 BK232 BK233 HK HB
               have HO_233000 := n0_
               have HO_233001 := n1_
               have BK232 := n2_
               have BK233 := n3_
               have HK := n4_
               have HB := n5_
               clear n0_ n1_ n2_ n3_ n4_ n5_
               refine start_ (n := 15) (S := fun w' => True) (ds := []) #[false, false, false, false, false, false, false, false, false, false, false, false, false, false, false] (by kernel_rfl) rfl rfl trivial (fun hHeld => ?_); refine with_tabW impl_regionOf.tab15 impl_regionOf.bits15 (fun HT_ HW_ => ?_)
               generalize w53.drew = w54 at HO_233000 HO_233001 BK232 BK233 HK HB hHeld ⊢
               refine pure_ (i := 0) (N := some 63) (v := ?_) (a' := ?_) #[true, false, false, false, false, false, false, false, false, false, false, false, false, false, false] rfl rfl (any_of HT_.out (by kernel_rfl)) (fun _ _ _ h => h) (Or.inl ⟨by rfl, ?_⟩) ?_ ?_
               rotate_left
               ·intro w'
                go_simp
                with_reducible rfl
               rotate_left
               ·simp only [Act.put, List.setIfInBounds_toArray, List.set_cons_zero, List.set_cons_succ, i64_w, i32_w]
                rfl
               refine pure_ (i := 3) (N := some 66) (v := ?_) (a' := ?_) #[true, false, false, true, false, false, false, false, false, false, false, false, false, false, false] rfl rfl (any_of HT_.out (by kernel_rfl)) (fun _ _ _ h => h) (Or.inl ⟨by rfl, ?_⟩) ?_ ?_
               rotate_left
               ·intro w'
                go_simp
                with_reducible rfl
               rotate_left
               ·simp only [Act.put, List.setIfInBounds_toArray, List.set_cons_zero, List.set_cons_succ, i64_w, i32_w]
                rfl
               refine pure_ (i := 6) (N := some 69) (v := ?_) (a' := ?_) #[true, false, false, true, false, false, true, false, false, false, false, false, false, false, false] rfl rfl (any_of HT_.out (by kernel_rfl)) (fun _ _ _ h => h) (Or.inl ⟨by rfl, ?_⟩) ?_ ?_
               rotate_left
               ·intro w'
                go_simp
                with_reducible rfl
               rotate_left
               ·simp only [Act.put, List.setIfInBounds_toArray, List.set_cons_zero, List.set_cons_succ, i64_w, i32_w]
                rfl
               refine pure_ (i := 9) (N := some 72) (v := ?_) (a' := ?_) #[true, false, false, true, false, false, true, false, false, true, false, false, false, false, false] rfl rfl (any_of HT_.out (by kernel_rfl)) (fun _ _ _ h => h) (Or.inl ⟨by rfl, ?_⟩) ?_ ?_
               rotate_left
               ·intro w'
                go_simp
                with_reducible rfl
               rotate_left
               ·simp only [Act.put, List.setIfInBounds_toArray, List.set_cons_zero, List.set_cons_succ, i64_w, i32_w]
                rfl
               refine inv_at [1, 2, 4, 5, 7, 8, 10, 11, 12, 13, 14] (fun a0_ b a w' => ∃ (v240 : Value) (v243 : Value) (v246 : Value) (v249 : Value) (v252 : Value) (v255 : Value) (gb257 : Nat) (m12_ : Value) (m13_ : Value), a = putSel a0_ b [(1, 64, .slice Ao12 l1_0.length co12), (2, 65, v240), (4, 67, v243), (5, 68, v246), (7, 70, .slice Ao13 l1_1.length co13), (8, 71, v249), (10, 73, v252), (11, 74, v255), (12, 75, m12_), (13, 11, m13_)] ∧ (Kd.R (Kd.int .i64) 3 w' w0.heap.size (fun k_ => ((P1_0_ k_ ∨ P1_1_ k_) ∨ w.heap.size ≤ k_) ∧ some k_ ≠ (.slice Ao13 l1_1.length co13 : Value).ownBlock) (.slice Ao12 l1_0.length co12) l1_0) ∧ (Kd.R (Kd.int .i64) 3 w' w0.heap.size (fun k_ => ((P1_0_ k_ ∨ P1_1_ k_) ∨ w.heap.size ≤ k_) ∧ some k_ ≠ (.slice Ao12 l1_0.length co12 : Value).ownBlock) (.slice Ao13 l1_1.length co13) l1_1) ∧ (w'.heap[gb232]? = some (.cells #[.slice Ao12 l1_0.length co12, .slice Ao13 l1_1.length co13] 34 (0, 0))) ∧ (w'.heap[gb233]? = some (.cells #[.slice none 0 0, .slice none 0 0] 34 (0, 0))) ∧ (Kept w w' (fun k_ => P1_0_ k_ ∨ P1_1_ k_)) ∧ (Below w0.heap.size w0 w') ∧ (b 2 = true → b 5 = false → Kd.R (Kd.int .i64) 3 w' w0.heap.size (fun k_ => ((P1_0_ k_ ∨ P1_1_ k_) ∨ w.heap.size ≤ k_) ∧ some k_ ≠ (.slice Ao12 l1_0.length co12 : Value).ownBlock ∧ some k_ ≠ (.slice Ao13 l1_1.length co13 : Value).ownBlock) v240 t239) ∧ (b 4 = true → Kd.R (Kd.int .i64) 3 w' w0.heap.size (fun k_ => ((P1_0_ k_ ∨ P1_1_ k_) ∨ w.heap.size ≤ k_) ∧ some k_ ≠ (.slice Ao12 l1_0.length co12 : Value).ownBlock ∧ some k_ ≠ (.slice Ao13 l1_1.length co13 : Value).ownBlock) v243 y242) ∧ (b 5 = true → Kd.R (Kd.int .i64) 3 w' w0.heap.size (fun k_ => ((P1_0_ k_ ∨ P1_1_ k_) ∨ w.heap.size ≤ k_) ∧ some k_ ≠ (.slice Ao12 l1_0.length co12 : Value).ownBlock ∧ some k_ ≠ (.slice Ao13 l1_1.length co13 : Value).ownBlock) v246 y245) ∧ (b 8 = true → b 11 = false → Kd.R (Kd.int .i64) 3 w' w0.heap.size (fun k_ => ((P1_0_ k_ ∨ P1_1_ k_) ∨ w.heap.size ≤ k_) ∧ some k_ ≠ (.slice Ao12 l1_0.length co12 : Value).ownBlock ∧ some k_ ≠ (.slice Ao13 l1_1.length co13 : Value).ownBlock) v249 t248) ∧ (b 10 = true → Kd.R (Kd.int .i64) 3 w' w0.heap.size (fun k_ => ((P1_0_ k_ ∨ P1_1_ k_) ∨ w.heap.size ≤ k_) ∧ some k_ ≠ (.slice Ao12 l1_0.length co12 : Value).ownBlock ∧ some k_ ≠ (.slice Ao13 l1_1.length co13 : Value).ownBlock) v252 y251) ∧ (b 11 = true → Kd.R (Kd.int .i64) 3 w' w0.heap.size (fun k_ => ((P1_0_ k_ ∨ P1_1_ k_) ∨ w.heap.size ≤ k_) ∧ some k_ ≠ (.slice Ao12 l1_0.length co12 : Value).ownBlock ∧ some k_ ≠ (.slice Ao13 l1_1.length co13 : Value).ownBlock) v255 y254) ∧ (b 13 = true → b 14 = false → w'.heap[gb257]? = some (.cells #[.slice none 0 0, .slice none 0 0] 34 (0, 0))) ∧ (b 13 = true → w.heap.size ≤ gb257) ∧ (b 13 = true → w0.heap.size ≤ gb257) ∧ (b 13 = true → gb232 ≠ gb257) ∧ (b 13 = true → gb257 ≠ gb232) ∧ (b 13 = true → gb233 ≠ gb257) ∧ (b 13 = true → gb257 ≠ gb233) ∧ (b 14 = true → w'.heap[gb257]? = some (.cells #[v246, v255] 34 (0, 0))) ∧ (b 12 = true → (m12_ : Value) = .agg #[v246, v255]) ∧ (b 13 = true → (m13_ : Value) = .pointer (some ⟨gb257, 0, none⟩)) ∧ (b 2 = true → b 5 = false → b 4 = true → ∀ k_ : Nat, (v240 : Value).ownBlock = some k_ → (v243 : Value).ownBlock = some k_ → False) ∧ (b 2 = true → b 5 = false → b 8 = true → b 11 = false → ∀ k_ : Nat, (v240 : Value).ownBlock = some k_ → (v249 : Value).ownBlock = some k_ → False) ∧ (b 2 = true → b 5 = false → b 10 = true → ∀ k_ : Nat, (v240 : Value).ownBlock = some k_ → (v252 : Value).ownBlock = some k_ → False) ∧ (b 2 = true → b 5 = false → b 11 = true → ∀ k_ : Nat, (v240 : Value).ownBlock = some k_ → (v255 : Value).ownBlock = some k_ → False) ∧ (b 4 = true → b 5 = true → ∀ k_ : Nat, (v243 : Value).ownBlock = some k_ → (v246 : Value).ownBlock = some k_ → False) ∧ (b 4 = true → b 8 = true → b 11 = false → ∀ k_ : Nat, (v243 : Value).ownBlock = some k_ → (v249 : Value).ownBlock = some k_ → False) ∧ (b 4 = true → b 10 = true → ∀ k_ : Nat, (v243 : Value).ownBlock = some k_ → (v252 : Value).ownBlock = some k_ → False) ∧ (b 4 = true → b 11 = true → ∀ k_ : Nat, (v243 : Value).ownBlock = some k_ → (v255 : Value).ownBlock = some k_ → False) ∧ (b 5 = true → b 8 = true → b 11 = false → ∀ k_ : Nat, (v246 : Value).ownBlock = some k_ → (v249 : Value).ownBlock = some k_ → False) ∧ (b 5 = true → b 10 = true → ∀ k_ : Nat, (v246 : Value).ownBlock = some k_ → (v252 : Value).ownBlock = some k_ → False) ∧ (b 5 = true → b 11 = true → ∀ k_ : Nat, (v246 : Value).ownBlock = some k_ → (v255 : Value).ownBlock = some k_ → False) ∧ (b 8 = true → b 11 = false → b 10 = true → ∀ k_ : Nat, (v249 : Value).ownBlock = some k_ → (v252 : Value).ownBlock = some k_ → False) ∧ (b 10 = true → b 11 = true → ∀ k_ : Nat, (v252 : Value).ownBlock = some k_ → (v255 : Value).ownBlock = some k_ → False)) HT_.out HW_.out (by kernel_rfl) (by kernel_rfl) ?_ ?_ ?_
               ·exact ⟨.bool false, .bool false, .bool false, .bool false, .bool false, .bool false, 0, .bool false, .bool false, by simp only [putSel, Bool.false_eq_true, if_false], HO_233000.out, HO_233001.out, BK232.out, BK233.out, HK.out, HB.out, fun h_ => absurd h_ (by decide), fun h_ => absurd h_ (by decide), fun h_ => absurd h_ (by decide), fun h_ => absurd h_ (by decide), fun h_ => absurd h_ (by decide), fun h_ => absurd h_ (by decide), fun h_ => absurd h_ (by decide), fun h_ => absurd h_ (by decide), fun h_ => absurd h_ (by decide), fun h_ => absurd h_ (by decide), fun h_ => absurd h_ (by decide), fun h_ => absurd h_ (by decide), fun h_ => absurd h_ (by decide), fun h_ => absurd h_ (by decide), fun h_ => absurd h_ (by decide), fun h_ => absurd h_ (by decide), fun h_ => absurd h_ (by decide), fun h_ => absurd h_ (by decide), fun h_ => absurd h_ (by decide), fun h_ => absurd h_ (by decide), fun h_ => absurd h_ (by decide), fun h_ => absurd h_ (by decide), fun h_ => absurd h_ (by decide), fun h_ => absurd h_ (by decide), fun h_ => absurd h_ (by decide), fun h_ => absurd h_ (by decide), fun h_ => absurd h_ (by decide), fun h_ => absurd h_ (by decide), fun h_ => absurd h_ (by decide)⟩
               ·skip
                clear BK232 BK233 HB HK HO_233000 HO_233001
                refine steps_cons ?_ ?_
                ·rintro b a w' ⟨v240, v243, v246, v249, v252, v255, gb257, m12_, m13_, ha, Q_HO_233000, Q_HO_233001, Q_BK232, Q_BK233, Q_HK, Q_HB, Q_HO241, Q_HO244, Q_HO247, Q_HO250, Q_HO253, Q_HO256, Q_BK257, Q_GW257, Q_GE257, Q_NB232_257, Q_NB257_232, Q_NB233_257, Q_NB257_233, Q_BK257_e14, Q_X12_, Q_X13_, Q_D_HO241_HO244, Q_D_HO241_HO250, Q_D_HO241_HO253, Q_D_HO241_HO256, Q_D_HO244_HO247, Q_D_HO244_HO250, Q_D_HO244_HO253, Q_D_HO244_HO256, Q_D_HO247_HO250, Q_D_HO247_HO253, Q_D_HO247_HO256, Q_D_HO250_HO253, Q_D_HO253_HO256⟩ hb_ hon hoff
                 refine ⟨_, rfl, fun K hK => ?_⟩
                 have e63 : a.tmps[63]? = some (.pointer (some ⟨gb232, 0, none⟩)) := by rw [ha]; exact (putSel_off rfl).trans rfl
                 replace ha := aS_ ha
                 have HO_233000 := aS_ Q_HO_233000
                 have HO_233001 := aS_ Q_HO_233001
                 have BK232 := aS_ Q_BK232
                 have BK233 := aS_ Q_BK233
                 have HK := aS_ Q_HK
                 have HB := aS_ Q_HB
                 have hc0_ : w'.cell? ⟨gb232, 0, none⟩ = some (.slice Ao12 l1_0.length co12) := (blk_cell BK232.out 0).trans rfl
                 have hc1_ : w'.cell? ⟨gb232, 1, none⟩ = some (.slice Ao13 l1_1.length co13) := (blk_cell BK232.out 1).trans rfl
                 refine value_ (w1 := w') (v := .slice Ao12 l1_0.length co12) (by rfl) rfl ?_ ?_
                 ·go_simp
                  (try simp only [i64_w])
                  try rfl
                 refine hK.out _ _ ⟨v240, v243, v246, v249, v252, v255, gb257, m12_, m13_, (by rw [ha.out]; exact putSel_upk 0 hb_ rfl rfl rfl), Q_HO_233000, Q_HO_233001, Q_BK232, Q_BK233, Q_HK, Q_HB, fun h0_ _ => absurd ((hoff 2 (by kernel_rfl)).symm.trans h0_) (by decide), Q_HO244, fun h0_ => absurd ((hoff 5 (by kernel_rfl)).symm.trans h0_) (by decide), fun h0_ _ => absurd ((hoff 8 (by kernel_rfl)).symm.trans h0_) (by decide), Q_HO253, fun h0_ => absurd ((hoff 11 (by kernel_rfl)).symm.trans h0_) (by decide), Q_BK257, Q_GW257, Q_GE257, Q_NB232_257, Q_NB257_232, Q_NB233_257, Q_NB257_233, fun h0_ => absurd ((hoff 14 (by kernel_rfl)).symm.trans h0_) (by decide), fun h0_ => absurd ((hoff 12 (by kernel_rfl)).symm.trans h0_) (by decide), Q_X13_, Q_D_HO241_HO244, Q_D_HO241_HO250, Q_D_HO241_HO253, Q_D_HO241_HO256, Q_D_HO244_HO247, Q_D_HO244_HO250, Q_D_HO244_HO253, Q_D_HO244_HO256, Q_D_HO247_HO250, Q_D_HO247_HO253, Q_D_HO247_HO256, Q_D_HO250_HO253, Q_D_HO253_HO256⟩
                refine steps_cons ?_ ?_
                ·rintro b a w' ⟨v240, v243, v246, v249, v252, v255, gb257, m12_, m13_, ha, Q_HO_233000, Q_HO_233001, Q_BK232, Q_BK233, Q_HK, Q_HB, Q_HO241, Q_HO244, Q_HO247, Q_HO250, Q_HO253, Q_HO256, Q_BK257, Q_GW257, Q_GE257, Q_NB232_257, Q_NB257_232, Q_NB233_257, Q_NB257_233, Q_BK257_e14, Q_X12_, Q_X13_, Q_D_HO241_HO244, Q_D_HO241_HO250, Q_D_HO241_HO253, Q_D_HO241_HO256, Q_D_HO244_HO247, Q_D_HO244_HO250, Q_D_HO244_HO253, Q_D_HO244_HO256, Q_D_HO247_HO250, Q_D_HO247_HO253, Q_D_HO247_HO256, Q_D_HO250_HO253, Q_D_HO253_HO256⟩ hb_ hon hoff
                 refine ⟨_, rfl, fun K hK => ?_⟩
                 have e64 : a.tmps[64]? = some (.slice Ao12 l1_0.length co12) := by rw [ha]; exact putSel_on (e := (1, 64, .slice Ao12 l1_0.length co12)) 0 rfl rfl (hon 1 (by kernel_rfl)) rfl
                 replace ha := aS_ ha
                 have HO_233000 := aS_ Q_HO_233000
                 have HO_233001 := aS_ Q_HO_233001
                 have BK232 := aS_ Q_BK232
                 have BK233 := aS_ Q_BK233
                 have HK := aS_ Q_HK
                 have HB := aS_ Q_HB
                 refine goes_ Try.func26 (by kernel_rfl) rfl #[.slice Ao12 l1_0.length co12] (by rfl) rfl rfl (by first | (simp only [List.map_toArray, List.map_cons, List.map_nil, Act.eval, Array.getD_eq_getD_getElem?, Option.getD_some, e64]; done) | (simp only [List.map_toArray, List.map_cons, List.map_nil, Act.eval, Array.getD_eq_getD_getElem?, Option.getD_some, e64]; rfl)) ?_
                 with_reducible refine (slices_Clone_int_int.calls _ _ l1_0 t239 _ ?side1 ?side2 A45.out).mono ?_
                 (case side1 => repeat (first | exact (Kd.R_reads' HO_233000.out).2.2 | (with_reducible refine Kd.C_alloc ?_ _) | (with_reducible refine Kd.C_drewN ?_ _) | (with_reducible refine Kd.C_drew ?_)))
                 (case side2 => exact (Kd.R_reads' HO_233000.out).2.1)
                 rintro e w55 ⟨v240, rfl, ho0, hb⟩
                 have DN_HO244 := fun (h0_ : b 4 = true) (k_ : Nat) (e1_ : (v240 : Value).ownBlock = some k_) (e2_ : (v243 : Value).ownBlock = some k_) => (show False from Kd.fresh' (Kd.R_lt (Q_HO244 h0_)) k_ (Kd.R_base ho0 k_ e1_) e2_.symm)
                 have DN_HO250 := fun (h0_ : b 8 = true) (h1_ : b 11 = false) (k_ : Nat) (e1_ : (v240 : Value).ownBlock = some k_) (e2_ : (v249 : Value).ownBlock = some k_) => (show False from Kd.fresh' (Kd.R_lt (Q_HO250 h0_ h1_)) k_ (Kd.R_base ho0 k_ e1_) e2_.symm)
                 have DN_HO253 := fun (h0_ : b 10 = true) (k_ : Nat) (e1_ : (v240 : Value).ownBlock = some k_) (e2_ : (v252 : Value).ownBlock = some k_) => (show False from Kd.fresh' (Kd.R_lt (Q_HO253 h0_)) k_ (Kd.R_base ho0 k_ e1_) e2_.symm)
                 have DN_HO256 := fun (h0_ : b 11 = true) (k_ : Nat) (e1_ : (v240 : Value).ownBlock = some k_) (e2_ : (v255 : Value).ownBlock = some k_) => (show False from Kd.fresh' (Kd.R_lt (Q_HO256 h0_)) k_ (Kd.R_base ho0 k_ e1_) e2_.symm)
                 refine ⟨_, rfl, ?_⟩
                 have n0_ := aS_ (Kd.R_elder' (by (with_reducible repeat (first | apply rA_ | apply rN_ | apply rD_)); exact HO_233000.out) (Kd.R_base ho0) hb)
                 have n1_ := aS_ (Kd.R_elder' (by (with_reducible repeat (first | apply rA_ | apply rN_ | apply rD_)); exact HO_233001.out) (Kd.R_base ho0) hb)
                 have n2_ := aS_ (Kd.R_lower (Kd.R_new' (Kd.R_new' (Kd.R_newM (M := fun k_ => ((P1_0_ k_ ∨ P1_1_ k_) ∨ w.heap.size ≤ k_)) ho0 (by first | exact HK.out.1 | exact (show Kept w _ (fun k_ => P1_0_ k_ ∨ P1_1_ k_) from by repeat (first | (with_reducible first | exact HK.out | apply Kept.alloc | apply Kept.drewN | apply Kept.drew | refine Kept.setCell ?_ (.inr GW232.out) _ | refine Kept.setCell ?_ (.inr GW233.out) _) | exact HK.out)).1) (fun k_ h_ => .inr h_)) (Kd.R_lt (by (with_reducible repeat (first | apply rA_ | apply rN_ | apply rD_)); exact HO_233000.out))) (Kd.R_lt (by (with_reducible repeat (first | apply rA_ | apply rN_ | apply rD_)); exact HO_233001.out))) (below_size (by repeat (first | (with_reducible first | exact HB.out | apply bA_ | apply pN_ | apply bD_ | refine bS_ ?_ GE232.out | refine bS_ ?_ GE233.out) | exact HB.out))))
                 have n3_ := aS_ (blk_below (g := gb232) (o := .cells #[.slice Ao12 l1_0.length co12, .slice Ao13 l1_1.length co13] 34 (0, 0)) (by (with_reducible repeat (first | refine kN_ ?_ _ | refine kD_ ?_ | refine kA_ ?_ _)); exact BK232.out) hb)
                 have n4_ := aS_ (blk_below (g := gb233) (o := .cells #[.slice none 0 0, .slice none 0 0] 34 (0, 0)) (by (with_reducible repeat (first | refine kN_ ?_ _ | refine kD_ ?_ | refine kA_ ?_ _)); exact BK233.out) hb)
                 have n5_ := aS_ (Kept.below (S := (fun k_ => P1_0_ k_ ∨ P1_1_ k_)) (by repeat (first | (with_reducible first | exact HK.out | apply Kept.alloc | apply Kept.drewN | apply Kept.drew | refine Kept.setCell ?_ (.inr GW232.out) _ | refine Kept.setCell ?_ (.inr GW233.out) _) | exact HK.out)) hb)
                 have n6_ := aS_ (below_step (by repeat (first | (with_reducible first | exact HB.out | apply bA_ | apply pN_ | apply bD_ | refine bS_ ?_ GE232.out | refine bS_ ?_ GE233.out) | exact HB.out)) hb)
                 have z_HO244 := fun (h0_ : b 4 = true) => (show Kd.R (Kd.int .i64) 3 w55 w0.heap.size (fun k_ => ((P1_0_ k_ ∨ P1_1_ k_) ∨ w.heap.size ≤ k_) ∧ some k_ ≠ (.slice Ao12 l1_0.length co12 : Value).ownBlock ∧ some k_ ≠ (.slice Ao13 l1_1.length co13 : Value).ownBlock) v243 y242 from by first | exact (Kd.R_elder' (by (with_reducible repeat (first | apply rA_ | apply rN_ | apply rD_)); exact (Q_HO244 h0_)) (Kd.R_base ho0) hb) | exact Kd.R_mono (Kd.R_elder' (by (with_reducible repeat (first | apply rA_ | apply rN_ | apply rD_)); exact (Q_HO244 h0_)) (Kd.R_base ho0) hb) (fun _ hk => by first | trivial | exact hk | exact hk.1 | (simp only [hk, ne_eq, not_false_eq_true, and_self])))
                 have z_HO253 := fun (h0_ : b 10 = true) => (show Kd.R (Kd.int .i64) 3 w55 w0.heap.size (fun k_ => ((P1_0_ k_ ∨ P1_1_ k_) ∨ w.heap.size ≤ k_) ∧ some k_ ≠ (.slice Ao12 l1_0.length co12 : Value).ownBlock ∧ some k_ ≠ (.slice Ao13 l1_1.length co13 : Value).ownBlock) v252 y251 from by first | exact (Kd.R_elder' (by (with_reducible repeat (first | apply rA_ | apply rN_ | apply rD_)); exact (Q_HO253 h0_)) (Kd.R_base ho0) hb) | exact Kd.R_mono (Kd.R_elder' (by (with_reducible repeat (first | apply rA_ | apply rN_ | apply rD_)); exact (Q_HO253 h0_)) (Kd.R_base ho0) hb) (fun _ hk => by first | trivial | exact hk | exact hk.1 | (simp only [hk, ne_eq, not_false_eq_true, and_self])))
                 have z_BK257 := fun (h0_ : b 13 = true) (h1_ : b 14 = false) => (show w55.heap[gb257]? = some (.cells #[.slice none 0 0, .slice none 0 0] 34 (0, 0)) from by first | exact (blk_below (g := gb257) (o := .cells #[.slice none 0 0, .slice none 0 0] 34 (0, 0)) (by (with_reducible repeat (first | refine kN_ ?_ _ | refine kD_ ?_ | refine kA_ ?_ _)); exact (Q_BK257 h0_ h1_)) hb))
                 clear HO_233000 HO_233001 BK232 BK233 HK HB
                 have HO_233000 := n0_
                 have HO_233001 := n1_
                 have HO241 := n2_
                 have BK232 := n3_
                 have BK233 := n4_
                 have HK := n5_
                 have HB := n6_
                 clear n0_ n1_ n2_ n3_ n4_ n5_ n6_
                 (try clear hb)
                 (try clear hb2)
                 (try clear hk)
                 (try clear hi)
                 (try clear ho0)
                 refine hK.out _ _ ⟨v240, v243, v246, v249, v252, v255, gb257, m12_, m13_, (by rw [ha.out]; exact putSel_upk 1 hb_ rfl rfl rfl), (by (with_reducible repeat (first | apply rA_ | apply rN_ | apply rD_)); exact Kd.R_mono HO_233000.out (fun _ hk => by first | exact ⟨hk.1.1, ⟨hk.2, hk.1.2⟩⟩ | (simp only [hk, ne_eq, not_false_eq_true, and_self]))), (by (with_reducible repeat (first | apply rA_ | apply rN_ | apply rD_)); exact Kd.R_mono HO_233001.out (fun _ hk => by first | exact ⟨hk.1.1, ⟨hk.2, hk.1.2⟩⟩ | (simp only [hk, ne_eq, not_false_eq_true, and_self]))), (by (with_reducible repeat (first | refine kN_ ?_ _ | refine kD_ ?_ | refine kA_ ?_ _)); exact BK232.out), (by (with_reducible repeat (first | refine kN_ ?_ _ | refine kD_ ?_ | refine kA_ ?_ _)); exact BK233.out), (by repeat (first | (with_reducible first | exact HK.out | apply Kept.alloc | apply Kept.drewN | apply Kept.drew | refine Kept.setCell ?_ (.inr GW232.out) _ | refine Kept.setCell ?_ (.inr GW233.out) _) | exact HK.out)), (by repeat (first | (with_reducible first | exact HB.out | apply bA_ | apply pN_ | apply bD_ | refine bS_ ?_ GE232.out | refine bS_ ?_ GE233.out) | exact HB.out)), fun _ _ => (by (with_reducible repeat (first | apply rA_ | apply rN_ | apply rD_)); exact Kd.R_mono HO241.out (fun _ hk => by first | exact ⟨hk.1.1.1, ⟨hk.1.2, hk.2⟩⟩ | (simp only [hk, ne_eq, not_false_eq_true, and_self]))), z_HO244, fun h0_ => absurd ((hoff 5 (by kernel_rfl)).symm.trans h0_) (by decide), fun h0_ _ => absurd ((hoff 8 (by kernel_rfl)).symm.trans h0_) (by decide), z_HO253, fun h0_ => absurd ((hoff 11 (by kernel_rfl)).symm.trans h0_) (by decide), z_BK257, Q_GW257, Q_GE257, Q_NB232_257, Q_NB257_232, Q_NB233_257, Q_NB257_233, fun h0_ => absurd ((hoff 14 (by kernel_rfl)).symm.trans h0_) (by decide), fun h0_ => absurd ((hoff 12 (by kernel_rfl)).symm.trans h0_) (by decide), Q_X13_, fun h0_ h1_ h2_ k_ e1_ e2_ => DN_HO244 h2_ k_ e1_ e2_, fun h0_ h1_ h2_ h3_ k_ e1_ e2_ => DN_HO250 h2_ h3_ k_ e1_ e2_, fun h0_ h1_ h2_ k_ e1_ e2_ => DN_HO253 h2_ k_ e1_ e2_, fun h0_ h1_ h2_ k_ e1_ e2_ => DN_HO256 h2_ k_ e1_ e2_, Q_D_HO244_HO247, Q_D_HO244_HO250, Q_D_HO244_HO253, Q_D_HO244_HO256, Q_D_HO247_HO250, Q_D_HO247_HO253, Q_D_HO247_HO256, Q_D_HO250_HO253, Q_D_HO253_HO256⟩
                refine steps_cons ?_ ?_
                ·rintro b a w' ⟨v240, v243, v246, v249, v252, v255, gb257, m12_, m13_, ha, Q_HO_233000, Q_HO_233001, Q_BK232, Q_BK233, Q_HK, Q_HB, Q_HO241, Q_HO244, Q_HO247, Q_HO250, Q_HO253, Q_HO256, Q_BK257, Q_GW257, Q_GE257, Q_NB232_257, Q_NB257_232, Q_NB233_257, Q_NB257_233, Q_BK257_e14, Q_X12_, Q_X13_, Q_D_HO241_HO244, Q_D_HO241_HO250, Q_D_HO241_HO253, Q_D_HO241_HO256, Q_D_HO244_HO247, Q_D_HO244_HO250, Q_D_HO244_HO253, Q_D_HO244_HO256, Q_D_HO247_HO250, Q_D_HO247_HO253, Q_D_HO247_HO256, Q_D_HO250_HO253, Q_D_HO253_HO256⟩ hb_ hon hoff
                 refine ⟨_, rfl, fun K hK => ?_⟩
                 have e66 : a.tmps[66]? = some (.int .i64 x32_2) := by rw [ha]; exact (putSel_off rfl).trans rfl
                 replace ha := aS_ ha
                 have HO_233000 := aS_ Q_HO_233000
                 have HO_233001 := aS_ Q_HO_233001
                 have BK232 := aS_ Q_BK232
                 have BK233 := aS_ Q_BK233
                 have HK := aS_ Q_HK
                 have HB := aS_ Q_HB
                 refine Kd.R_lit_step (Kd.int .i64) _ 3 ?hg (N := 67) ?hd (xs := ([x32_2] : List Int)) (inner := [.int .i64 x32_2]) (ok := fun _ => True) (okp := fun _ => True) ?hr ?hp (fun _ hk => hk) trivial (Below.refl _ _) (Nat.le_refl _) (by simp) ?_; (case hd => rfl); (case hg => rfl); (case hr => first | (go_simp; done) | (go_simp; rfl)); (case hp => exact (Reps.one (show Kd.M (Kd.int .i64) _ _ _ x32_2 [.int .i64 x32_2] from rfl) (Reps.none _ _)))
                 intro v243 w55 ho56 hb hg_ hnew_
                 have DN_HO241 := fun (h0_ : b 2 = true) (h1_ : b 5 = false) (k_ : Nat) (e1_ : (v243 : Value).ownBlock = some k_) (e2_ : (v240 : Value).ownBlock = some k_) => (show False from Kd.fresh' (Kd.R_lt (Q_HO241 h0_ h1_)) k_ (Kd.R_base ho56 k_ e1_) e2_.symm)
                 have DN_HO247 := fun (h0_ : b 5 = true) (k_ : Nat) (e1_ : (v243 : Value).ownBlock = some k_) (e2_ : (v246 : Value).ownBlock = some k_) => (show False from Kd.fresh' (Kd.R_lt (Q_HO247 h0_)) k_ (Kd.R_base ho56 k_ e1_) e2_.symm)
                 have DN_HO250 := fun (h0_ : b 8 = true) (h1_ : b 11 = false) (k_ : Nat) (e1_ : (v243 : Value).ownBlock = some k_) (e2_ : (v249 : Value).ownBlock = some k_) => (show False from Kd.fresh' (Kd.R_lt (Q_HO250 h0_ h1_)) k_ (Kd.R_base ho56 k_ e1_) e2_.symm)
                 have DN_HO253 := fun (h0_ : b 10 = true) (k_ : Nat) (e1_ : (v243 : Value).ownBlock = some k_) (e2_ : (v252 : Value).ownBlock = some k_) => (show False from Kd.fresh' (Kd.R_lt (Q_HO253 h0_)) k_ (Kd.R_base ho56 k_ e1_) e2_.symm)
                 have DN_HO256 := fun (h0_ : b 11 = true) (k_ : Nat) (e1_ : (v243 : Value).ownBlock = some k_) (e2_ : (v255 : Value).ownBlock = some k_) => (show False from Kd.fresh' (Kd.R_lt (Q_HO256 h0_)) k_ (Kd.R_base ho56 k_ e1_) e2_.symm)
                 clear hg_ hnew_
                 (first | rw [← Ny242.out] at ho56 | (simp only [Int.reduceToNat] at ho56; rw [← Ny242.out] at ho56))
                 have n0_ := aS_ (Kd.R_elder' (by (with_reducible repeat (first | apply rA_ | apply rN_ | apply rD_)); exact HO_233000.out) (Kd.R_base ho56) hb)
                 have n1_ := aS_ (Kd.R_elder' (by (with_reducible repeat (first | apply rA_ | apply rN_ | apply rD_)); exact HO_233001.out) (Kd.R_base ho56) hb)
                 have n2_ := aS_ (Kd.R_lower (Kd.R_new' (Kd.R_new' (Kd.R_newM (M := fun k_ => ((P1_0_ k_ ∨ P1_1_ k_) ∨ w.heap.size ≤ k_)) ho56 (by first | exact HK.out.1 | exact (show Kept w _ (fun k_ => P1_0_ k_ ∨ P1_1_ k_) from by repeat (first | (with_reducible first | exact HK.out | apply Kept.alloc | apply Kept.drewN | apply Kept.drew | refine Kept.setCell ?_ (.inr GW232.out) _ | refine Kept.setCell ?_ (.inr GW233.out) _) | exact HK.out)).1) (fun k_ h_ => .inr h_)) (Kd.R_lt (by (with_reducible repeat (first | apply rA_ | apply rN_ | apply rD_)); exact HO_233000.out))) (Kd.R_lt (by (with_reducible repeat (first | apply rA_ | apply rN_ | apply rD_)); exact HO_233001.out))) (below_size (by repeat (first | (with_reducible first | exact HB.out | apply bA_ | apply pN_ | apply bD_ | refine bS_ ?_ GE232.out | refine bS_ ?_ GE233.out) | exact HB.out))))
                 have n3_ := aS_ (blk_below (g := gb232) (o := .cells #[.slice Ao12 l1_0.length co12, .slice Ao13 l1_1.length co13] 34 (0, 0)) (by (with_reducible repeat (first | refine kN_ ?_ _ | refine kD_ ?_ | refine kA_ ?_ _)); exact BK232.out) hb)
                 have n4_ := aS_ (blk_below (g := gb233) (o := .cells #[.slice none 0 0, .slice none 0 0] 34 (0, 0)) (by (with_reducible repeat (first | refine kN_ ?_ _ | refine kD_ ?_ | refine kA_ ?_ _)); exact BK233.out) hb)
                 have n5_ := aS_ (Kept.below (S := (fun k_ => P1_0_ k_ ∨ P1_1_ k_)) (by repeat (first | (with_reducible first | exact HK.out | apply Kept.alloc | apply Kept.drewN | apply Kept.drew | refine Kept.setCell ?_ (.inr GW232.out) _ | refine Kept.setCell ?_ (.inr GW233.out) _) | exact HK.out)) hb)
                 have n6_ := aS_ (below_step (by repeat (first | (with_reducible first | exact HB.out | apply bA_ | apply pN_ | apply bD_ | refine bS_ ?_ GE232.out | refine bS_ ?_ GE233.out) | exact HB.out)) hb)
                 have z_HO241 := fun (h0_ : b 2 = true) (h1_ : b 5 = false) => (show Kd.R (Kd.int .i64) 3 w55 w0.heap.size (fun k_ => ((P1_0_ k_ ∨ P1_1_ k_) ∨ w.heap.size ≤ k_) ∧ some k_ ≠ (.slice Ao12 l1_0.length co12 : Value).ownBlock ∧ some k_ ≠ (.slice Ao13 l1_1.length co13 : Value).ownBlock) v240 t239 from by first | exact (Kd.R_elder' (by (with_reducible repeat (first | apply rA_ | apply rN_ | apply rD_)); exact (Q_HO241 h0_ h1_)) (Kd.R_base ho56) hb) | exact Kd.R_mono (Kd.R_elder' (by (with_reducible repeat (first | apply rA_ | apply rN_ | apply rD_)); exact (Q_HO241 h0_ h1_)) (Kd.R_base ho56) hb) (fun _ hk => by first | trivial | exact hk | exact hk.1 | (simp only [hk, ne_eq, not_false_eq_true, and_self])))
                 have z_HO253 := fun (h0_ : b 10 = true) => (show Kd.R (Kd.int .i64) 3 w55 w0.heap.size (fun k_ => ((P1_0_ k_ ∨ P1_1_ k_) ∨ w.heap.size ≤ k_) ∧ some k_ ≠ (.slice Ao12 l1_0.length co12 : Value).ownBlock ∧ some k_ ≠ (.slice Ao13 l1_1.length co13 : Value).ownBlock) v252 y251 from by first | exact (Kd.R_elder' (by (with_reducible repeat (first | apply rA_ | apply rN_ | apply rD_)); exact (Q_HO253 h0_)) (Kd.R_base ho56) hb) | exact Kd.R_mono (Kd.R_elder' (by (with_reducible repeat (first | apply rA_ | apply rN_ | apply rD_)); exact (Q_HO253 h0_)) (Kd.R_base ho56) hb) (fun _ hk => by first | trivial | exact hk | exact hk.1 | (simp only [hk, ne_eq, not_false_eq_true, and_self])))
                 have z_BK257 := fun (h0_ : b 13 = true) (h1_ : b 14 = false) => (show w55.heap[gb257]? = some (.cells #[.slice none 0 0, .slice none 0 0] 34 (0, 0)) from by first | exact (blk_below (g := gb257) (o := .cells #[.slice none 0 0, .slice none 0 0] 34 (0, 0)) (by (with_reducible repeat (first | refine kN_ ?_ _ | refine kD_ ?_ | refine kA_ ?_ _)); exact (Q_BK257 h0_ h1_)) hb))
                 clear HO_233000 HO_233001 BK232 BK233 HK HB
                 have HO_233000 := n0_
                 have HO_233001 := n1_
                 have HO244 := n2_
                 have BK232 := n3_
                 have BK233 := n4_
                 have HK := n5_
                 have HB := n6_
                 clear n0_ n1_ n2_ n3_ n4_ n5_ n6_
                 clear hb ho56
                 refine hK.out _ _ ⟨v240, v243, v246, v249, v252, v255, gb257, m12_, m13_, (by rw [ha.out]; exact putSel_upk 2 hb_ rfl rfl rfl), (by (with_reducible repeat (first | apply rA_ | apply rN_ | apply rD_)); exact Kd.R_mono HO_233000.out (fun _ hk => by first | exact ⟨hk.1.1, ⟨hk.2, hk.1.2⟩⟩ | (simp only [hk, ne_eq, not_false_eq_true, and_self]))), (by (with_reducible repeat (first | apply rA_ | apply rN_ | apply rD_)); exact Kd.R_mono HO_233001.out (fun _ hk => by first | exact ⟨hk.1.1, ⟨hk.2, hk.1.2⟩⟩ | (simp only [hk, ne_eq, not_false_eq_true, and_self]))), (by (with_reducible repeat (first | refine kN_ ?_ _ | refine kD_ ?_ | refine kA_ ?_ _)); exact BK232.out), (by (with_reducible repeat (first | refine kN_ ?_ _ | refine kD_ ?_ | refine kA_ ?_ _)); exact BK233.out), (by repeat (first | (with_reducible first | exact HK.out | apply Kept.alloc | apply Kept.drewN | apply Kept.drew | refine Kept.setCell ?_ (.inr GW232.out) _ | refine Kept.setCell ?_ (.inr GW233.out) _) | exact HK.out)), (by repeat (first | (with_reducible first | exact HB.out | apply bA_ | apply pN_ | apply bD_ | refine bS_ ?_ GE232.out | refine bS_ ?_ GE233.out) | exact HB.out)), z_HO241, fun _ => (by (with_reducible repeat (first | apply rA_ | apply rN_ | apply rD_)); exact Kd.R_mono HO244.out (fun _ hk => by first | exact ⟨hk.1.1.1, ⟨hk.1.2, hk.2⟩⟩ | (simp only [hk, ne_eq, not_false_eq_true, and_self]))), fun h0_ => absurd ((hoff 5 (by kernel_rfl)).symm.trans h0_) (by decide), fun h0_ _ => absurd ((hoff 8 (by kernel_rfl)).symm.trans h0_) (by decide), z_HO253, fun h0_ => absurd ((hoff 11 (by kernel_rfl)).symm.trans h0_) (by decide), z_BK257, Q_GW257, Q_GE257, Q_NB232_257, Q_NB257_232, Q_NB233_257, Q_NB257_233, fun h0_ => absurd ((hoff 14 (by kernel_rfl)).symm.trans h0_) (by decide), fun h0_ => absurd ((hoff 12 (by kernel_rfl)).symm.trans h0_) (by decide), Q_X13_, fun h0_ h1_ h2_ k_ e1_ e2_ => DN_HO241 h0_ h1_ k_ e2_ e1_, Q_D_HO241_HO250, Q_D_HO241_HO253, Q_D_HO241_HO256, fun h0_ h1_ k_ e1_ e2_ => DN_HO247 h1_ k_ e1_ e2_, fun h0_ h1_ h2_ k_ e1_ e2_ => DN_HO250 h1_ h2_ k_ e1_ e2_, fun h0_ h1_ k_ e1_ e2_ => DN_HO253 h1_ k_ e1_ e2_, fun h0_ h1_ k_ e1_ e2_ => DN_HO256 h1_ k_ e1_ e2_, Q_D_HO247_HO250, Q_D_HO247_HO253, Q_D_HO247_HO256, Q_D_HO250_HO253, Q_D_HO253_HO256⟩
                refine steps_cons ?_ ?_
                ·rintro b a w' ⟨v240, v243, v246, v249, v252, v255, gb257, m12_, m13_, ha, Q_HO_233000, Q_HO_233001, Q_BK232, Q_BK233, Q_HK, Q_HB, Q_HO241, Q_HO244, Q_HO247, Q_HO250, Q_HO253, Q_HO256, Q_BK257, Q_GW257, Q_GE257, Q_NB232_257, Q_NB257_232, Q_NB233_257, Q_NB257_233, Q_BK257_e14, Q_X12_, Q_X13_, Q_D_HO241_HO244, Q_D_HO241_HO250, Q_D_HO241_HO253, Q_D_HO241_HO256, Q_D_HO244_HO247, Q_D_HO244_HO250, Q_D_HO244_HO253, Q_D_HO244_HO256, Q_D_HO247_HO250, Q_D_HO247_HO253, Q_D_HO247_HO256, Q_D_HO250_HO253, Q_D_HO253_HO256⟩ hb_ hon hoff
                 refine ⟨_, rfl, fun K hK => ?_⟩
                 have e65 : a.tmps[65]? = some (v240) := by rw [ha]; exact putSel_on (e := (2, 65, v240)) 1 rfl rfl (hon 2 (by kernel_rfl)) rfl
                 have e67 : a.tmps[67]? = some (v243) := by rw [ha]; exact putSel_on (e := (4, 67, v243)) 2 rfl rfl (hon 4 (by kernel_rfl)) rfl
                 replace ha := aS_ ha
                 have HO_233000 := aS_ Q_HO_233000
                 have HO_233001 := aS_ Q_HO_233001
                 have BK232 := aS_ Q_BK232
                 have BK233 := aS_ Q_BK233
                 have HK := aS_ Q_HK
                 have HB := aS_ Q_HB
                 have HO241 := aS_ (Q_HO241 (hon 2 (by kernel_rfl)) hb_)
                 have HO244 := aS_ (Q_HO244 (hon 4 (by kernel_rfl)))
                 have R_HO_233000 := aS_ (Kd.R_reok rfl (ok := (fun k_ => ((P1_0_ k_ ∨ P1_1_ k_) ∨ w.heap.size ≤ k_) ∧ some k_ ≠ (v240 : Value).ownBlock ∧ some k_ ≠ (v243 : Value).ownBlock ∧ some k_ ≠ (.slice Ao13 l1_1.length co13 : Value).ownBlock)) (Q_HO_233000) (fun k_ e_ => ⟨((Q_HO_233000).1 k_ e_).1, (fun q_ => ((Q_HO241 (hon 2 (by kernel_rfl)) hb_).1 k_ q_.symm).2.1 e_.symm), (fun q_ => ((Q_HO244 (hon 4 (by kernel_rfl))).1 k_ q_.symm).2.1 e_.symm), ((Q_HO_233000).1 k_ e_).2⟩))
                 have R_HO_233001 := aS_ (Kd.R_reok rfl (ok := (fun k_ => ((P1_0_ k_ ∨ P1_1_ k_) ∨ w.heap.size ≤ k_) ∧ some k_ ≠ (v240 : Value).ownBlock ∧ some k_ ≠ (v243 : Value).ownBlock ∧ some k_ ≠ (.slice Ao12 l1_0.length co12 : Value).ownBlock)) (Q_HO_233001) (fun k_ e_ => ⟨((Q_HO_233001).1 k_ e_).1, (fun q_ => ((Q_HO241 (hon 2 (by kernel_rfl)) hb_).1 k_ q_.symm).2.2 e_.symm), (fun q_ => ((Q_HO244 (hon 4 (by kernel_rfl))).1 k_ q_.symm).2.2 e_.symm), ((Q_HO_233001).1 k_ e_).2⟩))
                 have R_HO241 := aS_ (Kd.R_reok rfl (ok := (fun k_ => ((P1_0_ k_ ∨ P1_1_ k_) ∨ w.heap.size ≤ k_) ∧ some k_ ≠ (v243 : Value).ownBlock ∧ some k_ ≠ (.slice Ao12 l1_0.length co12 : Value).ownBlock ∧ some k_ ≠ (.slice Ao13 l1_1.length co13 : Value).ownBlock)) (Q_HO241 (hon 2 (by kernel_rfl)) hb_) (fun k_ e_ => ⟨((Q_HO241 (hon 2 (by kernel_rfl)) hb_).1 k_ e_).1, (fun q_ => (Q_D_HO241_HO244 (hon 2 (by kernel_rfl)) hb_ (hon 4 (by kernel_rfl))) k_ e_ q_.symm), ((Q_HO241 (hon 2 (by kernel_rfl)) hb_).1 k_ e_).2.1, ((Q_HO241 (hon 2 (by kernel_rfl)) hb_).1 k_ e_).2.2⟩))
                 have R_HO244 := aS_ (Kd.R_reok rfl (ok := (fun k_ => ((P1_0_ k_ ∨ P1_1_ k_) ∨ w.heap.size ≤ k_) ∧ some k_ ≠ (v240 : Value).ownBlock ∧ some k_ ≠ (.slice Ao12 l1_0.length co12 : Value).ownBlock ∧ some k_ ≠ (.slice Ao13 l1_1.length co13 : Value).ownBlock)) (Q_HO244 (hon 4 (by kernel_rfl))) (fun k_ e_ => ⟨((Q_HO244 (hon 4 (by kernel_rfl))).1 k_ e_).1, (fun q_ => (Q_D_HO241_HO244 (hon 2 (by kernel_rfl)) hb_ (hon 4 (by kernel_rfl))) k_ q_.symm e_), ((Q_HO244 (hon 4 (by kernel_rfl))).1 k_ e_).2.1, ((Q_HO244 (hon 4 (by kernel_rfl))).1 k_ e_).2.2⟩))
                 clear HO_233000
                 have HO_233000 := R_HO_233000
                 clear R_HO_233000 HO_233001
                 have HO_233001 := R_HO_233001
                 clear R_HO_233001 HO241
                 have HO241 := R_HO241
                 clear R_HO241 HO244
                 have HO244 := R_HO244
                 clear R_HO244
                 have F_HO253 := fun (h0_ : b 10 = true) => Kd.R_reok rfl (ok := (fun k_ => ((P1_0_ k_ ∨ P1_1_ k_) ∨ w.heap.size ≤ k_) ∧ some k_ ≠ (v240 : Value).ownBlock ∧ some k_ ≠ (v243 : Value).ownBlock ∧ some k_ ≠ (.slice Ao12 l1_0.length co12 : Value).ownBlock ∧ some k_ ≠ (.slice Ao13 l1_1.length co13 : Value).ownBlock)) (Q_HO253 h0_) (fun k_ e_ => ⟨((Q_HO253 h0_).1 k_ e_).1, (fun q_ => (Q_D_HO241_HO253 (hon 2 (by kernel_rfl)) hb_ h0_) k_ q_.symm e_), (fun q_ => (Q_D_HO244_HO253 (hon 4 (by kernel_rfl)) h0_) k_ q_.symm e_), ((Q_HO253 h0_).1 k_ e_).2.1, ((Q_HO253 h0_).1 k_ e_).2.2⟩)
                 obtain ⟨Ao60, co60, eo60⟩ := Kd.R_slice HO244.out
                 (first | subst eo60 | (injection eo60 with f1_ f2_ f3_; have f4_ := f1_.symm; have f5_ := f3_.symm; clear f1_ f2_ f3_; subst f4_; subst f5_))
                 refine Kd.R_append_rows_step (Kd.int .i64) (w0 := w0) w0.heap.size (by rfl) (.tmp 65) (.tmp 67) 32 3 (.int .i64 0) 8 rfl Try.underlying32 info3 rfl (by decide) (by omega) v240 t239 y242 _ _ _ (fun k_ => ((P1_0_ k_ ∨ P1_1_ k_) ∨ w.heap.size ≤ k_) ∧ some k_ ≠ (.slice Ao12 l1_0.length co12 : Value).ownBlock ∧ some k_ ≠ (.slice Ao13 l1_1.length co13 : Value).ownBlock ∧ some k_ ≠ (.slice Ao60 y242.length co60 : Value).ownBlock) (fun _ => False) (ev_tmp7 e65) (ev_tmp7 e67) ?aO ?aR (fun _ _ h => h) (fun _ h => h.elim) ?aF ?aB ?aS ?aL ?_
                 (case aR => repeat (first | exact (Kd.R_reads' HO244.out).2.2 | (with_reducible refine Kd.C_alloc ?_ _) | (with_reducible refine Kd.C_drewN ?_ _) | (with_reducible refine Kd.C_drew ?_)))
                 (case aB => exact (by repeat (first | (with_reducible first | exact HB.out | apply bA_ | apply pN_ | apply bD_ | refine bS_ ?_ GE232.out | refine bS_ ?_ GE233.out) | exact HB.out)))
                 (case aF => exact (fun k_ hk => ⟨(.inr (Nat.le_trans (by first | exact HK.out.1 | exact (show Kept w _ (fun k_ => P1_0_ k_ ∨ P1_1_ k_) from by repeat (first | (with_reducible first | exact HK.out | apply Kept.alloc | apply Kept.drewN | apply Kept.drew | refine Kept.setCell ?_ (.inr GW232.out) _ | refine Kept.setCell ?_ (.inr GW233.out) _) | exact HK.out)).1) hk)), Kd.fresh' (Kd.R_lt (by (with_reducible repeat (first | apply rA_ | apply rN_ | apply rD_)); exact HO_233000.out)) k_ hk, Kd.fresh' (Kd.R_lt (by (with_reducible repeat (first | apply rA_ | apply rN_ | apply rD_)); exact HO_233001.out)) k_ hk, Kd.fresh' (Kd.R_lt (by (with_reducible repeat (first | apply rA_ | apply rN_ | apply rD_)); exact HO244.out)) k_ hk⟩))
                 (case aO => exact (by (with_reducible repeat (first | apply rA_ | apply rN_ | apply rD_)); exact Kd.R_mono HO241.out (fun _ hk => by first | exact ⟨hk.1, ⟨hk.2.2.1, ⟨hk.2.2.2, hk.2.1⟩⟩⟩ | (simp only [hk, ne_eq, not_false_eq_true, and_self]))))
                 (case aS => exact (below_size (by repeat (first | (with_reducible first | exact HB.out | apply bA_ | apply pN_ | apply bD_ | refine bS_ ?_ GE232.out | refine bS_ ?_ GE233.out) | exact HB.out))))
                 (case aL => have := LMc46.out; omega)
                 intro v246 w59 ho hb hg hat
                 have DN_HO244 := fun (h0_ : b 4 = true) (k_ : Nat) (e1_ : (v246 : Value).ownBlock = some k_) (e2_ : (.slice Ao60 y242.length co60 : Value).ownBlock = some k_) => (show False from Or.elim hat (fun q_ => Q_D_HO241_HO244 (hon 2 (by kernel_rfl)) hb_ h0_ k_ (q_.symm.trans e1_) e2_) (fun ⟨b_, q_, l_⟩ => Kd.fresh' (Kd.R_lt (Q_HO244 h0_)) k_ (by rw [q_] at e1_; cases e1_; exact l_) e2_.symm))
                 have DN_HO250 := fun (h0_ : b 8 = true) (h1_ : b 11 = false) (k_ : Nat) (e1_ : (v246 : Value).ownBlock = some k_) (e2_ : (v249 : Value).ownBlock = some k_) => (show False from Or.elim hat (fun q_ => Q_D_HO241_HO250 (hon 2 (by kernel_rfl)) hb_ h0_ h1_ k_ (q_.symm.trans e1_) e2_) (fun ⟨b_, q_, l_⟩ => Kd.fresh' (Kd.R_lt (Q_HO250 h0_ h1_)) k_ (by rw [q_] at e1_; cases e1_; exact l_) e2_.symm))
                 have DN_HO253 := fun (h0_ : b 10 = true) (k_ : Nat) (e1_ : (v246 : Value).ownBlock = some k_) (e2_ : (v252 : Value).ownBlock = some k_) => (show False from Or.elim hat (fun q_ => Q_D_HO241_HO253 (hon 2 (by kernel_rfl)) hb_ h0_ k_ (q_.symm.trans e1_) e2_) (fun ⟨b_, q_, l_⟩ => Kd.fresh' (Kd.R_lt (Q_HO253 h0_)) k_ (by rw [q_] at e1_; cases e1_; exact l_) e2_.symm))
                 have DN_HO256 := fun (h0_ : b 11 = true) (k_ : Nat) (e1_ : (v246 : Value).ownBlock = some k_) (e2_ : (v255 : Value).ownBlock = some k_) => (show False from Or.elim hat (fun q_ => Q_D_HO241_HO256 (hon 2 (by kernel_rfl)) hb_ h0_ k_ (q_.symm.trans e1_) e2_) (fun ⟨b_, q_, l_⟩ => Kd.fresh' (Kd.R_lt (Q_HO256 h0_)) k_ (by rw [q_] at e1_; cases e1_; exact l_) e2_.symm))
                 rw [← Ny245.out] at ho
                 have n0_ := aS_ (Kd.R_after (ok := (fun k_ => ((P1_0_ k_ ∨ P1_1_ k_) ∨ w.heap.size ≤ k_) ∧ some k_ ≠ (.slice Ao13 l1_1.length co13 : Value).ownBlock ∧ some k_ ≠ (.slice Ao60 y242.length co60 : Value).ownBlock)) (by (with_reducible repeat (first | apply rA_ | apply rN_ | apply rD_)); exact Kd.R_mono HO_233000.out (fun _ hk => by first | exact ⟨⟨hk.1, ⟨hk.2.2.2, hk.2.2.1⟩⟩, hk.2.1⟩ | (simp only [hk, ne_eq, not_false_eq_true, and_self]))) hg hat)
                 have n1_ := aS_ (Kd.R_after (ok := (fun k_ => ((P1_0_ k_ ∨ P1_1_ k_) ∨ w.heap.size ≤ k_) ∧ some k_ ≠ (.slice Ao12 l1_0.length co12 : Value).ownBlock ∧ some k_ ≠ (.slice Ao60 y242.length co60 : Value).ownBlock)) (by (with_reducible repeat (first | apply rA_ | apply rN_ | apply rD_)); exact Kd.R_mono HO_233001.out (fun _ hk => by first | exact ⟨⟨hk.1, ⟨hk.2.2.2, hk.2.2.1⟩⟩, hk.2.1⟩ | (simp only [hk, ne_eq, not_false_eq_true, and_self]))) hg hat)
                 have n2_ := aS_ (blk_grown (g := gb232) (o := .cells #[.slice Ao12 l1_0.length co12, .slice Ao13 l1_1.length co13] 34 (0, 0)) (by (with_reducible repeat (first | refine kN_ ?_ _ | refine kD_ ?_ | refine kA_ ?_ _)); exact BK232.out) hg (Kd.R_ne HO241.out BK232.out (by decide)))
                 have n3_ := aS_ (blk_grown (g := gb233) (o := .cells #[.slice none 0 0, .slice none 0 0] 34 (0, 0)) (by (with_reducible repeat (first | refine kN_ ?_ _ | refine kD_ ?_ | refine kA_ ?_ _)); exact BK233.out) hg (Kd.R_ne HO241.out BK233.out (by decide)))
                 have n4_ := aS_ (Kd.R_after (ok := (fun k_ => ((P1_0_ k_ ∨ P1_1_ k_) ∨ w.heap.size ≤ k_) ∧ some k_ ≠ (.slice Ao12 l1_0.length co12 : Value).ownBlock ∧ some k_ ≠ (.slice Ao13 l1_1.length co13 : Value).ownBlock)) (by (with_reducible repeat (first | apply rA_ | apply rN_ | apply rD_)); exact Kd.R_mono HO244.out (fun _ hk => by first | exact ⟨⟨hk.1, ⟨hk.2.2.1, hk.2.2.2⟩⟩, hk.2.1⟩ | (simp only [hk, ne_eq, not_false_eq_true, and_self]))) hg hat)
                 have n5_ := aS_ (hb)
                 have n6_ := aS_ (Kept.of_grown (S := (fun k_ => P1_0_ k_ ∨ P1_1_ k_)) hg (by repeat (first | (with_reducible first | exact HK.out | apply Kept.alloc | apply Kept.drewN | apply Kept.drew | refine Kept.setCell ?_ (.inr GW232.out) _ | refine Kept.setCell ?_ (.inr GW233.out) _) | exact HK.out)) (fun k_ e_ => (HO241.out.1 k_ e_).1))
                 have n7_ := aS_ (ho)
                 have z_HO253 := fun (h0_ : b 10 = true) => (show Kd.R (Kd.int .i64) 3 w59 w0.heap.size (fun k_ => ((P1_0_ k_ ∨ P1_1_ k_) ∨ w.heap.size ≤ k_) ∧ some k_ ≠ (.slice Ao12 l1_0.length co12 : Value).ownBlock ∧ some k_ ≠ (.slice Ao13 l1_1.length co13 : Value).ownBlock) v252 y251 from by first | exact (Kd.R_after (ok := (fun k_ => ((P1_0_ k_ ∨ P1_1_ k_) ∨ w.heap.size ≤ k_) ∧ some k_ ≠ (.slice Ao12 l1_0.length co12 : Value).ownBlock ∧ some k_ ≠ (.slice Ao13 l1_1.length co13 : Value).ownBlock ∧ some k_ ≠ (.slice Ao60 y242.length co60 : Value).ownBlock)) (by (with_reducible repeat (first | apply rA_ | apply rN_ | apply rD_)); exact Kd.R_mono (F_HO253 h0_) (fun _ hk => by first | exact ⟨⟨hk.1, ⟨hk.2.2.2.1, ⟨hk.2.2.2.2, hk.2.2.1⟩⟩⟩, hk.2.1⟩ | (simp only [hk, ne_eq, not_false_eq_true, and_self]))) hg hat) | exact Kd.R_mono (Kd.R_after (ok := (fun k_ => ((P1_0_ k_ ∨ P1_1_ k_) ∨ w.heap.size ≤ k_) ∧ some k_ ≠ (.slice Ao12 l1_0.length co12 : Value).ownBlock ∧ some k_ ≠ (.slice Ao13 l1_1.length co13 : Value).ownBlock ∧ some k_ ≠ (.slice Ao60 y242.length co60 : Value).ownBlock)) (by (with_reducible repeat (first | apply rA_ | apply rN_ | apply rD_)); exact Kd.R_mono (F_HO253 h0_) (fun _ hk => by first | exact ⟨⟨hk.1, ⟨hk.2.2.2.1, ⟨hk.2.2.2.2, hk.2.2.1⟩⟩⟩, hk.2.1⟩ | (simp only [hk, ne_eq, not_false_eq_true, and_self]))) hg hat) (fun _ hk => by first | trivial | exact hk | exact hk.1 | (simp only [hk, ne_eq, not_false_eq_true, and_self])))
                 have z_BK257 := fun (h0_ : b 13 = true) (h1_ : b 14 = false) => (show w59.heap[gb257]? = some (.cells #[.slice none 0 0, .slice none 0 0] 34 (0, 0)) from by first | exact (blk_grown (g := gb257) (o := .cells #[.slice none 0 0, .slice none 0 0] 34 (0, 0)) (by (with_reducible repeat (first | refine kN_ ?_ _ | refine kD_ ?_ | refine kA_ ?_ _)); exact (Q_BK257 h0_ h1_)) hg (Kd.R_ne HO241.out (Q_BK257 h0_ h1_) (by decide))))
                 clear HO_233000 HO_233001 BK232 BK233 HO244 HB HK HO241
                 have HO_233000 := n0_
                 have HO_233001 := n1_
                 have BK232 := n2_
                 have BK233 := n3_
                 have HO244 := n4_
                 have HB := n5_
                 have HK := n6_
                 have HO247 := n7_
                 clear n0_ n1_ n2_ n3_ n4_ n5_ n6_ n7_
                 clear ho hb hg hat
                 refine hK.out _ _ ⟨v240, .slice Ao60 y242.length co60, v246, v249, v252, v255, gb257, m12_, m13_, (by rw [ha.out]; exact putSel_upk 3 hb_ rfl rfl rfl), (by (with_reducible repeat (first | apply rA_ | apply rN_ | apply rD_)); exact Kd.R_mono HO_233000.out (fun _ hk => by first | exact ⟨hk.1.1, ⟨hk.1.2.2, ⟨hk.2, hk.1.2.1⟩⟩⟩ | (simp only [hk, ne_eq, not_false_eq_true, and_self]))), (by (with_reducible repeat (first | apply rA_ | apply rN_ | apply rD_)); exact Kd.R_mono HO_233001.out (fun _ hk => by first | exact ⟨hk.1.1, ⟨hk.1.2.2, ⟨hk.2, hk.1.2.1⟩⟩⟩ | (simp only [hk, ne_eq, not_false_eq_true, and_self]))), (by (with_reducible repeat (first | refine kN_ ?_ _ | refine kD_ ?_ | refine kA_ ?_ _)); exact BK232.out), (by (with_reducible repeat (first | refine kN_ ?_ _ | refine kD_ ?_ | refine kA_ ?_ _)); exact BK233.out), (by repeat (first | (with_reducible first | exact HK.out | apply Kept.alloc | apply Kept.drewN | apply Kept.drew | refine Kept.setCell ?_ (.inr GW232.out) _ | refine Kept.setCell ?_ (.inr GW233.out) _) | exact HK.out)), (by repeat (first | (with_reducible first | exact HB.out | apply bA_ | apply pN_ | apply bD_ | refine bS_ ?_ GE232.out | refine bS_ ?_ GE233.out) | exact HB.out)), fun _ h1_ => absurd ((up_self b 5).symm.trans h1_) (by decide), fun _ => (by (with_reducible repeat (first | apply rA_ | apply rN_ | apply rD_)); exact Kd.R_mono HO244.out (fun _ hk => by first | exact ⟨hk.1.1, ⟨hk.2, ⟨hk.1.2.1, hk.1.2.2⟩⟩⟩ | (simp only [hk, ne_eq, not_false_eq_true, and_self]))), fun _ => (by (with_reducible repeat (first | apply rA_ | apply rN_ | apply rD_)); exact Kd.R_mono HO247.out (fun _ hk => by first | exact ⟨hk.1, ⟨hk.2.2.2, ⟨hk.2.1, hk.2.2.1⟩⟩⟩ | (simp only [hk, ne_eq, not_false_eq_true, and_self]))), fun h0_ _ => absurd ((hoff 8 (by kernel_rfl)).symm.trans h0_) (by decide), z_HO253, fun h0_ => absurd ((hoff 11 (by kernel_rfl)).symm.trans h0_) (by decide), z_BK257, Q_GW257, Q_GE257, Q_NB232_257, Q_NB257_232, Q_NB233_257, Q_NB257_233, fun h0_ => absurd ((hoff 14 (by kernel_rfl)).symm.trans h0_) (by decide), fun h0_ => absurd ((hoff 12 (by kernel_rfl)).symm.trans h0_) (by decide), Q_X13_, fun h0_ h1_ h2_ _ _ _ => absurd ((up_self b 5).symm.trans h1_) (by decide), fun h0_ h1_ h2_ h3_ _ _ _ => absurd ((up_self b 5).symm.trans h1_) (by decide), fun h0_ h1_ h2_ _ _ _ => absurd ((up_self b 5).symm.trans h1_) (by decide), fun h0_ h1_ h2_ _ _ _ => absurd ((up_self b 5).symm.trans h1_) (by decide), fun h0_ h1_ k_ e1_ e2_ => DN_HO244 h0_ k_ e2_ e1_, Q_D_HO244_HO250, Q_D_HO244_HO253, Q_D_HO244_HO256, fun h0_ h1_ h2_ k_ e1_ e2_ => DN_HO250 h1_ h2_ k_ e1_ e2_, fun h0_ h1_ k_ e1_ e2_ => DN_HO253 h1_ k_ e1_ e2_, fun h0_ h1_ k_ e1_ e2_ => DN_HO256 h1_ k_ e1_ e2_, Q_D_HO250_HO253, Q_D_HO253_HO256⟩
                refine steps_cons ?_ ?_
                ·rintro b a w' ⟨v240, v243, v246, v249, v252, v255, gb257, m12_, m13_, ha, Q_HO_233000, Q_HO_233001, Q_BK232, Q_BK233, Q_HK, Q_HB, Q_HO241, Q_HO244, Q_HO247, Q_HO250, Q_HO253, Q_HO256, Q_BK257, Q_GW257, Q_GE257, Q_NB232_257, Q_NB257_232, Q_NB233_257, Q_NB257_233, Q_BK257_e14, Q_X12_, Q_X13_, Q_D_HO241_HO244, Q_D_HO241_HO250, Q_D_HO241_HO253, Q_D_HO241_HO256, Q_D_HO244_HO247, Q_D_HO244_HO250, Q_D_HO244_HO253, Q_D_HO244_HO256, Q_D_HO247_HO250, Q_D_HO247_HO253, Q_D_HO247_HO256, Q_D_HO250_HO253, Q_D_HO253_HO256⟩ hb_ hon hoff
                 refine ⟨_, rfl, fun K hK => ?_⟩
                 have e69 : a.tmps[69]? = some (.pointer (some ⟨gb232, 1, none⟩)) := by rw [ha]; exact (putSel_off rfl).trans rfl
                 replace ha := aS_ ha
                 have HO_233000 := aS_ Q_HO_233000
                 have HO_233001 := aS_ Q_HO_233001
                 have BK232 := aS_ Q_BK232
                 have BK233 := aS_ Q_BK233
                 have HK := aS_ Q_HK
                 have HB := aS_ Q_HB
                 have hc0_ : w'.cell? ⟨gb232, 0, none⟩ = some (.slice Ao12 l1_0.length co12) := (blk_cell BK232.out 0).trans rfl
                 have hc1_ : w'.cell? ⟨gb232, 1, none⟩ = some (.slice Ao13 l1_1.length co13) := (blk_cell BK232.out 1).trans rfl
                 refine value_ (w1 := w') (v := .slice Ao13 l1_1.length co13) (by rfl) rfl ?_ ?_
                 ·go_simp
                  (try simp only [i64_w])
                  try rfl
                 refine hK.out _ _ ⟨v240, v243, v246, v249, v252, v255, gb257, m12_, m13_, (by rw [ha.out]; exact putSel_upk 4 hb_ rfl rfl rfl), Q_HO_233000, Q_HO_233001, Q_BK232, Q_BK233, Q_HK, Q_HB, Q_HO241, Q_HO244, Q_HO247, fun h0_ _ => absurd ((hoff 8 (by kernel_rfl)).symm.trans h0_) (by decide), Q_HO253, fun h0_ => absurd ((hoff 11 (by kernel_rfl)).symm.trans h0_) (by decide), Q_BK257, Q_GW257, Q_GE257, Q_NB232_257, Q_NB257_232, Q_NB233_257, Q_NB257_233, fun h0_ => absurd ((hoff 14 (by kernel_rfl)).symm.trans h0_) (by decide), fun h0_ => absurd ((hoff 12 (by kernel_rfl)).symm.trans h0_) (by decide), Q_X13_, Q_D_HO241_HO244, Q_D_HO241_HO250, Q_D_HO241_HO253, Q_D_HO241_HO256, Q_D_HO244_HO247, Q_D_HO244_HO250, Q_D_HO244_HO253, Q_D_HO244_HO256, Q_D_HO247_HO250, Q_D_HO247_HO253, Q_D_HO247_HO256, Q_D_HO250_HO253, Q_D_HO253_HO256⟩
                refine steps_cons ?_ ?_
                ·rintro b a w' ⟨v240, v243, v246, v249, v252, v255, gb257, m12_, m13_, ha, Q_HO_233000, Q_HO_233001, Q_BK232, Q_BK233, Q_HK, Q_HB, Q_HO241, Q_HO244, Q_HO247, Q_HO250, Q_HO253, Q_HO256, Q_BK257, Q_GW257, Q_GE257, Q_NB232_257, Q_NB257_232, Q_NB233_257, Q_NB257_233, Q_BK257_e14, Q_X12_, Q_X13_, Q_D_HO241_HO244, Q_D_HO241_HO250, Q_D_HO241_HO253, Q_D_HO241_HO256, Q_D_HO244_HO247, Q_D_HO244_HO250, Q_D_HO244_HO253, Q_D_HO244_HO256, Q_D_HO247_HO250, Q_D_HO247_HO253, Q_D_HO247_HO256, Q_D_HO250_HO253, Q_D_HO253_HO256⟩ hb_ hon hoff
                 refine ⟨_, rfl, fun K hK => ?_⟩
                 have e70 : a.tmps[70]? = some (.slice Ao13 l1_1.length co13) := by rw [ha]; exact putSel_on (e := (7, 70, .slice Ao13 l1_1.length co13)) 4 rfl rfl (hon 7 (by kernel_rfl)) rfl
                 replace ha := aS_ ha
                 have HO_233000 := aS_ Q_HO_233000
                 have HO_233001 := aS_ Q_HO_233001
                 have BK232 := aS_ Q_BK232
                 have BK233 := aS_ Q_BK233
                 have HK := aS_ Q_HK
                 have HB := aS_ Q_HB
                 have HO244 := aS_ (Q_HO244 (hon 4 (by kernel_rfl)))
                 have HO247 := aS_ (Q_HO247 (hon 5 (by kernel_rfl)))
                 have R_HO_233000 := aS_ (Kd.R_reok rfl (ok := (fun k_ => ((P1_0_ k_ ∨ P1_1_ k_) ∨ w.heap.size ≤ k_) ∧ some k_ ≠ (v243 : Value).ownBlock ∧ some k_ ≠ (v246 : Value).ownBlock ∧ some k_ ≠ (.slice Ao13 l1_1.length co13 : Value).ownBlock)) (Q_HO_233000) (fun k_ e_ => ⟨((Q_HO_233000).1 k_ e_).1, (fun q_ => ((Q_HO244 (hon 4 (by kernel_rfl))).1 k_ q_.symm).2.1 e_.symm), (fun q_ => ((Q_HO247 (hon 5 (by kernel_rfl))).1 k_ q_.symm).2.1 e_.symm), ((Q_HO_233000).1 k_ e_).2⟩))
                 have R_HO_233001 := aS_ (Kd.R_reok rfl (ok := (fun k_ => ((P1_0_ k_ ∨ P1_1_ k_) ∨ w.heap.size ≤ k_) ∧ some k_ ≠ (v243 : Value).ownBlock ∧ some k_ ≠ (v246 : Value).ownBlock ∧ some k_ ≠ (.slice Ao12 l1_0.length co12 : Value).ownBlock)) (Q_HO_233001) (fun k_ e_ => ⟨((Q_HO_233001).1 k_ e_).1, (fun q_ => ((Q_HO244 (hon 4 (by kernel_rfl))).1 k_ q_.symm).2.2 e_.symm), (fun q_ => ((Q_HO247 (hon 5 (by kernel_rfl))).1 k_ q_.symm).2.2 e_.symm), ((Q_HO_233001).1 k_ e_).2⟩))
                 have R_HO244 := aS_ (Kd.R_reok rfl (ok := (fun k_ => ((P1_0_ k_ ∨ P1_1_ k_) ∨ w.heap.size ≤ k_) ∧ some k_ ≠ (v246 : Value).ownBlock ∧ some k_ ≠ (.slice Ao12 l1_0.length co12 : Value).ownBlock ∧ some k_ ≠ (.slice Ao13 l1_1.length co13 : Value).ownBlock)) (Q_HO244 (hon 4 (by kernel_rfl))) (fun k_ e_ => ⟨((Q_HO244 (hon 4 (by kernel_rfl))).1 k_ e_).1, (fun q_ => (Q_D_HO244_HO247 (hon 4 (by kernel_rfl)) (hon 5 (by kernel_rfl))) k_ e_ q_.symm), ((Q_HO244 (hon 4 (by kernel_rfl))).1 k_ e_).2.1, ((Q_HO244 (hon 4 (by kernel_rfl))).1 k_ e_).2.2⟩))
                 have R_HO247 := aS_ (Kd.R_reok rfl (ok := (fun k_ => ((P1_0_ k_ ∨ P1_1_ k_) ∨ w.heap.size ≤ k_) ∧ some k_ ≠ (v243 : Value).ownBlock ∧ some k_ ≠ (.slice Ao12 l1_0.length co12 : Value).ownBlock ∧ some k_ ≠ (.slice Ao13 l1_1.length co13 : Value).ownBlock)) (Q_HO247 (hon 5 (by kernel_rfl))) (fun k_ e_ => ⟨((Q_HO247 (hon 5 (by kernel_rfl))).1 k_ e_).1, (fun q_ => (Q_D_HO244_HO247 (hon 4 (by kernel_rfl)) (hon 5 (by kernel_rfl))) k_ q_.symm e_), ((Q_HO247 (hon 5 (by kernel_rfl))).1 k_ e_).2.1, ((Q_HO247 (hon 5 (by kernel_rfl))).1 k_ e_).2.2⟩))
                 clear HO_233000
                 have HO_233000 := R_HO_233000
                 clear R_HO_233000 HO_233001
                 have HO_233001 := R_HO_233001
                 clear R_HO_233001 HO244
                 have HO244 := R_HO244
                 clear R_HO244 HO247
                 have HO247 := R_HO247
                 clear R_HO247
                 refine goes_ Try.func26 (by kernel_rfl) rfl #[.slice Ao13 l1_1.length co13] (by rfl) rfl rfl (by first | (simp only [List.map_toArray, List.map_cons, List.map_nil, Act.eval, Array.getD_eq_getD_getElem?, Option.getD_some, e70]; done) | (simp only [List.map_toArray, List.map_cons, List.map_nil, Act.eval, Array.getD_eq_getD_getElem?, Option.getD_some, e70]; rfl)) ?_
                 with_reducible refine (slices_Clone_int_int.calls _ _ l1_1 t248 _ ?side1 ?side2 A47.out).mono ?_
                 (case side1 => repeat (first | exact (Kd.R_reads' HO_233001.out).2.2 | (with_reducible refine Kd.C_alloc ?_ _) | (with_reducible refine Kd.C_drewN ?_ _) | (with_reducible refine Kd.C_drew ?_)))
                 (case side2 => exact (Kd.R_reads' HO_233001.out).2.1)
                 rintro e w61 ⟨v249, rfl, ho0, hb⟩
                 have DN_HO241 := fun (h0_ : b 2 = true) (h1_ : b 5 = false) (k_ : Nat) (e1_ : (v249 : Value).ownBlock = some k_) (e2_ : (v240 : Value).ownBlock = some k_) => (show False from Kd.fresh' (Kd.R_lt (Q_HO241 h0_ h1_)) k_ (Kd.R_base ho0 k_ e1_) e2_.symm)
                 have DN_HO244 := fun (h0_ : b 4 = true) (k_ : Nat) (e1_ : (v249 : Value).ownBlock = some k_) (e2_ : (v243 : Value).ownBlock = some k_) => (show False from Kd.fresh' (Kd.R_lt (Q_HO244 h0_)) k_ (Kd.R_base ho0 k_ e1_) e2_.symm)
                 have DN_HO247 := fun (h0_ : b 5 = true) (k_ : Nat) (e1_ : (v249 : Value).ownBlock = some k_) (e2_ : (v246 : Value).ownBlock = some k_) => (show False from Kd.fresh' (Kd.R_lt (Q_HO247 h0_)) k_ (Kd.R_base ho0 k_ e1_) e2_.symm)
                 have DN_HO253 := fun (h0_ : b 10 = true) (k_ : Nat) (e1_ : (v249 : Value).ownBlock = some k_) (e2_ : (v252 : Value).ownBlock = some k_) => (show False from Kd.fresh' (Kd.R_lt (Q_HO253 h0_)) k_ (Kd.R_base ho0 k_ e1_) e2_.symm)
                 refine ⟨_, rfl, ?_⟩
                 have n0_ := aS_ (Kd.R_elder' (by (with_reducible repeat (first | apply rA_ | apply rN_ | apply rD_)); exact HO_233000.out) (Kd.R_base ho0) hb)
                 have n1_ := aS_ (Kd.R_elder' (by (with_reducible repeat (first | apply rA_ | apply rN_ | apply rD_)); exact HO_233001.out) (Kd.R_base ho0) hb)
                 have n2_ := aS_ (Kd.R_elder' (by (with_reducible repeat (first | apply rA_ | apply rN_ | apply rD_)); exact HO244.out) (Kd.R_base ho0) hb)
                 have n3_ := aS_ (Kd.R_elder' (by (with_reducible repeat (first | apply rA_ | apply rN_ | apply rD_)); exact HO247.out) (Kd.R_base ho0) hb)
                 have n4_ := aS_ (Kd.R_lower (Kd.R_new' (Kd.R_new' (Kd.R_new' (Kd.R_new' (Kd.R_newM (M := fun k_ => ((P1_0_ k_ ∨ P1_1_ k_) ∨ w.heap.size ≤ k_)) ho0 (by first | exact HK.out.1 | exact (show Kept w _ (fun k_ => P1_0_ k_ ∨ P1_1_ k_) from by repeat (first | (with_reducible first | exact HK.out | apply Kept.alloc | apply Kept.drewN | apply Kept.drew | refine Kept.setCell ?_ (.inr GW232.out) _ | refine Kept.setCell ?_ (.inr GW233.out) _) | exact HK.out)).1) (fun k_ h_ => .inr h_)) (Kd.R_lt (by (with_reducible repeat (first | apply rA_ | apply rN_ | apply rD_)); exact HO_233000.out))) (Kd.R_lt (by (with_reducible repeat (first | apply rA_ | apply rN_ | apply rD_)); exact HO_233001.out))) (Kd.R_lt (by (with_reducible repeat (first | apply rA_ | apply rN_ | apply rD_)); exact HO244.out))) (Kd.R_lt (by (with_reducible repeat (first | apply rA_ | apply rN_ | apply rD_)); exact HO247.out))) (below_size (by repeat (first | (with_reducible first | exact HB.out | apply bA_ | apply pN_ | apply bD_ | refine bS_ ?_ GE232.out | refine bS_ ?_ GE233.out) | exact HB.out))))
                 have n5_ := aS_ (blk_below (g := gb232) (o := .cells #[.slice Ao12 l1_0.length co12, .slice Ao13 l1_1.length co13] 34 (0, 0)) (by (with_reducible repeat (first | refine kN_ ?_ _ | refine kD_ ?_ | refine kA_ ?_ _)); exact BK232.out) hb)
                 have n6_ := aS_ (blk_below (g := gb233) (o := .cells #[.slice none 0 0, .slice none 0 0] 34 (0, 0)) (by (with_reducible repeat (first | refine kN_ ?_ _ | refine kD_ ?_ | refine kA_ ?_ _)); exact BK233.out) hb)
                 have n7_ := aS_ (Kept.below (S := (fun k_ => P1_0_ k_ ∨ P1_1_ k_)) (by repeat (first | (with_reducible first | exact HK.out | apply Kept.alloc | apply Kept.drewN | apply Kept.drew | refine Kept.setCell ?_ (.inr GW232.out) _ | refine Kept.setCell ?_ (.inr GW233.out) _) | exact HK.out)) hb)
                 have n8_ := aS_ (below_step (by repeat (first | (with_reducible first | exact HB.out | apply bA_ | apply pN_ | apply bD_ | refine bS_ ?_ GE232.out | refine bS_ ?_ GE233.out) | exact HB.out)) hb)
                 have z_HO253 := fun (h0_ : b 10 = true) => (show Kd.R (Kd.int .i64) 3 w61 w0.heap.size (fun k_ => ((P1_0_ k_ ∨ P1_1_ k_) ∨ w.heap.size ≤ k_) ∧ some k_ ≠ (.slice Ao12 l1_0.length co12 : Value).ownBlock ∧ some k_ ≠ (.slice Ao13 l1_1.length co13 : Value).ownBlock) v252 y251 from by first | exact (Kd.R_elder' (by (with_reducible repeat (first | apply rA_ | apply rN_ | apply rD_)); exact (Q_HO253 h0_)) (Kd.R_base ho0) hb) | exact Kd.R_mono (Kd.R_elder' (by (with_reducible repeat (first | apply rA_ | apply rN_ | apply rD_)); exact (Q_HO253 h0_)) (Kd.R_base ho0) hb) (fun _ hk => by first | trivial | exact hk | exact hk.1 | (simp only [hk, ne_eq, not_false_eq_true, and_self])))
                 have z_BK257 := fun (h0_ : b 13 = true) (h1_ : b 14 = false) => (show w61.heap[gb257]? = some (.cells #[.slice none 0 0, .slice none 0 0] 34 (0, 0)) from by first | exact (blk_below (g := gb257) (o := .cells #[.slice none 0 0, .slice none 0 0] 34 (0, 0)) (by (with_reducible repeat (first | refine kN_ ?_ _ | refine kD_ ?_ | refine kA_ ?_ _)); exact (Q_BK257 h0_ h1_)) hb))
                 clear HO_233000 HO_233001 HO244 HO247 BK232 BK233 HK HB
                 have HO_233000 := n0_
                 have HO_233001 := n1_
                 have HO244 := n2_
                 have HO247 := n3_
                 have HO250 := n4_
                 have BK232 := n5_
                 have BK233 := n6_
                 have HK := n7_
                 have HB := n8_
                 clear n0_ n1_ n2_ n3_ n4_ n5_ n6_ n7_ n8_
                 (try clear hb)
                 (try clear hb2)
                 (try clear hk)
                 (try clear hi)
                 (try clear ho0)
                 refine hK.out _ _ ⟨v240, v243, v246, v249, v252, v255, gb257, m12_, m13_, (by rw [ha.out]; exact putSel_upk 5 hb_ rfl rfl rfl), (by (with_reducible repeat (first | apply rA_ | apply rN_ | apply rD_)); exact Kd.R_mono HO_233000.out (fun _ hk => by first | exact ⟨hk.1.1, ⟨hk.1.2.1, ⟨hk.1.2.2.1, ⟨hk.2, hk.1.2.2.2⟩⟩⟩⟩ | (simp only [hk, ne_eq, not_false_eq_true, and_self]))), (by (with_reducible repeat (first | apply rA_ | apply rN_ | apply rD_)); exact Kd.R_mono HO_233001.out (fun _ hk => by first | exact ⟨hk.1.1, ⟨hk.1.2.1, ⟨hk.1.2.2.1, ⟨hk.2, hk.1.2.2.2⟩⟩⟩⟩ | (simp only [hk, ne_eq, not_false_eq_true, and_self]))), (by (with_reducible repeat (first | refine kN_ ?_ _ | refine kD_ ?_ | refine kA_ ?_ _)); exact BK232.out), (by (with_reducible repeat (first | refine kN_ ?_ _ | refine kD_ ?_ | refine kA_ ?_ _)); exact BK233.out), (by repeat (first | (with_reducible first | exact HK.out | apply Kept.alloc | apply Kept.drewN | apply Kept.drew | refine Kept.setCell ?_ (.inr GW232.out) _ | refine Kept.setCell ?_ (.inr GW233.out) _) | exact HK.out)), (by repeat (first | (with_reducible first | exact HB.out | apply bA_ | apply pN_ | apply bD_ | refine bS_ ?_ GE232.out | refine bS_ ?_ GE233.out) | exact HB.out)), fun _ h1_ => absurd ((hon 5 (by kernel_rfl)).symm.trans h1_) (by decide), fun _ => (by (with_reducible repeat (first | apply rA_ | apply rN_ | apply rD_)); exact Kd.R_mono HO244.out (fun _ hk => by first | exact ⟨hk.1.1, ⟨hk.1.2.1, ⟨hk.2, ⟨hk.1.2.2.1, hk.1.2.2.2⟩⟩⟩⟩ | (simp only [hk, ne_eq, not_false_eq_true, and_self]))), fun _ => (by (with_reducible repeat (first | apply rA_ | apply rN_ | apply rD_)); exact Kd.R_mono HO247.out (fun _ hk => by first | exact ⟨hk.1.1, ⟨hk.1.2.1, ⟨hk.2, ⟨hk.1.2.2.1, hk.1.2.2.2⟩⟩⟩⟩ | (simp only [hk, ne_eq, not_false_eq_true, and_self]))), fun _ _ => (by (with_reducible repeat (first | apply rA_ | apply rN_ | apply rD_)); exact Kd.R_mono HO250.out (fun _ hk => by first | exact ⟨hk.1.1.1.1.1, ⟨hk.1.2, ⟨hk.2, ⟨hk.1.1.1.2, hk.1.1.2⟩⟩⟩⟩ | (simp only [hk, ne_eq, not_false_eq_true, and_self]))), z_HO253, fun h0_ => absurd ((hoff 11 (by kernel_rfl)).symm.trans h0_) (by decide), z_BK257, Q_GW257, Q_GE257, Q_NB232_257, Q_NB257_232, Q_NB233_257, Q_NB257_233, fun h0_ => absurd ((hoff 14 (by kernel_rfl)).symm.trans h0_) (by decide), fun h0_ => absurd ((hoff 12 (by kernel_rfl)).symm.trans h0_) (by decide), Q_X13_, Q_D_HO241_HO244, fun h0_ h1_ h2_ h3_ k_ e1_ e2_ => DN_HO241 h0_ h1_ k_ e2_ e1_, Q_D_HO241_HO253, Q_D_HO241_HO256, Q_D_HO244_HO247, fun h0_ h1_ h2_ k_ e1_ e2_ => DN_HO244 h0_ k_ e2_ e1_, Q_D_HO244_HO253, Q_D_HO244_HO256, fun h0_ h1_ h2_ k_ e1_ e2_ => DN_HO247 h0_ k_ e2_ e1_, Q_D_HO247_HO253, Q_D_HO247_HO256, fun h0_ h1_ h2_ k_ e1_ e2_ => DN_HO253 h2_ k_ e1_ e2_, Q_D_HO253_HO256⟩
                refine steps_cons ?_ ?_
                ·rintro b a w' ⟨v240, v243, v246, v249, v252, v255, gb257, m12_, m13_, ha, Q_HO_233000, Q_HO_233001, Q_BK232, Q_BK233, Q_HK, Q_HB, Q_HO241, Q_HO244, Q_HO247, Q_HO250, Q_HO253, Q_HO256, Q_BK257, Q_GW257, Q_GE257, Q_NB232_257, Q_NB257_232, Q_NB233_257, Q_NB257_233, Q_BK257_e14, Q_X12_, Q_X13_, Q_D_HO241_HO244, Q_D_HO241_HO250, Q_D_HO241_HO253, Q_D_HO241_HO256, Q_D_HO244_HO247, Q_D_HO244_HO250, Q_D_HO244_HO253, Q_D_HO244_HO256, Q_D_HO247_HO250, Q_D_HO247_HO253, Q_D_HO247_HO256, Q_D_HO250_HO253, Q_D_HO253_HO256⟩ hb_ hon hoff
                 refine ⟨_, rfl, fun K hK => ?_⟩
                 have e72 : a.tmps[72]? = some (.int .i64 x10_30) := by rw [ha]; exact (putSel_off rfl).trans rfl
                 replace ha := aS_ ha
                 have HO_233000 := aS_ Q_HO_233000
                 have HO_233001 := aS_ Q_HO_233001
                 have BK232 := aS_ Q_BK232
                 have BK233 := aS_ Q_BK233
                 have HK := aS_ Q_HK
                 have HB := aS_ Q_HB
                 refine Kd.R_lit_step (Kd.int .i64) _ 3 ?hg (N := 73) ?hd (xs := ([x10_30] : List Int)) (inner := [.int .i64 x10_30]) (ok := fun _ => True) (okp := fun _ => True) ?hr ?hp (fun _ hk => hk) trivial (Below.refl _ _) (Nat.le_refl _) (by simp) ?_; (case hd => rfl); (case hg => rfl); (case hr => first | (go_simp; done) | (go_simp; rfl)); (case hp => exact (Reps.one (show Kd.M (Kd.int .i64) _ _ _ x10_30 [.int .i64 x10_30] from rfl) (Reps.none _ _)))
                 intro v252 w55 ho56 hb hg_ hnew_
                 have DN_HO241 := fun (h0_ : b 2 = true) (h1_ : b 5 = false) (k_ : Nat) (e1_ : (v252 : Value).ownBlock = some k_) (e2_ : (v240 : Value).ownBlock = some k_) => (show False from Kd.fresh' (Kd.R_lt (Q_HO241 h0_ h1_)) k_ (Kd.R_base ho56 k_ e1_) e2_.symm)
                 have DN_HO244 := fun (h0_ : b 4 = true) (k_ : Nat) (e1_ : (v252 : Value).ownBlock = some k_) (e2_ : (v243 : Value).ownBlock = some k_) => (show False from Kd.fresh' (Kd.R_lt (Q_HO244 h0_)) k_ (Kd.R_base ho56 k_ e1_) e2_.symm)
                 have DN_HO247 := fun (h0_ : b 5 = true) (k_ : Nat) (e1_ : (v252 : Value).ownBlock = some k_) (e2_ : (v246 : Value).ownBlock = some k_) => (show False from Kd.fresh' (Kd.R_lt (Q_HO247 h0_)) k_ (Kd.R_base ho56 k_ e1_) e2_.symm)
                 have DN_HO250 := fun (h0_ : b 8 = true) (h1_ : b 11 = false) (k_ : Nat) (e1_ : (v252 : Value).ownBlock = some k_) (e2_ : (v249 : Value).ownBlock = some k_) => (show False from Kd.fresh' (Kd.R_lt (Q_HO250 h0_ h1_)) k_ (Kd.R_base ho56 k_ e1_) e2_.symm)
                 have DN_HO256 := fun (h0_ : b 11 = true) (k_ : Nat) (e1_ : (v252 : Value).ownBlock = some k_) (e2_ : (v255 : Value).ownBlock = some k_) => (show False from Kd.fresh' (Kd.R_lt (Q_HO256 h0_)) k_ (Kd.R_base ho56 k_ e1_) e2_.symm)
                 clear hg_ hnew_
                 (first | rw [← Ny251.out] at ho56 | (simp only [Int.reduceToNat] at ho56; rw [← Ny251.out] at ho56))
                 have n0_ := aS_ (Kd.R_elder' (by (with_reducible repeat (first | apply rA_ | apply rN_ | apply rD_)); exact HO_233000.out) (Kd.R_base ho56) hb)
                 have n1_ := aS_ (Kd.R_elder' (by (with_reducible repeat (first | apply rA_ | apply rN_ | apply rD_)); exact HO_233001.out) (Kd.R_base ho56) hb)
                 have n2_ := aS_ (Kd.R_lower (Kd.R_new' (Kd.R_new' (Kd.R_newM (M := fun k_ => ((P1_0_ k_ ∨ P1_1_ k_) ∨ w.heap.size ≤ k_)) ho56 (by first | exact HK.out.1 | exact (show Kept w _ (fun k_ => P1_0_ k_ ∨ P1_1_ k_) from by repeat (first | (with_reducible first | exact HK.out | apply Kept.alloc | apply Kept.drewN | apply Kept.drew | refine Kept.setCell ?_ (.inr GW232.out) _ | refine Kept.setCell ?_ (.inr GW233.out) _) | exact HK.out)).1) (fun k_ h_ => .inr h_)) (Kd.R_lt (by (with_reducible repeat (first | apply rA_ | apply rN_ | apply rD_)); exact HO_233000.out))) (Kd.R_lt (by (with_reducible repeat (first | apply rA_ | apply rN_ | apply rD_)); exact HO_233001.out))) (below_size (by repeat (first | (with_reducible first | exact HB.out | apply bA_ | apply pN_ | apply bD_ | refine bS_ ?_ GE232.out | refine bS_ ?_ GE233.out) | exact HB.out))))
                 have n3_ := aS_ (blk_below (g := gb232) (o := .cells #[.slice Ao12 l1_0.length co12, .slice Ao13 l1_1.length co13] 34 (0, 0)) (by (with_reducible repeat (first | refine kN_ ?_ _ | refine kD_ ?_ | refine kA_ ?_ _)); exact BK232.out) hb)
                 have n4_ := aS_ (blk_below (g := gb233) (o := .cells #[.slice none 0 0, .slice none 0 0] 34 (0, 0)) (by (with_reducible repeat (first | refine kN_ ?_ _ | refine kD_ ?_ | refine kA_ ?_ _)); exact BK233.out) hb)
                 have n5_ := aS_ (Kept.below (S := (fun k_ => P1_0_ k_ ∨ P1_1_ k_)) (by repeat (first | (with_reducible first | exact HK.out | apply Kept.alloc | apply Kept.drewN | apply Kept.drew | refine Kept.setCell ?_ (.inr GW232.out) _ | refine Kept.setCell ?_ (.inr GW233.out) _) | exact HK.out)) hb)
                 have n6_ := aS_ (below_step (by repeat (first | (with_reducible first | exact HB.out | apply bA_ | apply pN_ | apply bD_ | refine bS_ ?_ GE232.out | refine bS_ ?_ GE233.out) | exact HB.out)) hb)
                 have z_HO241 := fun (h0_ : b 2 = true) (h1_ : b 5 = false) => (show Kd.R (Kd.int .i64) 3 w55 w0.heap.size (fun k_ => ((P1_0_ k_ ∨ P1_1_ k_) ∨ w.heap.size ≤ k_) ∧ some k_ ≠ (.slice Ao12 l1_0.length co12 : Value).ownBlock ∧ some k_ ≠ (.slice Ao13 l1_1.length co13 : Value).ownBlock) v240 t239 from by first | exact (Kd.R_elder' (by (with_reducible repeat (first | apply rA_ | apply rN_ | apply rD_)); exact (Q_HO241 h0_ h1_)) (Kd.R_base ho56) hb) | exact Kd.R_mono (Kd.R_elder' (by (with_reducible repeat (first | apply rA_ | apply rN_ | apply rD_)); exact (Q_HO241 h0_ h1_)) (Kd.R_base ho56) hb) (fun _ hk => by first | trivial | exact hk | exact hk.1 | (simp only [hk, ne_eq, not_false_eq_true, and_self])))
                 have z_HO244 := fun (h0_ : b 4 = true) => (show Kd.R (Kd.int .i64) 3 w55 w0.heap.size (fun k_ => ((P1_0_ k_ ∨ P1_1_ k_) ∨ w.heap.size ≤ k_) ∧ some k_ ≠ (.slice Ao12 l1_0.length co12 : Value).ownBlock ∧ some k_ ≠ (.slice Ao13 l1_1.length co13 : Value).ownBlock) v243 y242 from by first | exact (Kd.R_elder' (by (with_reducible repeat (first | apply rA_ | apply rN_ | apply rD_)); exact (Q_HO244 h0_)) (Kd.R_base ho56) hb) | exact Kd.R_mono (Kd.R_elder' (by (with_reducible repeat (first | apply rA_ | apply rN_ | apply rD_)); exact (Q_HO244 h0_)) (Kd.R_base ho56) hb) (fun _ hk => by first | trivial | exact hk | exact hk.1 | (simp only [hk, ne_eq, not_false_eq_true, and_self])))
                 have z_HO247 := fun (h0_ : b 5 = true) => (show Kd.R (Kd.int .i64) 3 w55 w0.heap.size (fun k_ => ((P1_0_ k_ ∨ P1_1_ k_) ∨ w.heap.size ≤ k_) ∧ some k_ ≠ (.slice Ao12 l1_0.length co12 : Value).ownBlock ∧ some k_ ≠ (.slice Ao13 l1_1.length co13 : Value).ownBlock) v246 y245 from by first | exact (Kd.R_elder' (by (with_reducible repeat (first | apply rA_ | apply rN_ | apply rD_)); exact (Q_HO247 h0_)) (Kd.R_base ho56) hb) | exact Kd.R_mono (Kd.R_elder' (by (with_reducible repeat (first | apply rA_ | apply rN_ | apply rD_)); exact (Q_HO247 h0_)) (Kd.R_base ho56) hb) (fun _ hk => by first | trivial | exact hk | exact hk.1 | (simp only [hk, ne_eq, not_false_eq_true, and_self])))
                 have z_HO250 := fun (h0_ : b 8 = true) (h1_ : b 11 = false) => (show Kd.R (Kd.int .i64) 3 w55 w0.heap.size (fun k_ => ((P1_0_ k_ ∨ P1_1_ k_) ∨ w.heap.size ≤ k_) ∧ some k_ ≠ (.slice Ao12 l1_0.length co12 : Value).ownBlock ∧ some k_ ≠ (.slice Ao13 l1_1.length co13 : Value).ownBlock) v249 t248 from by first | exact (Kd.R_elder' (by (with_reducible repeat (first | apply rA_ | apply rN_ | apply rD_)); exact (Q_HO250 h0_ h1_)) (Kd.R_base ho56) hb) | exact Kd.R_mono (Kd.R_elder' (by (with_reducible repeat (first | apply rA_ | apply rN_ | apply rD_)); exact (Q_HO250 h0_ h1_)) (Kd.R_base ho56) hb) (fun _ hk => by first | trivial | exact hk | exact hk.1 | (simp only [hk, ne_eq, not_false_eq_true, and_self])))
                 have z_BK257 := fun (h0_ : b 13 = true) (h1_ : b 14 = false) => (show w55.heap[gb257]? = some (.cells #[.slice none 0 0, .slice none 0 0] 34 (0, 0)) from by first | exact (blk_below (g := gb257) (o := .cells #[.slice none 0 0, .slice none 0 0] 34 (0, 0)) (by (with_reducible repeat (first | refine kN_ ?_ _ | refine kD_ ?_ | refine kA_ ?_ _)); exact (Q_BK257 h0_ h1_)) hb))
                 clear HO_233000 HO_233001 BK232 BK233 HK HB
                 have HO_233000 := n0_
                 have HO_233001 := n1_
                 have HO253 := n2_
                 have BK232 := n3_
                 have BK233 := n4_
                 have HK := n5_
                 have HB := n6_
                 clear n0_ n1_ n2_ n3_ n4_ n5_ n6_
                 clear hb ho56
                 refine hK.out _ _ ⟨v240, v243, v246, v249, v252, v255, gb257, m12_, m13_, (by rw [ha.out]; exact putSel_upk 6 hb_ rfl rfl rfl), (by (with_reducible repeat (first | apply rA_ | apply rN_ | apply rD_)); exact Kd.R_mono HO_233000.out (fun _ hk => by first | exact ⟨hk.1.1, ⟨hk.2, hk.1.2⟩⟩ | (simp only [hk, ne_eq, not_false_eq_true, and_self]))), (by (with_reducible repeat (first | apply rA_ | apply rN_ | apply rD_)); exact Kd.R_mono HO_233001.out (fun _ hk => by first | exact ⟨hk.1.1, ⟨hk.2, hk.1.2⟩⟩ | (simp only [hk, ne_eq, not_false_eq_true, and_self]))), (by (with_reducible repeat (first | refine kN_ ?_ _ | refine kD_ ?_ | refine kA_ ?_ _)); exact BK232.out), (by (with_reducible repeat (first | refine kN_ ?_ _ | refine kD_ ?_ | refine kA_ ?_ _)); exact BK233.out), (by repeat (first | (with_reducible first | exact HK.out | apply Kept.alloc | apply Kept.drewN | apply Kept.drew | refine Kept.setCell ?_ (.inr GW232.out) _ | refine Kept.setCell ?_ (.inr GW233.out) _) | exact HK.out)), (by repeat (first | (with_reducible first | exact HB.out | apply bA_ | apply pN_ | apply bD_ | refine bS_ ?_ GE232.out | refine bS_ ?_ GE233.out) | exact HB.out)), z_HO241, z_HO244, z_HO247, z_HO250, fun _ => (by (with_reducible repeat (first | apply rA_ | apply rN_ | apply rD_)); exact Kd.R_mono HO253.out (fun _ hk => by first | exact ⟨hk.1.1.1, ⟨hk.1.2, hk.2⟩⟩ | (simp only [hk, ne_eq, not_false_eq_true, and_self]))), fun h0_ => absurd ((hoff 11 (by kernel_rfl)).symm.trans h0_) (by decide), z_BK257, Q_GW257, Q_GE257, Q_NB232_257, Q_NB257_232, Q_NB233_257, Q_NB257_233, fun h0_ => absurd ((hoff 14 (by kernel_rfl)).symm.trans h0_) (by decide), fun h0_ => absurd ((hoff 12 (by kernel_rfl)).symm.trans h0_) (by decide), Q_X13_, Q_D_HO241_HO244, Q_D_HO241_HO250, fun h0_ h1_ h2_ k_ e1_ e2_ => DN_HO241 h0_ h1_ k_ e2_ e1_, Q_D_HO241_HO256, Q_D_HO244_HO247, Q_D_HO244_HO250, fun h0_ h1_ k_ e1_ e2_ => DN_HO244 h0_ k_ e2_ e1_, Q_D_HO244_HO256, Q_D_HO247_HO250, fun h0_ h1_ k_ e1_ e2_ => DN_HO247 h0_ k_ e2_ e1_, Q_D_HO247_HO256, fun h0_ h1_ h2_ k_ e1_ e2_ => DN_HO250 h0_ h1_ k_ e2_ e1_, fun h0_ h1_ k_ e1_ e2_ => DN_HO256 h1_ k_ e1_ e2_⟩
                refine steps_cons ?_ ?_
                ·rintro b a w' ⟨v240, v243, v246, v249, v252, v255, gb257, m12_, m13_, ha, Q_HO_233000, Q_HO_233001, Q_BK232, Q_BK233, Q_HK, Q_HB, Q_HO241, Q_HO244, Q_HO247, Q_HO250, Q_HO253, Q_HO256, Q_BK257, Q_GW257, Q_GE257, Q_NB232_257, Q_NB257_232, Q_NB233_257, Q_NB257_233, Q_BK257_e14, Q_X12_, Q_X13_, Q_D_HO241_HO244, Q_D_HO241_HO250, Q_D_HO241_HO253, Q_D_HO241_HO256, Q_D_HO244_HO247, Q_D_HO244_HO250, Q_D_HO244_HO253, Q_D_HO244_HO256, Q_D_HO247_HO250, Q_D_HO247_HO253, Q_D_HO247_HO256, Q_D_HO250_HO253, Q_D_HO253_HO256⟩ hb_ hon hoff
                 refine ⟨_, rfl, fun K hK => ?_⟩
                 have e71 : a.tmps[71]? = some (v249) := by rw [ha]; exact putSel_on (e := (8, 71, v249)) 5 rfl rfl (hon 8 (by kernel_rfl)) rfl
                 have e73 : a.tmps[73]? = some (v252) := by rw [ha]; exact putSel_on (e := (10, 73, v252)) 6 rfl rfl (hon 10 (by kernel_rfl)) rfl
                 replace ha := aS_ ha
                 have HO_233000 := aS_ Q_HO_233000
                 have HO_233001 := aS_ Q_HO_233001
                 have BK232 := aS_ Q_BK232
                 have BK233 := aS_ Q_BK233
                 have HK := aS_ Q_HK
                 have HB := aS_ Q_HB
                 have HO244 := aS_ (Q_HO244 (hon 4 (by kernel_rfl)))
                 have HO247 := aS_ (Q_HO247 (hon 5 (by kernel_rfl)))
                 have HO250 := aS_ (Q_HO250 (hon 8 (by kernel_rfl)) hb_)
                 have HO253 := aS_ (Q_HO253 (hon 10 (by kernel_rfl)))
                 have R_HO_233000 := aS_ (Kd.R_reok rfl (ok := (fun k_ => ((P1_0_ k_ ∨ P1_1_ k_) ∨ w.heap.size ≤ k_) ∧ some k_ ≠ (v243 : Value).ownBlock ∧ some k_ ≠ (v246 : Value).ownBlock ∧ some k_ ≠ (v249 : Value).ownBlock ∧ some k_ ≠ (v252 : Value).ownBlock ∧ some k_ ≠ (.slice Ao13 l1_1.length co13 : Value).ownBlock)) (Q_HO_233000) (fun k_ e_ => ⟨((Q_HO_233000).1 k_ e_).1, (fun q_ => ((Q_HO244 (hon 4 (by kernel_rfl))).1 k_ q_.symm).2.1 e_.symm), (fun q_ => ((Q_HO247 (hon 5 (by kernel_rfl))).1 k_ q_.symm).2.1 e_.symm), (fun q_ => ((Q_HO250 (hon 8 (by kernel_rfl)) hb_).1 k_ q_.symm).2.1 e_.symm), (fun q_ => ((Q_HO253 (hon 10 (by kernel_rfl))).1 k_ q_.symm).2.1 e_.symm), ((Q_HO_233000).1 k_ e_).2⟩))
                 have R_HO_233001 := aS_ (Kd.R_reok rfl (ok := (fun k_ => ((P1_0_ k_ ∨ P1_1_ k_) ∨ w.heap.size ≤ k_) ∧ some k_ ≠ (v243 : Value).ownBlock ∧ some k_ ≠ (v246 : Value).ownBlock ∧ some k_ ≠ (v249 : Value).ownBlock ∧ some k_ ≠ (v252 : Value).ownBlock ∧ some k_ ≠ (.slice Ao12 l1_0.length co12 : Value).ownBlock)) (Q_HO_233001) (fun k_ e_ => ⟨((Q_HO_233001).1 k_ e_).1, (fun q_ => ((Q_HO244 (hon 4 (by kernel_rfl))).1 k_ q_.symm).2.2 e_.symm), (fun q_ => ((Q_HO247 (hon 5 (by kernel_rfl))).1 k_ q_.symm).2.2 e_.symm), (fun q_ => ((Q_HO250 (hon 8 (by kernel_rfl)) hb_).1 k_ q_.symm).2.2 e_.symm), (fun q_ => ((Q_HO253 (hon 10 (by kernel_rfl))).1 k_ q_.symm).2.2 e_.symm), ((Q_HO_233001).1 k_ e_).2⟩))
                 have R_HO244 := aS_ (Kd.R_reok rfl (ok := (fun k_ => ((P1_0_ k_ ∨ P1_1_ k_) ∨ w.heap.size ≤ k_) ∧ some k_ ≠ (v246 : Value).ownBlock ∧ some k_ ≠ (v249 : Value).ownBlock ∧ some k_ ≠ (v252 : Value).ownBlock ∧ some k_ ≠ (.slice Ao12 l1_0.length co12 : Value).ownBlock ∧ some k_ ≠ (.slice Ao13 l1_1.length co13 : Value).ownBlock)) (Q_HO244 (hon 4 (by kernel_rfl))) (fun k_ e_ => ⟨((Q_HO244 (hon 4 (by kernel_rfl))).1 k_ e_).1, (fun q_ => (Q_D_HO244_HO247 (hon 4 (by kernel_rfl)) (hon 5 (by kernel_rfl))) k_ e_ q_.symm), (fun q_ => (Q_D_HO244_HO250 (hon 4 (by kernel_rfl)) (hon 8 (by kernel_rfl)) hb_) k_ e_ q_.symm), (fun q_ => (Q_D_HO244_HO253 (hon 4 (by kernel_rfl)) (hon 10 (by kernel_rfl))) k_ e_ q_.symm), ((Q_HO244 (hon 4 (by kernel_rfl))).1 k_ e_).2.1, ((Q_HO244 (hon 4 (by kernel_rfl))).1 k_ e_).2.2⟩))
                 have R_HO247 := aS_ (Kd.R_reok rfl (ok := (fun k_ => ((P1_0_ k_ ∨ P1_1_ k_) ∨ w.heap.size ≤ k_) ∧ some k_ ≠ (v243 : Value).ownBlock ∧ some k_ ≠ (v249 : Value).ownBlock ∧ some k_ ≠ (v252 : Value).ownBlock ∧ some k_ ≠ (.slice Ao12 l1_0.length co12 : Value).ownBlock ∧ some k_ ≠ (.slice Ao13 l1_1.length co13 : Value).ownBlock)) (Q_HO247 (hon 5 (by kernel_rfl))) (fun k_ e_ => ⟨((Q_HO247 (hon 5 (by kernel_rfl))).1 k_ e_).1, (fun q_ => (Q_D_HO244_HO247 (hon 4 (by kernel_rfl)) (hon 5 (by kernel_rfl))) k_ q_.symm e_), (fun q_ => (Q_D_HO247_HO250 (hon 5 (by kernel_rfl)) (hon 8 (by kernel_rfl)) hb_) k_ e_ q_.symm), (fun q_ => (Q_D_HO247_HO253 (hon 5 (by kernel_rfl)) (hon 10 (by kernel_rfl))) k_ e_ q_.symm), ((Q_HO247 (hon 5 (by kernel_rfl))).1 k_ e_).2.1, ((Q_HO247 (hon 5 (by kernel_rfl))).1 k_ e_).2.2⟩))
                 have R_HO250 := aS_ (Kd.R_reok rfl (ok := (fun k_ => ((P1_0_ k_ ∨ P1_1_ k_) ∨ w.heap.size ≤ k_) ∧ some k_ ≠ (v243 : Value).ownBlock ∧ some k_ ≠ (v246 : Value).ownBlock ∧ some k_ ≠ (v252 : Value).ownBlock ∧ some k_ ≠ (.slice Ao12 l1_0.length co12 : Value).ownBlock ∧ some k_ ≠ (.slice Ao13 l1_1.length co13 : Value).ownBlock)) (Q_HO250 (hon 8 (by kernel_rfl)) hb_) (fun k_ e_ => ⟨((Q_HO250 (hon 8 (by kernel_rfl)) hb_).1 k_ e_).1, (fun q_ => (Q_D_HO244_HO250 (hon 4 (by kernel_rfl)) (hon 8 (by kernel_rfl)) hb_) k_ q_.symm e_), (fun q_ => (Q_D_HO247_HO250 (hon 5 (by kernel_rfl)) (hon 8 (by kernel_rfl)) hb_) k_ q_.symm e_), (fun q_ => (Q_D_HO250_HO253 (hon 8 (by kernel_rfl)) hb_ (hon 10 (by kernel_rfl))) k_ e_ q_.symm), ((Q_HO250 (hon 8 (by kernel_rfl)) hb_).1 k_ e_).2.1, ((Q_HO250 (hon 8 (by kernel_rfl)) hb_).1 k_ e_).2.2⟩))
                 have R_HO253 := aS_ (Kd.R_reok rfl (ok := (fun k_ => ((P1_0_ k_ ∨ P1_1_ k_) ∨ w.heap.size ≤ k_) ∧ some k_ ≠ (v243 : Value).ownBlock ∧ some k_ ≠ (v246 : Value).ownBlock ∧ some k_ ≠ (v249 : Value).ownBlock ∧ some k_ ≠ (.slice Ao12 l1_0.length co12 : Value).ownBlock ∧ some k_ ≠ (.slice Ao13 l1_1.length co13 : Value).ownBlock)) (Q_HO253 (hon 10 (by kernel_rfl))) (fun k_ e_ => ⟨((Q_HO253 (hon 10 (by kernel_rfl))).1 k_ e_).1, (fun q_ => (Q_D_HO244_HO253 (hon 4 (by kernel_rfl)) (hon 10 (by kernel_rfl))) k_ q_.symm e_), (fun q_ => (Q_D_HO247_HO253 (hon 5 (by kernel_rfl)) (hon 10 (by kernel_rfl))) k_ q_.symm e_), (fun q_ => (Q_D_HO250_HO253 (hon 8 (by kernel_rfl)) hb_ (hon 10 (by kernel_rfl))) k_ q_.symm e_), ((Q_HO253 (hon 10 (by kernel_rfl))).1 k_ e_).2.1, ((Q_HO253 (hon 10 (by kernel_rfl))).1 k_ e_).2.2⟩))
                 clear HO_233000
                 have HO_233000 := R_HO_233000
                 clear R_HO_233000 HO_233001
                 have HO_233001 := R_HO_233001
                 clear R_HO_233001 HO244
                 have HO244 := R_HO244
                 clear R_HO244 HO247
                 have HO247 := R_HO247
                 clear R_HO247 HO250
                 have HO250 := R_HO250
                 clear R_HO250 HO253
                 have HO253 := R_HO253
                 clear R_HO253
                 obtain ⟨Ao65, co65, eo65⟩ := Kd.R_slice HO253.out
                 (first | subst eo65 | (injection eo65 with f1_ f2_ f3_; have f4_ := f1_.symm; have f5_ := f3_.symm; clear f1_ f2_ f3_; subst f4_; subst f5_))
                 refine Kd.R_append_rows_step (Kd.int .i64) (w0 := w0) w0.heap.size (by rfl) (.tmp 71) (.tmp 73) 32 3 (.int .i64 0) 8 rfl Try.underlying32 info3 rfl (by decide) (by omega) v249 t248 y251 _ _ _ (fun k_ => ((P1_0_ k_ ∨ P1_1_ k_) ∨ w.heap.size ≤ k_) ∧ some k_ ≠ (.slice Ao12 l1_0.length co12 : Value).ownBlock ∧ some k_ ≠ (.slice Ao13 l1_1.length co13 : Value).ownBlock ∧ some k_ ≠ (v243 : Value).ownBlock ∧ some k_ ≠ (v246 : Value).ownBlock ∧ some k_ ≠ (.slice Ao65 y251.length co65 : Value).ownBlock) (fun _ => False) (ev_tmp7 e71) (ev_tmp7 e73) ?aO ?aR (fun _ _ h => h) (fun _ h => h.elim) ?aF ?aB ?aS ?aL ?_
                 (case aR => repeat (first | exact (Kd.R_reads' HO253.out).2.2 | (with_reducible refine Kd.C_alloc ?_ _) | (with_reducible refine Kd.C_drewN ?_ _) | (with_reducible refine Kd.C_drew ?_)))
                 (case aB => exact (by repeat (first | (with_reducible first | exact HB.out | apply bA_ | apply pN_ | apply bD_ | refine bS_ ?_ GE232.out | refine bS_ ?_ GE233.out) | exact HB.out)))
                 (case aF => exact (fun k_ hk => ⟨(.inr (Nat.le_trans (by first | exact HK.out.1 | exact (show Kept w _ (fun k_ => P1_0_ k_ ∨ P1_1_ k_) from by repeat (first | (with_reducible first | exact HK.out | apply Kept.alloc | apply Kept.drewN | apply Kept.drew | refine Kept.setCell ?_ (.inr GW232.out) _ | refine Kept.setCell ?_ (.inr GW233.out) _) | exact HK.out)).1) hk)), Kd.fresh' (Kd.R_lt (by (with_reducible repeat (first | apply rA_ | apply rN_ | apply rD_)); exact HO_233000.out)) k_ hk, Kd.fresh' (Kd.R_lt (by (with_reducible repeat (first | apply rA_ | apply rN_ | apply rD_)); exact HO_233001.out)) k_ hk, Kd.fresh' (Kd.R_lt (by (with_reducible repeat (first | apply rA_ | apply rN_ | apply rD_)); exact HO244.out)) k_ hk, Kd.fresh' (Kd.R_lt (by (with_reducible repeat (first | apply rA_ | apply rN_ | apply rD_)); exact HO247.out)) k_ hk, Kd.fresh' (Kd.R_lt (by (with_reducible repeat (first | apply rA_ | apply rN_ | apply rD_)); exact HO253.out)) k_ hk⟩))
                 (case aO => exact (by (with_reducible repeat (first | apply rA_ | apply rN_ | apply rD_)); exact Kd.R_mono HO250.out (fun _ hk => by first | exact ⟨hk.1, ⟨hk.2.2.2.2.1, ⟨hk.2.2.2.2.2, ⟨hk.2.1, ⟨hk.2.2.1, hk.2.2.2.1⟩⟩⟩⟩⟩ | (simp only [hk, ne_eq, not_false_eq_true, and_self]))))
                 (case aS => exact (below_size (by repeat (first | (with_reducible first | exact HB.out | apply bA_ | apply pN_ | apply bD_ | refine bS_ ?_ GE232.out | refine bS_ ?_ GE233.out) | exact HB.out))))
                 (case aL => have := LMc48.out; omega)
                 intro v255 w64 ho hb hg hat
                 have DN_HO241 := fun (h0_ : b 2 = true) (h1_ : b 5 = false) (k_ : Nat) (e1_ : (v255 : Value).ownBlock = some k_) (e2_ : (v240 : Value).ownBlock = some k_) => (show False from Or.elim hat (fun q_ => Q_D_HO241_HO250 h0_ h1_ (hon 8 (by kernel_rfl)) hb_ k_ e2_ (q_.symm.trans e1_)) (fun ⟨b_, q_, l_⟩ => Kd.fresh' (Kd.R_lt (Q_HO241 h0_ h1_)) k_ (by rw [q_] at e1_; cases e1_; exact l_) e2_.symm))
                 have DN_HO244 := fun (h0_ : b 4 = true) (k_ : Nat) (e1_ : (v255 : Value).ownBlock = some k_) (e2_ : (v243 : Value).ownBlock = some k_) => (show False from Or.elim hat (fun q_ => Q_D_HO244_HO250 h0_ (hon 8 (by kernel_rfl)) hb_ k_ e2_ (q_.symm.trans e1_)) (fun ⟨b_, q_, l_⟩ => Kd.fresh' (Kd.R_lt (Q_HO244 h0_)) k_ (by rw [q_] at e1_; cases e1_; exact l_) e2_.symm))
                 have DN_HO247 := fun (h0_ : b 5 = true) (k_ : Nat) (e1_ : (v255 : Value).ownBlock = some k_) (e2_ : (v246 : Value).ownBlock = some k_) => (show False from Or.elim hat (fun q_ => Q_D_HO247_HO250 h0_ (hon 8 (by kernel_rfl)) hb_ k_ e2_ (q_.symm.trans e1_)) (fun ⟨b_, q_, l_⟩ => Kd.fresh' (Kd.R_lt (Q_HO247 h0_)) k_ (by rw [q_] at e1_; cases e1_; exact l_) e2_.symm))
                 have DN_HO253 := fun (h0_ : b 10 = true) (k_ : Nat) (e1_ : (v255 : Value).ownBlock = some k_) (e2_ : (.slice Ao65 y251.length co65 : Value).ownBlock = some k_) => (show False from Or.elim hat (fun q_ => Q_D_HO250_HO253 (hon 8 (by kernel_rfl)) hb_ h0_ k_ (q_.symm.trans e1_) e2_) (fun ⟨b_, q_, l_⟩ => Kd.fresh' (Kd.R_lt (Q_HO253 h0_)) k_ (by rw [q_] at e1_; cases e1_; exact l_) e2_.symm))
                 rw [← Ny254.out] at ho
                 have n0_ := aS_ (Kd.R_after (ok := (fun k_ => ((P1_0_ k_ ∨ P1_1_ k_) ∨ w.heap.size ≤ k_) ∧ some k_ ≠ (.slice Ao13 l1_1.length co13 : Value).ownBlock ∧ some k_ ≠ (v243 : Value).ownBlock ∧ some k_ ≠ (v246 : Value).ownBlock ∧ some k_ ≠ (.slice Ao65 y251.length co65 : Value).ownBlock)) (by (with_reducible repeat (first | apply rA_ | apply rN_ | apply rD_)); exact Kd.R_mono HO_233000.out (fun _ hk => by first | exact ⟨⟨hk.1, ⟨hk.2.2.2.2.2, ⟨hk.2.1, ⟨hk.2.2.1, hk.2.2.2.2.1⟩⟩⟩⟩, hk.2.2.2.1⟩ | (simp only [hk, ne_eq, not_false_eq_true, and_self]))) hg hat)
                 have n1_ := aS_ (Kd.R_after (ok := (fun k_ => ((P1_0_ k_ ∨ P1_1_ k_) ∨ w.heap.size ≤ k_) ∧ some k_ ≠ (.slice Ao12 l1_0.length co12 : Value).ownBlock ∧ some k_ ≠ (v243 : Value).ownBlock ∧ some k_ ≠ (v246 : Value).ownBlock ∧ some k_ ≠ (.slice Ao65 y251.length co65 : Value).ownBlock)) (by (with_reducible repeat (first | apply rA_ | apply rN_ | apply rD_)); exact Kd.R_mono HO_233001.out (fun _ hk => by first | exact ⟨⟨hk.1, ⟨hk.2.2.2.2.2, ⟨hk.2.1, ⟨hk.2.2.1, hk.2.2.2.2.1⟩⟩⟩⟩, hk.2.2.2.1⟩ | (simp only [hk, ne_eq, not_false_eq_true, and_self]))) hg hat)
                 have n2_ := aS_ (blk_grown (g := gb232) (o := .cells #[.slice Ao12 l1_0.length co12, .slice Ao13 l1_1.length co13] 34 (0, 0)) (by (with_reducible repeat (first | refine kN_ ?_ _ | refine kD_ ?_ | refine kA_ ?_ _)); exact BK232.out) hg (Kd.R_ne HO250.out BK232.out (by decide)))
                 have n3_ := aS_ (blk_grown (g := gb233) (o := .cells #[.slice none 0 0, .slice none 0 0] 34 (0, 0)) (by (with_reducible repeat (first | refine kN_ ?_ _ | refine kD_ ?_ | refine kA_ ?_ _)); exact BK233.out) hg (Kd.R_ne HO250.out BK233.out (by decide)))
                 have n4_ := aS_ (Kd.R_after (ok := (fun k_ => ((P1_0_ k_ ∨ P1_1_ k_) ∨ w.heap.size ≤ k_) ∧ some k_ ≠ (.slice Ao12 l1_0.length co12 : Value).ownBlock ∧ some k_ ≠ (.slice Ao13 l1_1.length co13 : Value).ownBlock ∧ some k_ ≠ (v246 : Value).ownBlock ∧ some k_ ≠ (.slice Ao65 y251.length co65 : Value).ownBlock)) (by (with_reducible repeat (first | apply rA_ | apply rN_ | apply rD_)); exact Kd.R_mono HO244.out (fun _ hk => by first | exact ⟨⟨hk.1, ⟨hk.2.2.2.2.1, ⟨hk.2.2.2.2.2, ⟨hk.2.1, hk.2.2.2.1⟩⟩⟩⟩, hk.2.2.1⟩ | (simp only [hk, ne_eq, not_false_eq_true, and_self]))) hg hat)
                 have n5_ := aS_ (Kd.R_after (ok := (fun k_ => ((P1_0_ k_ ∨ P1_1_ k_) ∨ w.heap.size ≤ k_) ∧ some k_ ≠ (.slice Ao12 l1_0.length co12 : Value).ownBlock ∧ some k_ ≠ (.slice Ao13 l1_1.length co13 : Value).ownBlock ∧ some k_ ≠ (v243 : Value).ownBlock ∧ some k_ ≠ (.slice Ao65 y251.length co65 : Value).ownBlock)) (by (with_reducible repeat (first | apply rA_ | apply rN_ | apply rD_)); exact Kd.R_mono HO247.out (fun _ hk => by first | exact ⟨⟨hk.1, ⟨hk.2.2.2.2.1, ⟨hk.2.2.2.2.2, ⟨hk.2.1, hk.2.2.2.1⟩⟩⟩⟩, hk.2.2.1⟩ | (simp only [hk, ne_eq, not_false_eq_true, and_self]))) hg hat)
                 have n6_ := aS_ (Kd.R_after (ok := (fun k_ => ((P1_0_ k_ ∨ P1_1_ k_) ∨ w.heap.size ≤ k_) ∧ some k_ ≠ (.slice Ao12 l1_0.length co12 : Value).ownBlock ∧ some k_ ≠ (.slice Ao13 l1_1.length co13 : Value).ownBlock ∧ some k_ ≠ (v243 : Value).ownBlock ∧ some k_ ≠ (v246 : Value).ownBlock)) (by (with_reducible repeat (first | apply rA_ | apply rN_ | apply rD_)); exact Kd.R_mono HO253.out (fun _ hk => by first | exact ⟨⟨hk.1, ⟨hk.2.2.2.2.1, ⟨hk.2.2.2.2.2, ⟨hk.2.1, hk.2.2.1⟩⟩⟩⟩, hk.2.2.2.1⟩ | (simp only [hk, ne_eq, not_false_eq_true, and_self]))) hg hat)
                 have n7_ := aS_ (hb)
                 have n8_ := aS_ (Kept.of_grown (S := (fun k_ => P1_0_ k_ ∨ P1_1_ k_)) hg (by repeat (first | (with_reducible first | exact HK.out | apply Kept.alloc | apply Kept.drewN | apply Kept.drew | refine Kept.setCell ?_ (.inr GW232.out) _ | refine Kept.setCell ?_ (.inr GW233.out) _) | exact HK.out)) (fun k_ e_ => (HO250.out.1 k_ e_).1))
                 have n9_ := aS_ (ho)
                 have z_BK257 := fun (h0_ : b 13 = true) (h1_ : b 14 = false) => (show w64.heap[gb257]? = some (.cells #[.slice none 0 0, .slice none 0 0] 34 (0, 0)) from by first | exact (blk_grown (g := gb257) (o := .cells #[.slice none 0 0, .slice none 0 0] 34 (0, 0)) (by (with_reducible repeat (first | refine kN_ ?_ _ | refine kD_ ?_ | refine kA_ ?_ _)); exact (Q_BK257 h0_ h1_)) hg (Kd.R_ne HO250.out (Q_BK257 h0_ h1_) (by decide))))
                 clear HO_233000 HO_233001 BK232 BK233 HO244 HO247 HO253 HB HK HO250
                 have HO_233000 := n0_
                 have HO_233001 := n1_
                 have BK232 := n2_
                 have BK233 := n3_
                 have HO244 := n4_
                 have HO247 := n5_
                 have HO253 := n6_
                 have HB := n7_
                 have HK := n8_
                 have HO256 := n9_
                 clear n0_ n1_ n2_ n3_ n4_ n5_ n6_ n7_ n8_ n9_
                 clear ho hb hg hat
                 obtain ⟨Ao66, co66, eo66⟩ := Kd.R_slice HO256.out
                 (first | subst eo66 | (injection eo66 with f1_ f2_ f3_; have f4_ := f1_.symm; have f5_ := f3_.symm; clear f1_ f2_ f3_; subst f4_; subst f5_))
                 obtain ⟨Ao67, co67, eo67⟩ := Kd.R_slice HO247.out
                 (first | subst eo67 | (injection eo67 with f1_ f2_ f3_; have f4_ := f1_.symm; have f5_ := f3_.symm; clear f1_ f2_ f3_; subst f4_; subst f5_))
                 refine hK.out _ _ ⟨v240, v243, .slice Ao67 y245.length co67, v249, .slice Ao65 y251.length co65, .slice Ao66 y254.length co66, gb257, m12_, m13_, (by rw [ha.out]; exact putSel_upk 7 hb_ rfl rfl rfl), (by (with_reducible repeat (first | apply rA_ | apply rN_ | apply rD_)); exact Kd.R_mono HO_233000.out (fun _ hk => by first | exact ⟨hk.1.1, ⟨hk.1.2.2.1, ⟨hk.1.2.2.2.1, ⟨hk.1.2.2.2.2, ⟨hk.2, hk.1.2.1⟩⟩⟩⟩⟩ | (simp only [hk, ne_eq, not_false_eq_true, and_self]))), (by (with_reducible repeat (first | apply rA_ | apply rN_ | apply rD_)); exact Kd.R_mono HO_233001.out (fun _ hk => by first | exact ⟨hk.1.1, ⟨hk.1.2.2.1, ⟨hk.1.2.2.2.1, ⟨hk.1.2.2.2.2, ⟨hk.2, hk.1.2.1⟩⟩⟩⟩⟩ | (simp only [hk, ne_eq, not_false_eq_true, and_self]))), (by (with_reducible repeat (first | refine kN_ ?_ _ | refine kD_ ?_ | refine kA_ ?_ _)); exact BK232.out), (by (with_reducible repeat (first | refine kN_ ?_ _ | refine kD_ ?_ | refine kA_ ?_ _)); exact BK233.out), (by repeat (first | (with_reducible first | exact HK.out | apply Kept.alloc | apply Kept.drewN | apply Kept.drew | refine Kept.setCell ?_ (.inr GW232.out) _ | refine Kept.setCell ?_ (.inr GW233.out) _) | exact HK.out)), (by repeat (first | (with_reducible first | exact HB.out | apply bA_ | apply pN_ | apply bD_ | refine bS_ ?_ GE232.out | refine bS_ ?_ GE233.out) | exact HB.out)), fun _ h1_ => absurd ((hon 5 (by kernel_rfl)).symm.trans h1_) (by decide), fun _ => (by (with_reducible repeat (first | apply rA_ | apply rN_ | apply rD_)); exact Kd.R_mono HO244.out (fun _ hk => by first | exact ⟨hk.1.1, ⟨hk.1.2.2.2.1, ⟨hk.1.2.2.2.2, ⟨hk.2, ⟨hk.1.2.1, hk.1.2.2.1⟩⟩⟩⟩⟩ | (simp only [hk, ne_eq, not_false_eq_true, and_self]))), fun _ => (by (with_reducible repeat (first | apply rA_ | apply rN_ | apply rD_)); exact Kd.R_mono HO247.out (fun _ hk => by first | exact ⟨hk.1.1, ⟨hk.1.2.2.2.1, ⟨hk.1.2.2.2.2, ⟨hk.2, ⟨hk.1.2.1, hk.1.2.2.1⟩⟩⟩⟩⟩ | (simp only [hk, ne_eq, not_false_eq_true, and_self]))), fun _ h1_ => absurd ((up_self b 11).symm.trans h1_) (by decide), fun _ => (by (with_reducible repeat (first | apply rA_ | apply rN_ | apply rD_)); exact Kd.R_mono HO253.out (fun _ hk => by first | exact ⟨hk.1.1, ⟨hk.1.2.2.2.1, ⟨hk.1.2.2.2.2, ⟨hk.2, ⟨hk.1.2.1, hk.1.2.2.1⟩⟩⟩⟩⟩ | (simp only [hk, ne_eq, not_false_eq_true, and_self]))), fun _ => (by (with_reducible repeat (first | apply rA_ | apply rN_ | apply rD_)); exact Kd.R_mono HO256.out (fun _ hk => by first | exact ⟨hk.1, ⟨hk.2.2.2.1, ⟨hk.2.2.2.2.1, ⟨hk.2.2.2.2.2, ⟨hk.2.1, hk.2.2.1⟩⟩⟩⟩⟩ | (simp only [hk, ne_eq, not_false_eq_true, and_self]))), z_BK257, Q_GW257, Q_GE257, Q_NB232_257, Q_NB257_232, Q_NB233_257, Q_NB257_233, fun h0_ => absurd ((hoff 14 (by kernel_rfl)).symm.trans h0_) (by decide), fun h0_ => absurd ((hoff 12 (by kernel_rfl)).symm.trans h0_) (by decide), Q_X13_, Q_D_HO241_HO244, fun h0_ h1_ h2_ h3_ _ _ _ => absurd ((up_self b 11).symm.trans h3_) (by decide), Q_D_HO241_HO253, fun h0_ h1_ h2_ k_ e1_ e2_ => DN_HO241 h0_ h1_ k_ e2_ e1_, Q_D_HO244_HO247, fun h0_ h1_ h2_ _ _ _ => absurd ((up_self b 11).symm.trans h2_) (by decide), Q_D_HO244_HO253, fun h0_ h1_ k_ e1_ e2_ => DN_HO244 h0_ k_ e2_ e1_, fun h0_ h1_ h2_ _ _ _ => absurd ((up_self b 11).symm.trans h2_) (by decide), Q_D_HO247_HO253, fun h0_ h1_ k_ e1_ e2_ => DN_HO247 h0_ k_ e2_ e1_, fun h0_ h1_ h2_ _ _ _ => absurd ((up_self b 11).symm.trans h1_) (by decide), fun h0_ h1_ k_ e1_ e2_ => DN_HO253 h0_ k_ e2_ e1_⟩
                refine steps_cons ?_ ?_
                ·rintro b a w' ⟨v240, v243, v246, v249, v252, v255, gb257, m12_, m13_, ha, Q_HO_233000, Q_HO_233001, Q_BK232, Q_BK233, Q_HK, Q_HB, Q_HO241, Q_HO244, Q_HO247, Q_HO250, Q_HO253, Q_HO256, Q_BK257, Q_GW257, Q_GE257, Q_NB232_257, Q_NB257_232, Q_NB233_257, Q_NB257_233, Q_BK257_e14, Q_X12_, Q_X13_, Q_D_HO241_HO244, Q_D_HO241_HO250, Q_D_HO241_HO253, Q_D_HO241_HO256, Q_D_HO244_HO247, Q_D_HO244_HO250, Q_D_HO244_HO253, Q_D_HO244_HO256, Q_D_HO247_HO250, Q_D_HO247_HO253, Q_D_HO247_HO256, Q_D_HO250_HO253, Q_D_HO253_HO256⟩ hb_ hon hoff
                 refine ⟨_, rfl, fun K hK => ?_⟩
                 have e68 : a.tmps[68]? = some (v246) := by rw [ha]; exact putSel_on (e := (5, 68, v246)) 3 rfl rfl (hon 5 (by kernel_rfl)) rfl
                 have e74 : a.tmps[74]? = some (v255) := by rw [ha]; exact putSel_on (e := (11, 74, v255)) 7 rfl rfl (hon 11 (by kernel_rfl)) rfl
                 replace ha := aS_ ha
                 have HO_233000 := aS_ Q_HO_233000
                 have HO_233001 := aS_ Q_HO_233001
                 have BK232 := aS_ Q_BK232
                 have BK233 := aS_ Q_BK233
                 have HK := aS_ Q_HK
                 have HB := aS_ Q_HB
                 have HO244 := aS_ (Q_HO244 (hon 4 (by kernel_rfl)))
                 have HO247 := aS_ (Q_HO247 (hon 5 (by kernel_rfl)))
                 have HO253 := aS_ (Q_HO253 (hon 10 (by kernel_rfl)))
                 have HO256 := aS_ (Q_HO256 (hon 11 (by kernel_rfl)))
                 have R_HO_233000 := aS_ (Kd.R_reok rfl (ok := (fun k_ => ((P1_0_ k_ ∨ P1_1_ k_) ∨ w.heap.size ≤ k_) ∧ some k_ ≠ (v243 : Value).ownBlock ∧ some k_ ≠ (v246 : Value).ownBlock ∧ some k_ ≠ (v252 : Value).ownBlock ∧ some k_ ≠ (v255 : Value).ownBlock ∧ some k_ ≠ (.slice Ao13 l1_1.length co13 : Value).ownBlock)) (Q_HO_233000) (fun k_ e_ => ⟨((Q_HO_233000).1 k_ e_).1, (fun q_ => ((Q_HO244 (hon 4 (by kernel_rfl))).1 k_ q_.symm).2.1 e_.symm), (fun q_ => ((Q_HO247 (hon 5 (by kernel_rfl))).1 k_ q_.symm).2.1 e_.symm), (fun q_ => ((Q_HO253 (hon 10 (by kernel_rfl))).1 k_ q_.symm).2.1 e_.symm), (fun q_ => ((Q_HO256 (hon 11 (by kernel_rfl))).1 k_ q_.symm).2.1 e_.symm), ((Q_HO_233000).1 k_ e_).2⟩))
                 have R_HO_233001 := aS_ (Kd.R_reok rfl (ok := (fun k_ => ((P1_0_ k_ ∨ P1_1_ k_) ∨ w.heap.size ≤ k_) ∧ some k_ ≠ (v243 : Value).ownBlock ∧ some k_ ≠ (v246 : Value).ownBlock ∧ some k_ ≠ (v252 : Value).ownBlock ∧ some k_ ≠ (v255 : Value).ownBlock ∧ some k_ ≠ (.slice Ao12 l1_0.length co12 : Value).ownBlock)) (Q_HO_233001) (fun k_ e_ => ⟨((Q_HO_233001).1 k_ e_).1, (fun q_ => ((Q_HO244 (hon 4 (by kernel_rfl))).1 k_ q_.symm).2.2 e_.symm), (fun q_ => ((Q_HO247 (hon 5 (by kernel_rfl))).1 k_ q_.symm).2.2 e_.symm), (fun q_ => ((Q_HO253 (hon 10 (by kernel_rfl))).1 k_ q_.symm).2.2 e_.symm), (fun q_ => ((Q_HO256 (hon 11 (by kernel_rfl))).1 k_ q_.symm).2.2 e_.symm), ((Q_HO_233001).1 k_ e_).2⟩))
                 have R_HO244 := aS_ (Kd.R_reok rfl (ok := (fun k_ => ((P1_0_ k_ ∨ P1_1_ k_) ∨ w.heap.size ≤ k_) ∧ some k_ ≠ (v246 : Value).ownBlock ∧ some k_ ≠ (v252 : Value).ownBlock ∧ some k_ ≠ (v255 : Value).ownBlock ∧ some k_ ≠ (.slice Ao12 l1_0.length co12 : Value).ownBlock ∧ some k_ ≠ (.slice Ao13 l1_1.length co13 : Value).ownBlock)) (Q_HO244 (hon 4 (by kernel_rfl))) (fun k_ e_ => ⟨((Q_HO244 (hon 4 (by kernel_rfl))).1 k_ e_).1, (fun q_ => (Q_D_HO244_HO247 (hon 4 (by kernel_rfl)) (hon 5 (by kernel_rfl))) k_ e_ q_.symm), (fun q_ => (Q_D_HO244_HO253 (hon 4 (by kernel_rfl)) (hon 10 (by kernel_rfl))) k_ e_ q_.symm), (fun q_ => (Q_D_HO244_HO256 (hon 4 (by kernel_rfl)) (hon 11 (by kernel_rfl))) k_ e_ q_.symm), ((Q_HO244 (hon 4 (by kernel_rfl))).1 k_ e_).2.1, ((Q_HO244 (hon 4 (by kernel_rfl))).1 k_ e_).2.2⟩))
                 have R_HO247 := aS_ (Kd.R_reok rfl (ok := (fun k_ => ((P1_0_ k_ ∨ P1_1_ k_) ∨ w.heap.size ≤ k_) ∧ some k_ ≠ (v243 : Value).ownBlock ∧ some k_ ≠ (v252 : Value).ownBlock ∧ some k_ ≠ (v255 : Value).ownBlock ∧ some k_ ≠ (.slice Ao12 l1_0.length co12 : Value).ownBlock ∧ some k_ ≠ (.slice Ao13 l1_1.length co13 : Value).ownBlock)) (Q_HO247 (hon 5 (by kernel_rfl))) (fun k_ e_ => ⟨((Q_HO247 (hon 5 (by kernel_rfl))).1 k_ e_).1, (fun q_ => (Q_D_HO244_HO247 (hon 4 (by kernel_rfl)) (hon 5 (by kernel_rfl))) k_ q_.symm e_), (fun q_ => (Q_D_HO247_HO253 (hon 5 (by kernel_rfl)) (hon 10 (by kernel_rfl))) k_ e_ q_.symm), (fun q_ => (Q_D_HO247_HO256 (hon 5 (by kernel_rfl)) (hon 11 (by kernel_rfl))) k_ e_ q_.symm), ((Q_HO247 (hon 5 (by kernel_rfl))).1 k_ e_).2.1, ((Q_HO247 (hon 5 (by kernel_rfl))).1 k_ e_).2.2⟩))
                 have R_HO253 := aS_ (Kd.R_reok rfl (ok := (fun k_ => ((P1_0_ k_ ∨ P1_1_ k_) ∨ w.heap.size ≤ k_) ∧ some k_ ≠ (v243 : Value).ownBlock ∧ some k_ ≠ (v246 : Value).ownBlock ∧ some k_ ≠ (v255 : Value).ownBlock ∧ some k_ ≠ (.slice Ao12 l1_0.length co12 : Value).ownBlock ∧ some k_ ≠ (.slice Ao13 l1_1.length co13 : Value).ownBlock)) (Q_HO253 (hon 10 (by kernel_rfl))) (fun k_ e_ => ⟨((Q_HO253 (hon 10 (by kernel_rfl))).1 k_ e_).1, (fun q_ => (Q_D_HO244_HO253 (hon 4 (by kernel_rfl)) (hon 10 (by kernel_rfl))) k_ q_.symm e_), (fun q_ => (Q_D_HO247_HO253 (hon 5 (by kernel_rfl)) (hon 10 (by kernel_rfl))) k_ q_.symm e_), (fun q_ => (Q_D_HO253_HO256 (hon 10 (by kernel_rfl)) (hon 11 (by kernel_rfl))) k_ e_ q_.symm), ((Q_HO253 (hon 10 (by kernel_rfl))).1 k_ e_).2.1, ((Q_HO253 (hon 10 (by kernel_rfl))).1 k_ e_).2.2⟩))
                 have R_HO256 := aS_ (Kd.R_reok rfl (ok := (fun k_ => ((P1_0_ k_ ∨ P1_1_ k_) ∨ w.heap.size ≤ k_) ∧ some k_ ≠ (v243 : Value).ownBlock ∧ some k_ ≠ (v246 : Value).ownBlock ∧ some k_ ≠ (v252 : Value).ownBlock ∧ some k_ ≠ (.slice Ao12 l1_0.length co12 : Value).ownBlock ∧ some k_ ≠ (.slice Ao13 l1_1.length co13 : Value).ownBlock)) (Q_HO256 (hon 11 (by kernel_rfl))) (fun k_ e_ => ⟨((Q_HO256 (hon 11 (by kernel_rfl))).1 k_ e_).1, (fun q_ => (Q_D_HO244_HO256 (hon 4 (by kernel_rfl)) (hon 11 (by kernel_rfl))) k_ q_.symm e_), (fun q_ => (Q_D_HO247_HO256 (hon 5 (by kernel_rfl)) (hon 11 (by kernel_rfl))) k_ q_.symm e_), (fun q_ => (Q_D_HO253_HO256 (hon 10 (by kernel_rfl)) (hon 11 (by kernel_rfl))) k_ q_.symm e_), ((Q_HO256 (hon 11 (by kernel_rfl))).1 k_ e_).2.1, ((Q_HO256 (hon 11 (by kernel_rfl))).1 k_ e_).2.2⟩))
                 clear HO_233000
                 have HO_233000 := R_HO_233000
                 clear R_HO_233000 HO_233001
                 have HO_233001 := R_HO_233001
                 clear R_HO_233001 HO244
                 have HO244 := R_HO244
                 clear R_HO244 HO247
                 have HO247 := R_HO247
                 clear R_HO247 HO253
                 have HO253 := R_HO253
                 clear R_HO253 HO256
                 have HO256 := R_HO256
                 clear R_HO256
                 obtain ⟨Ao12_0, co12_0, eo_⟩ := Kd.R_slice HO247.out
                 subst eo_
                 obtain ⟨Ao12_1, co12_1, eo_⟩ := Kd.R_slice HO256.out
                 subst eo_
                 refine value_ (w1 := w') (v := .agg #[.slice Ao12_0 y245.length co12_0, .slice Ao12_1 y254.length co12_1]) (by rfl) rfl ?_ ?_
                 ·go_simp
                  (try simp only [i64_w])
                  try rfl
                 refine hK.out _ _ ⟨v240, v243, .slice Ao12_0 y245.length co12_0, v249, v252, .slice Ao12_1 y254.length co12_1, gb257, (.agg #[.slice Ao12_0 y245.length co12_0, .slice Ao12_1 y254.length co12_1]), m13_, (by rw [ha.out]; exact putSel_upk 8 hb_ rfl rfl rfl), Q_HO_233000, Q_HO_233001, Q_BK232, Q_BK233, Q_HK, Q_HB, fun _ h1_ => absurd ((hon 5 (by kernel_rfl)).symm.trans h1_) (by decide), Q_HO244, Q_HO247, fun _ h1_ => absurd ((hon 11 (by kernel_rfl)).symm.trans h1_) (by decide), Q_HO253, Q_HO256, Q_BK257, Q_GW257, Q_GE257, Q_NB232_257, Q_NB257_232, Q_NB233_257, Q_NB257_233, fun h0_ => absurd ((hoff 14 (by kernel_rfl)).symm.trans h0_) (by decide), fun _ => rfl, Q_X13_, Q_D_HO241_HO244, Q_D_HO241_HO250, Q_D_HO241_HO253, Q_D_HO241_HO256, Q_D_HO244_HO247, Q_D_HO244_HO250, Q_D_HO244_HO253, Q_D_HO244_HO256, Q_D_HO247_HO250, Q_D_HO247_HO253, Q_D_HO247_HO256, Q_D_HO250_HO253, Q_D_HO253_HO256⟩
                refine steps_cons ?_ ?_
                ·rintro b a w' ⟨v240, v243, v246, v249, v252, v255, gb257, m12_, m13_, ha, Q_HO_233000, Q_HO_233001, Q_BK232, Q_BK233, Q_HK, Q_HB, Q_HO241, Q_HO244, Q_HO247, Q_HO250, Q_HO253, Q_HO256, Q_BK257, Q_GW257, Q_GE257, Q_NB232_257, Q_NB257_232, Q_NB233_257, Q_NB257_233, Q_BK257_e14, Q_X12_, Q_X13_, Q_D_HO241_HO244, Q_D_HO241_HO250, Q_D_HO241_HO253, Q_D_HO241_HO256, Q_D_HO244_HO247, Q_D_HO244_HO250, Q_D_HO244_HO253, Q_D_HO244_HO256, Q_D_HO247_HO250, Q_D_HO247_HO253, Q_D_HO247_HO256, Q_D_HO250_HO253, Q_D_HO253_HO256⟩ hb_ hon hoff
                 refine ⟨_, rfl, fun K hK => ?_⟩
                 replace ha := aS_ ha
                 have HO_233000 := aS_ Q_HO_233000
                 have HO_233001 := aS_ Q_HO_233001
                 have BK232 := aS_ Q_BK232
                 have BK233 := aS_ Q_BK233
                 have HK := aS_ Q_HK
                 have HB := aS_ Q_HB
                 refine box_step ?hg (N := 11) ?hd (cs := #[.slice none 0 0, .slice none 0 0]) (t := 34) ?hr ?_; (case hd => rfl); (case hg => rfl); (case hr => first | (go_simp; done) | (go_simp; rfl))
                 intro gb257 hg w55 hbox hb
                 have n0_ := aS_ (Kd.R_below (by (with_reducible repeat (first | apply rA_ | apply rN_ | apply rD_)); exact HO_233000.out) hb)
                 have n1_ := aS_ (Kd.R_below (by (with_reducible repeat (first | apply rA_ | apply rN_ | apply rD_)); exact HO_233001.out) hb)
                 have n2_ := aS_ (blk_below (g := gb232) (o := .cells #[.slice Ao12 l1_0.length co12, .slice Ao13 l1_1.length co13] 34 (0, 0)) (by (with_reducible repeat (first | refine kN_ ?_ _ | refine kD_ ?_ | refine kA_ ?_ _)); exact BK232.out) hb)
                 have n3_ := aS_ (blk_below (g := gb233) (o := .cells #[.slice none 0 0, .slice none 0 0] 34 (0, 0)) (by (with_reducible repeat (first | refine kN_ ?_ _ | refine kD_ ?_ | refine kA_ ?_ _)); exact BK233.out) hb)
                 have n4_ := aS_ (Kept.below (S := (fun k_ => P1_0_ k_ ∨ P1_1_ k_)) (by repeat (first | (with_reducible first | exact HK.out | apply Kept.alloc | apply Kept.drewN | apply Kept.drew | refine Kept.setCell ?_ (.inr GW232.out) _ | refine Kept.setCell ?_ (.inr GW233.out) _) | exact HK.out)) hb)
                 have n5_ := aS_ (below_step (by repeat (first | (with_reducible first | exact HB.out | apply bA_ | apply pN_ | apply bD_ | refine bS_ ?_ GE232.out | refine bS_ ?_ GE233.out) | exact HB.out)) hb)
                 have n6_ := aS_ (hbox)
                 have n7_ := aS_ ((by rw [hg]; exact (by first | exact HK.out.1 | exact (show Kept w _ (fun k_ => P1_0_ k_ ∨ P1_1_ k_) from by repeat (first | (with_reducible first | exact HK.out | apply Kept.alloc | apply Kept.drewN | apply Kept.drew | refine Kept.setCell ?_ (.inr GW232.out) _ | refine Kept.setCell ?_ (.inr GW233.out) _) | exact HK.out)).1) : w.heap.size ≤ gb257))
                 have n8_ := aS_ ((by rw [hg]; exact (below_size (by repeat (first | (with_reducible first | exact HB.out | apply bA_ | apply pN_ | apply bD_ | refine bS_ ?_ GE232.out | refine bS_ ?_ GE233.out) | exact HB.out))) : w0.heap.size ≤ gb257))
                 have n9_ := aS_ ((by rw [hg]; exact Nat.ne_of_lt (blk_lt (g := gb232) (o := .cells #[.slice Ao12 l1_0.length co12, .slice Ao13 l1_1.length co13] 34 (0, 0)) (by (with_reducible repeat (first | refine kN_ ?_ _ | refine kD_ ?_ | refine kA_ ?_ _)); exact BK232.out)) : gb232 ≠ gb257))
                 have n10_ := aS_ ((by rw [hg]; exact Nat.ne_of_gt (blk_lt (g := gb232) (o := .cells #[.slice Ao12 l1_0.length co12, .slice Ao13 l1_1.length co13] 34 (0, 0)) (by (with_reducible repeat (first | refine kN_ ?_ _ | refine kD_ ?_ | refine kA_ ?_ _)); exact BK232.out)) : gb257 ≠ gb232))
                 have n11_ := aS_ ((by rw [hg]; exact Nat.ne_of_lt (blk_lt (g := gb233) (o := .cells #[.slice none 0 0, .slice none 0 0] 34 (0, 0)) (by (with_reducible repeat (first | refine kN_ ?_ _ | refine kD_ ?_ | refine kA_ ?_ _)); exact BK233.out)) : gb233 ≠ gb257))
                 have n12_ := aS_ ((by rw [hg]; exact Nat.ne_of_gt (blk_lt (g := gb233) (o := .cells #[.slice none 0 0, .slice none 0 0] 34 (0, 0)) (by (with_reducible repeat (first | refine kN_ ?_ _ | refine kD_ ?_ | refine kA_ ?_ _)); exact BK233.out)) : gb257 ≠ gb233))
                 have z_HO241 := fun (h0_ : b 2 = true) (h1_ : b 5 = false) => (show Kd.R (Kd.int .i64) 3 w55 w0.heap.size (fun k_ => ((P1_0_ k_ ∨ P1_1_ k_) ∨ w.heap.size ≤ k_) ∧ some k_ ≠ (.slice Ao12 l1_0.length co12 : Value).ownBlock ∧ some k_ ≠ (.slice Ao13 l1_1.length co13 : Value).ownBlock) v240 t239 from by first | exact (Kd.R_below (by (with_reducible repeat (first | apply rA_ | apply rN_ | apply rD_)); exact (Q_HO241 h0_ h1_)) hb) | exact Kd.R_mono (Kd.R_below (by (with_reducible repeat (first | apply rA_ | apply rN_ | apply rD_)); exact (Q_HO241 h0_ h1_)) hb) (fun _ hk => by first | trivial | exact hk | exact hk.1 | (simp only [hk, ne_eq, not_false_eq_true, and_self])))
                 have z_HO244 := fun (h0_ : b 4 = true) => (show Kd.R (Kd.int .i64) 3 w55 w0.heap.size (fun k_ => ((P1_0_ k_ ∨ P1_1_ k_) ∨ w.heap.size ≤ k_) ∧ some k_ ≠ (.slice Ao12 l1_0.length co12 : Value).ownBlock ∧ some k_ ≠ (.slice Ao13 l1_1.length co13 : Value).ownBlock) v243 y242 from by first | exact (Kd.R_below (by (with_reducible repeat (first | apply rA_ | apply rN_ | apply rD_)); exact (Q_HO244 h0_)) hb) | exact Kd.R_mono (Kd.R_below (by (with_reducible repeat (first | apply rA_ | apply rN_ | apply rD_)); exact (Q_HO244 h0_)) hb) (fun _ hk => by first | trivial | exact hk | exact hk.1 | (simp only [hk, ne_eq, not_false_eq_true, and_self])))
                 have z_HO247 := fun (h0_ : b 5 = true) => (show Kd.R (Kd.int .i64) 3 w55 w0.heap.size (fun k_ => ((P1_0_ k_ ∨ P1_1_ k_) ∨ w.heap.size ≤ k_) ∧ some k_ ≠ (.slice Ao12 l1_0.length co12 : Value).ownBlock ∧ some k_ ≠ (.slice Ao13 l1_1.length co13 : Value).ownBlock) v246 y245 from by first | exact (Kd.R_below (by (with_reducible repeat (first | apply rA_ | apply rN_ | apply rD_)); exact (Q_HO247 h0_)) hb) | exact Kd.R_mono (Kd.R_below (by (with_reducible repeat (first | apply rA_ | apply rN_ | apply rD_)); exact (Q_HO247 h0_)) hb) (fun _ hk => by first | trivial | exact hk | exact hk.1 | (simp only [hk, ne_eq, not_false_eq_true, and_self])))
                 have z_HO250 := fun (h0_ : b 8 = true) (h1_ : b 11 = false) => (show Kd.R (Kd.int .i64) 3 w55 w0.heap.size (fun k_ => ((P1_0_ k_ ∨ P1_1_ k_) ∨ w.heap.size ≤ k_) ∧ some k_ ≠ (.slice Ao12 l1_0.length co12 : Value).ownBlock ∧ some k_ ≠ (.slice Ao13 l1_1.length co13 : Value).ownBlock) v249 t248 from by first | exact (Kd.R_below (by (with_reducible repeat (first | apply rA_ | apply rN_ | apply rD_)); exact (Q_HO250 h0_ h1_)) hb) | exact Kd.R_mono (Kd.R_below (by (with_reducible repeat (first | apply rA_ | apply rN_ | apply rD_)); exact (Q_HO250 h0_ h1_)) hb) (fun _ hk => by first | trivial | exact hk | exact hk.1 | (simp only [hk, ne_eq, not_false_eq_true, and_self])))
                 have z_HO253 := fun (h0_ : b 10 = true) => (show Kd.R (Kd.int .i64) 3 w55 w0.heap.size (fun k_ => ((P1_0_ k_ ∨ P1_1_ k_) ∨ w.heap.size ≤ k_) ∧ some k_ ≠ (.slice Ao12 l1_0.length co12 : Value).ownBlock ∧ some k_ ≠ (.slice Ao13 l1_1.length co13 : Value).ownBlock) v252 y251 from by first | exact (Kd.R_below (by (with_reducible repeat (first | apply rA_ | apply rN_ | apply rD_)); exact (Q_HO253 h0_)) hb) | exact Kd.R_mono (Kd.R_below (by (with_reducible repeat (first | apply rA_ | apply rN_ | apply rD_)); exact (Q_HO253 h0_)) hb) (fun _ hk => by first | trivial | exact hk | exact hk.1 | (simp only [hk, ne_eq, not_false_eq_true, and_self])))
                 have z_HO256 := fun (h0_ : b 11 = true) => (show Kd.R (Kd.int .i64) 3 w55 w0.heap.size (fun k_ => ((P1_0_ k_ ∨ P1_1_ k_) ∨ w.heap.size ≤ k_) ∧ some k_ ≠ (.slice Ao12 l1_0.length co12 : Value).ownBlock ∧ some k_ ≠ (.slice Ao13 l1_1.length co13 : Value).ownBlock) v255 y254 from by first | exact (Kd.R_below (by (with_reducible repeat (first | apply rA_ | apply rN_ | apply rD_)); exact (Q_HO256 h0_)) hb) | exact Kd.R_mono (Kd.R_below (by (with_reducible repeat (first | apply rA_ | apply rN_ | apply rD_)); exact (Q_HO256 h0_)) hb) (fun _ hk => by first | trivial | exact hk | exact hk.1 | (simp only [hk, ne_eq, not_false_eq_true, and_self])))
                 clear HO_233000 HO_233001 BK232 BK233 HK HB
                 have HO_233000 := n0_
                 have HO_233001 := n1_
                 have BK232 := n2_
                 have BK233 := n3_
                 have HK := n4_
                 have HB := n5_
                 have BK257 := n6_
                 have GW257 := n7_
                 have GE257 := n8_
                 have NB232_257 := n9_
                 have NB257_232 := n10_
                 have NB233_257 := n11_
                 have NB257_233 := n12_
                 clear n0_ n1_ n2_ n3_ n4_ n5_ n6_ n7_ n8_ n9_ n10_ n11_ n12_
                 clear hb hbox hg
                 refine hK.out _ _ ⟨v240, v243, v246, v249, v252, v255, gb257, m12_, (.pointer (some ⟨gb257, 0, none⟩)), (by rw [ha.out]; exact putSel_upk 9 hb_ rfl rfl rfl), (by (with_reducible repeat (first | apply rA_ | apply rN_ | apply rD_)); exact HO_233000.out), (by (with_reducible repeat (first | apply rA_ | apply rN_ | apply rD_)); exact HO_233001.out), (by (with_reducible repeat (first | refine kN_ ?_ _ | refine kD_ ?_ | refine kA_ ?_ _)); exact BK232.out), (by (with_reducible repeat (first | refine kN_ ?_ _ | refine kD_ ?_ | refine kA_ ?_ _)); exact BK233.out), (by repeat (first | (with_reducible first | exact HK.out | apply Kept.alloc | apply Kept.drewN | apply Kept.drew | refine Kept.setCell ?_ (.inr GW232.out) _ | refine Kept.setCell ?_ (.inr GW233.out) _ | refine Kept.setCell ?_ (.inr GW257.out) _) | exact HK.out)), (by repeat (first | (with_reducible first | exact HB.out | apply bA_ | apply pN_ | apply bD_ | refine bS_ ?_ GE232.out | refine bS_ ?_ GE233.out | refine bS_ ?_ GE257.out) | exact HB.out)), z_HO241, z_HO244, z_HO247, z_HO250, z_HO253, z_HO256, fun _ _ => (by (with_reducible repeat (first | refine kN_ ?_ _ | refine kD_ ?_ | refine kA_ ?_ _)); exact BK257.out), fun _ => GW257.out, fun _ => GE257.out, fun _ => NB232_257.out, fun _ => NB257_232.out, fun _ => NB233_257.out, fun _ => NB257_233.out, fun h0_ => absurd ((hoff 14 (by kernel_rfl)).symm.trans h0_) (by decide), Q_X12_, fun _ => rfl, Q_D_HO241_HO244, Q_D_HO241_HO250, Q_D_HO241_HO253, Q_D_HO241_HO256, Q_D_HO244_HO247, Q_D_HO244_HO250, Q_D_HO244_HO253, Q_D_HO244_HO256, Q_D_HO247_HO250, Q_D_HO247_HO253, Q_D_HO247_HO256, Q_D_HO250_HO253, Q_D_HO253_HO256⟩
                refine steps_cons ?_ ?_
                ·rintro b a w' ⟨v240, v243, v246, v249, v252, v255, gb257, m12_, m13_, ha, Q_HO_233000, Q_HO_233001, Q_BK232, Q_BK233, Q_HK, Q_HB, Q_HO241, Q_HO244, Q_HO247, Q_HO250, Q_HO253, Q_HO256, Q_BK257, Q_GW257, Q_GE257, Q_NB232_257, Q_NB257_232, Q_NB233_257, Q_NB257_233, Q_BK257_e14, Q_X12_, Q_X13_, Q_D_HO241_HO244, Q_D_HO241_HO250, Q_D_HO241_HO253, Q_D_HO241_HO256, Q_D_HO244_HO247, Q_D_HO244_HO250, Q_D_HO244_HO253, Q_D_HO244_HO256, Q_D_HO247_HO250, Q_D_HO247_HO253, Q_D_HO247_HO256, Q_D_HO250_HO253, Q_D_HO253_HO256⟩ hb_ hon hoff
                 refine ⟨_, rfl, fun K hK => ?_⟩
                 have e11 : a.tmps[11]? = some (m13_) := by rw [ha]; exact putSel_on (e := (13, 11, m13_)) 9 rfl rfl (hon 13 (by kernel_rfl)) rfl
                 rw [Q_X13_ (hon 13 (by kernel_rfl))] at e11
                 have e75 : a.tmps[75]? = some (m12_) := by rw [ha]; exact putSel_on (e := (12, 75, m12_)) 8 rfl rfl (hon 12 (by kernel_rfl)) rfl
                 rw [Q_X12_ (hon 12 (by kernel_rfl))] at e75
                 replace ha := aS_ ha
                 have HO_233000 := aS_ Q_HO_233000
                 have HO_233001 := aS_ Q_HO_233001
                 have BK232 := aS_ Q_BK232
                 have BK233 := aS_ Q_BK233
                 have HK := aS_ Q_HK
                 have HB := aS_ Q_HB
                 have HO244 := aS_ (Q_HO244 (hon 4 (by kernel_rfl)))
                 have HO247 := aS_ (Q_HO247 (hon 5 (by kernel_rfl)))
                 have HO253 := aS_ (Q_HO253 (hon 10 (by kernel_rfl)))
                 have HO256 := aS_ (Q_HO256 (hon 11 (by kernel_rfl)))
                 have R_HO_233000 := aS_ (Kd.R_reok rfl (ok := (fun k_ => ((P1_0_ k_ ∨ P1_1_ k_) ∨ w.heap.size ≤ k_) ∧ some k_ ≠ (v243 : Value).ownBlock ∧ some k_ ≠ (v246 : Value).ownBlock ∧ some k_ ≠ (v252 : Value).ownBlock ∧ some k_ ≠ (v255 : Value).ownBlock ∧ some k_ ≠ (.slice Ao13 l1_1.length co13 : Value).ownBlock)) (Q_HO_233000) (fun k_ e_ => ⟨((Q_HO_233000).1 k_ e_).1, (fun q_ => ((Q_HO244 (hon 4 (by kernel_rfl))).1 k_ q_.symm).2.1 e_.symm), (fun q_ => ((Q_HO247 (hon 5 (by kernel_rfl))).1 k_ q_.symm).2.1 e_.symm), (fun q_ => ((Q_HO253 (hon 10 (by kernel_rfl))).1 k_ q_.symm).2.1 e_.symm), (fun q_ => ((Q_HO256 (hon 11 (by kernel_rfl))).1 k_ q_.symm).2.1 e_.symm), ((Q_HO_233000).1 k_ e_).2⟩))
                 have R_HO_233001 := aS_ (Kd.R_reok rfl (ok := (fun k_ => ((P1_0_ k_ ∨ P1_1_ k_) ∨ w.heap.size ≤ k_) ∧ some k_ ≠ (v243 : Value).ownBlock ∧ some k_ ≠ (v246 : Value).ownBlock ∧ some k_ ≠ (v252 : Value).ownBlock ∧ some k_ ≠ (v255 : Value).ownBlock ∧ some k_ ≠ (.slice Ao12 l1_0.length co12 : Value).ownBlock)) (Q_HO_233001) (fun k_ e_ => ⟨((Q_HO_233001).1 k_ e_).1, (fun q_ => ((Q_HO244 (hon 4 (by kernel_rfl))).1 k_ q_.symm).2.2 e_.symm), (fun q_ => ((Q_HO247 (hon 5 (by kernel_rfl))).1 k_ q_.symm).2.2 e_.symm), (fun q_ => ((Q_HO253 (hon 10 (by kernel_rfl))).1 k_ q_.symm).2.2 e_.symm), (fun q_ => ((Q_HO256 (hon 11 (by kernel_rfl))).1 k_ q_.symm).2.2 e_.symm), ((Q_HO_233001).1 k_ e_).2⟩))
                 have R_HO244 := aS_ (Kd.R_reok rfl (ok := (fun k_ => ((P1_0_ k_ ∨ P1_1_ k_) ∨ w.heap.size ≤ k_) ∧ some k_ ≠ (v246 : Value).ownBlock ∧ some k_ ≠ (v252 : Value).ownBlock ∧ some k_ ≠ (v255 : Value).ownBlock ∧ some k_ ≠ (.slice Ao12 l1_0.length co12 : Value).ownBlock ∧ some k_ ≠ (.slice Ao13 l1_1.length co13 : Value).ownBlock)) (Q_HO244 (hon 4 (by kernel_rfl))) (fun k_ e_ => ⟨((Q_HO244 (hon 4 (by kernel_rfl))).1 k_ e_).1, (fun q_ => (Q_D_HO244_HO247 (hon 4 (by kernel_rfl)) (hon 5 (by kernel_rfl))) k_ e_ q_.symm), (fun q_ => (Q_D_HO244_HO253 (hon 4 (by kernel_rfl)) (hon 10 (by kernel_rfl))) k_ e_ q_.symm), (fun q_ => (Q_D_HO244_HO256 (hon 4 (by kernel_rfl)) (hon 11 (by kernel_rfl))) k_ e_ q_.symm), ((Q_HO244 (hon 4 (by kernel_rfl))).1 k_ e_).2.1, ((Q_HO244 (hon 4 (by kernel_rfl))).1 k_ e_).2.2⟩))
                 have R_HO247 := aS_ (Kd.R_reok rfl (ok := (fun k_ => ((P1_0_ k_ ∨ P1_1_ k_) ∨ w.heap.size ≤ k_) ∧ some k_ ≠ (v243 : Value).ownBlock ∧ some k_ ≠ (v252 : Value).ownBlock ∧ some k_ ≠ (v255 : Value).ownBlock ∧ some k_ ≠ (.slice Ao12 l1_0.length co12 : Value).ownBlock ∧ some k_ ≠ (.slice Ao13 l1_1.length co13 : Value).ownBlock)) (Q_HO247 (hon 5 (by kernel_rfl))) (fun k_ e_ => ⟨((Q_HO247 (hon 5 (by kernel_rfl))).1 k_ e_).1, (fun q_ => (Q_D_HO244_HO247 (hon 4 (by kernel_rfl)) (hon 5 (by kernel_rfl))) k_ q_.symm e_), (fun q_ => (Q_D_HO247_HO253 (hon 5 (by kernel_rfl)) (hon 10 (by kernel_rfl))) k_ e_ q_.symm), (fun q_ => (Q_D_HO247_HO256 (hon 5 (by kernel_rfl)) (hon 11 (by kernel_rfl))) k_ e_ q_.symm), ((Q_HO247 (hon 5 (by kernel_rfl))).1 k_ e_).2.1, ((Q_HO247 (hon 5 (by kernel_rfl))).1 k_ e_).2.2⟩))
                 have R_HO253 := aS_ (Kd.R_reok rfl (ok := (fun k_ => ((P1_0_ k_ ∨ P1_1_ k_) ∨ w.heap.size ≤ k_) ∧ some k_ ≠ (v243 : Value).ownBlock ∧ some k_ ≠ (v246 : Value).ownBlock ∧ some k_ ≠ (v255 : Value).ownBlock ∧ some k_ ≠ (.slice Ao12 l1_0.length co12 : Value).ownBlock ∧ some k_ ≠ (.slice Ao13 l1_1.length co13 : Value).ownBlock)) (Q_HO253 (hon 10 (by kernel_rfl))) (fun k_ e_ => ⟨((Q_HO253 (hon 10 (by kernel_rfl))).1 k_ e_).1, (fun q_ => (Q_D_HO244_HO253 (hon 4 (by kernel_rfl)) (hon 10 (by kernel_rfl))) k_ q_.symm e_), (fun q_ => (Q_D_HO247_HO253 (hon 5 (by kernel_rfl)) (hon 10 (by kernel_rfl))) k_ q_.symm e_), (fun q_ => (Q_D_HO253_HO256 (hon 10 (by kernel_rfl)) (hon 11 (by kernel_rfl))) k_ e_ q_.symm), ((Q_HO253 (hon 10 (by kernel_rfl))).1 k_ e_).2.1, ((Q_HO253 (hon 10 (by kernel_rfl))).1 k_ e_).2.2⟩))
                 have R_HO256 := aS_ (Kd.R_reok rfl (ok := (fun k_ => ((P1_0_ k_ ∨ P1_1_ k_) ∨ w.heap.size ≤ k_) ∧ some k_ ≠ (v243 : Value).ownBlock ∧ some k_ ≠ (v246 : Value).ownBlock ∧ some k_ ≠ (v252 : Value).ownBlock ∧ some k_ ≠ (.slice Ao12 l1_0.length co12 : Value).ownBlock ∧ some k_ ≠ (.slice Ao13 l1_1.length co13 : Value).ownBlock)) (Q_HO256 (hon 11 (by kernel_rfl))) (fun k_ e_ => ⟨((Q_HO256 (hon 11 (by kernel_rfl))).1 k_ e_).1, (fun q_ => (Q_D_HO244_HO256 (hon 4 (by kernel_rfl)) (hon 11 (by kernel_rfl))) k_ q_.symm e_), (fun q_ => (Q_D_HO247_HO256 (hon 5 (by kernel_rfl)) (hon 11 (by kernel_rfl))) k_ q_.symm e_), (fun q_ => (Q_D_HO253_HO256 (hon 10 (by kernel_rfl)) (hon 11 (by kernel_rfl))) k_ q_.symm e_), ((Q_HO256 (hon 11 (by kernel_rfl))).1 k_ e_).2.1, ((Q_HO256 (hon 11 (by kernel_rfl))).1 k_ e_).2.2⟩))
                 clear HO_233000
                 have HO_233000 := R_HO_233000
                 clear R_HO_233000 HO_233001
                 have HO_233001 := R_HO_233001
                 clear R_HO_233001 HO244
                 have HO244 := R_HO244
                 clear R_HO244 HO247
                 have HO247 := R_HO247
                 clear R_HO247 HO253
                 have HO253 := R_HO253
                 clear R_HO253 HO256
                 have HO256 := R_HO256
                 clear R_HO256
                 have BK257 := aS_ (Q_BK257 (hon 13 (by kernel_rfl)) hb_)
                 have GW257 := aS_ (Q_GW257 (hon 13 (by kernel_rfl)))
                 have GE257 := aS_ (Q_GE257 (hon 13 (by kernel_rfl)))
                 have NB232_257 := aS_ (Q_NB232_257 (hon 13 (by kernel_rfl)))
                 have NB257_232 := aS_ (Q_NB257_232 (hon 13 (by kernel_rfl)))
                 have NB233_257 := aS_ (Q_NB233_257 (hon 13 (by kernel_rfl)))
                 have NB257_233 := aS_ (Q_NB257_233 (hon 13 (by kernel_rfl)))
                 obtain ⟨Ao69, co69, eo69⟩ := Kd.R_slice HO256.out
                 (first | subst eo69 | (injection eo69 with f1_ f2_ f3_; have f4_ := f1_.symm; have f5_ := f3_.symm; clear f1_ f2_ f3_; subst f4_; subst f5_))
                 obtain ⟨Ao70, co70, eo70⟩ := Kd.R_slice HO247.out
                 (first | subst eo70 | (injection eo70 with f1_ f2_ f3_; have f4_ := f1_.symm; have f5_ := f3_.symm; clear f1_ f2_ f3_; subst f4_; subst f5_))
                 have hs71 : w'.cell? ⟨gb257, 0, none⟩ = some (.slice none 0 0) := (blk_cell BK257.out 0).trans rfl
                 have hfs71 := blk_frozen BK257.out 0
                 have hns71_0 := NB232_257.out
                 have hns71_1 := NB233_257.out
                 have hms71_0 := NB257_232.out
                 have hms71_1 := NB257_233.out
                 have hs72 : w'.cell? ⟨gb257, 1, none⟩ = some (.slice none 0 0) := (blk_cell BK257.out 1).trans rfl
                 have hfs72 := blk_frozen BK257.out 1
                 have hns72_0 := NB232_257.out
                 have hns72_1 := NB233_257.out
                 have hms72_0 := NB257_232.out
                 have hms72_1 := NB257_233.out
                 refine skip_ (w1 := ?_) (by rfl) rfl ?_ ?_
                 rotate_left
                 ·go_simp
                  rfl
                 refine hK.out _ _ ⟨v240, v243, .slice Ao70 y245.length co70, v249, v252, .slice Ao69 y254.length co69, gb257, m12_, m13_, (by rw [ha.out]; exact putSel_none (v := undef) rfl), (by (with_reducible repeat (first | apply rA_ | apply rN_ | apply rD_)); exact Kd.R_mono (Kd.R_far (p := ⟨gb257, 1, none⟩) (Kd.R_far (p := ⟨gb257, 0, none⟩) (Kd.R_types HO_233000.out BK257.out (by decide)) (fun _ hk => hk.2) (.slice Ao70 y245.length co70)) (fun _ hk => hk.2) (.slice Ao69 y254.length co69)) (fun _ hk => by first | exact ⟨hk.1.1, ⟨hk.1.2.1, ⟨hk.1.2.2.1, ⟨hk.1.2.2.2.1, ⟨hk.1.2.2.2.2.1, hk.1.2.2.2.2.2⟩⟩⟩⟩⟩ | (simp only [hk, ne_eq, not_false_eq_true, and_self]))), (by (with_reducible repeat (first | apply rA_ | apply rN_ | apply rD_)); exact Kd.R_mono (Kd.R_far (p := ⟨gb257, 1, none⟩) (Kd.R_far (p := ⟨gb257, 0, none⟩) (Kd.R_types HO_233001.out BK257.out (by decide)) (fun _ hk => hk.2) (.slice Ao70 y245.length co70)) (fun _ hk => hk.2) (.slice Ao69 y254.length co69)) (fun _ hk => by first | exact ⟨hk.1.1, ⟨hk.1.2.1, ⟨hk.1.2.2.1, ⟨hk.1.2.2.2.1, ⟨hk.1.2.2.2.2.1, hk.1.2.2.2.2.2⟩⟩⟩⟩⟩ | (simp only [hk, ne_eq, not_false_eq_true, and_self]))), (by (with_reducible repeat (first | refine kN_ ?_ _ | refine kD_ ?_ | refine kA_ ?_ _)); refine blk_far ?_ NB232_257.out _; (with_reducible repeat (first | refine kN_ ?_ _ | refine kD_ ?_ | refine kA_ ?_ _)); refine blk_far ?_ NB232_257.out _; (with_reducible repeat (first | refine kN_ ?_ _ | refine kD_ ?_ | refine kA_ ?_ _)); exact BK232.out), (by (with_reducible repeat (first | refine kN_ ?_ _ | refine kD_ ?_ | refine kA_ ?_ _)); refine blk_far ?_ NB233_257.out _; (with_reducible repeat (first | refine kN_ ?_ _ | refine kD_ ?_ | refine kA_ ?_ _)); refine blk_far ?_ NB233_257.out _; (with_reducible repeat (first | refine kN_ ?_ _ | refine kD_ ?_ | refine kA_ ?_ _)); exact BK233.out), (by repeat (first | (with_reducible first | exact HK.out | apply Kept.alloc | apply Kept.drewN | apply Kept.drew | refine Kept.setCell ?_ (.inr GW232.out) _ | refine Kept.setCell ?_ (.inr GW233.out) _ | refine Kept.setCell ?_ (.inr GW257.out) _) | exact HK.out)), (by repeat (first | (with_reducible first | exact HB.out | apply bA_ | apply pN_ | apply bD_ | refine bS_ ?_ GE232.out | refine bS_ ?_ GE233.out | refine bS_ ?_ GE257.out) | exact HB.out)), fun _ h1_ => absurd ((hon 5 (by kernel_rfl)).symm.trans h1_) (by decide), fun _ => (by (with_reducible repeat (first | apply rA_ | apply rN_ | apply rD_)); exact Kd.R_mono (Kd.R_far (p := ⟨gb257, 1, none⟩) (Kd.R_far (p := ⟨gb257, 0, none⟩) (Kd.R_types HO244.out BK257.out (by decide)) (fun _ hk => hk.2) (.slice Ao70 y245.length co70)) (fun _ hk => hk.2) (.slice Ao69 y254.length co69)) (fun _ hk => by first | exact ⟨hk.1.1, ⟨hk.1.2.1, ⟨hk.1.2.2.1, ⟨hk.1.2.2.2.1, ⟨hk.1.2.2.2.2.1, hk.1.2.2.2.2.2⟩⟩⟩⟩⟩ | (simp only [hk, ne_eq, not_false_eq_true, and_self]))), fun _ => (by (with_reducible repeat (first | apply rA_ | apply rN_ | apply rD_)); exact Kd.R_mono (Kd.R_far (p := ⟨gb257, 1, none⟩) (Kd.R_far (p := ⟨gb257, 0, none⟩) (Kd.R_types HO247.out BK257.out (by decide)) (fun _ hk => hk.2) (.slice Ao70 y245.length co70)) (fun _ hk => hk.2) (.slice Ao69 y254.length co69)) (fun _ hk => by first | exact ⟨hk.1.1, ⟨hk.1.2.1, ⟨hk.1.2.2.1, ⟨hk.1.2.2.2.1, ⟨hk.1.2.2.2.2.1, hk.1.2.2.2.2.2⟩⟩⟩⟩⟩ | (simp only [hk, ne_eq, not_false_eq_true, and_self]))), fun _ h1_ => absurd ((hon 11 (by kernel_rfl)).symm.trans h1_) (by decide), fun _ => (by (with_reducible repeat (first | apply rA_ | apply rN_ | apply rD_)); exact Kd.R_mono (Kd.R_far (p := ⟨gb257, 1, none⟩) (Kd.R_far (p := ⟨gb257, 0, none⟩) (Kd.R_types HO253.out BK257.out (by decide)) (fun _ hk => hk.2) (.slice Ao70 y245.length co70)) (fun _ hk => hk.2) (.slice Ao69 y254.length co69)) (fun _ hk => by first | exact ⟨hk.1.1, ⟨hk.1.2.1, ⟨hk.1.2.2.1, ⟨hk.1.2.2.2.1, ⟨hk.1.2.2.2.2.1, hk.1.2.2.2.2.2⟩⟩⟩⟩⟩ | (simp only [hk, ne_eq, not_false_eq_true, and_self]))), fun _ => (by (with_reducible repeat (first | apply rA_ | apply rN_ | apply rD_)); exact Kd.R_mono (Kd.R_far (p := ⟨gb257, 1, none⟩) (Kd.R_far (p := ⟨gb257, 0, none⟩) (Kd.R_types HO256.out BK257.out (by decide)) (fun _ hk => hk.2) (.slice Ao70 y245.length co70)) (fun _ hk => hk.2) (.slice Ao69 y254.length co69)) (fun _ hk => by first | exact ⟨hk.1.1, ⟨hk.1.2.1, ⟨hk.1.2.2.1, ⟨hk.1.2.2.2.1, ⟨hk.1.2.2.2.2.1, hk.1.2.2.2.2.2⟩⟩⟩⟩⟩ | (simp only [hk, ne_eq, not_false_eq_true, and_self]))), fun _ h1_ => absurd ((up_self b 14).symm.trans h1_) (by decide), fun _ => GW257.out, fun _ => GE257.out, fun _ => NB232_257.out, fun _ => NB257_232.out, fun _ => NB233_257.out, fun _ => NB257_233.out, fun _ => (by (with_reducible repeat (first | refine kN_ ?_ _ | refine kD_ ?_ | refine kA_ ?_ _)); refine blk_put (cs := #[.slice Ao70 y245.length co70, .slice none 0 0]) ?_ 1 _ rfl; (with_reducible repeat (first | refine kN_ ?_ _ | refine kD_ ?_ | refine kA_ ?_ _)); refine blk_put (cs := #[.slice none 0 0, .slice none 0 0]) ?_ 0 _ rfl; (with_reducible repeat (first | refine kN_ ?_ _ | refine kD_ ?_ | refine kA_ ?_ _)); exact BK257.out), Q_X12_, Q_X13_, Q_D_HO241_HO244, Q_D_HO241_HO250, Q_D_HO241_HO253, Q_D_HO241_HO256, Q_D_HO244_HO247, Q_D_HO244_HO250, Q_D_HO244_HO253, Q_D_HO244_HO256, Q_D_HO247_HO250, Q_D_HO247_HO253, Q_D_HO247_HO256, Q_D_HO250_HO253, Q_D_HO253_HO256⟩
                exact steps_nil
               rintro b a w70 hall ⟨v240, v243, v246, v249, v252, v255, gb257, m12_, m13_, ha, Q_HO_233000, Q_HO_233001, Q_BK232, Q_BK233, Q_HK, Q_HB, Q_HO241, Q_HO244, Q_HO247, Q_HO250, Q_HO253, Q_HO256, Q_BK257, Q_GW257, Q_GE257, Q_NB232_257, Q_NB257_232, Q_NB233_257, Q_NB257_233, Q_BK257_e14, Q_X12_, Q_X13_, Q_D_HO241_HO244, Q_D_HO241_HO250, Q_D_HO241_HO253, Q_D_HO241_HO256, Q_D_HO244_HO247, Q_D_HO244_HO250, Q_D_HO244_HO253, Q_D_HO244_HO256, Q_D_HO247_HO250, Q_D_HO247_HO253, Q_D_HO247_HO256, Q_D_HO250_HO253, Q_D_HO253_HO256⟩
               clear BK232 BK233 HB HK HO_233000 HO_233001
               have hb1_ := hall 1 (by kernel_rfl)
               have hb2_ := hall 2 (by kernel_rfl)
               have hb4_ := hall 4 (by kernel_rfl)
               have hb5_ := hall 5 (by kernel_rfl)
               have hb7_ := hall 7 (by kernel_rfl)
               have hb8_ := hall 8 (by kernel_rfl)
               have hb10_ := hall 10 (by kernel_rfl)
               have hb11_ := hall 11 (by kernel_rfl)
               have hb12_ := hall 12 (by kernel_rfl)
               have hb13_ := hall 13 (by kernel_rfl)
               have hb14_ := hall 14 (by kernel_rfl)
               subst ha
               obtain rfl := Q_X12_ hb12_
               obtain rfl := Q_X13_ hb13_
               simp only [putSel, hb1_, hb2_, hb4_, hb5_, hb7_, hb8_, hb10_, hb11_, hb12_, hb13_, hb14_, if_true, Act.put, List.setIfInBounds_toArray, List.set_cons_zero, List.set_cons_succ]
               have BK232 := aS_ Q_BK232
               clear Q_BK232
               have BK233 := aS_ Q_BK233
               clear Q_BK233
               have HK := aS_ Q_HK
               clear Q_HK
               have HB := aS_ Q_HB
               clear Q_HB
               have HO_233000 := aS_ (Kd.R_reok rfl (ok := (fun k_ => ((P1_0_ k_ ∨ P1_1_ k_) ∨ w.heap.size ≤ k_) ∧ some k_ ≠ (v243 : Value).ownBlock ∧ some k_ ≠ (v246 : Value).ownBlock ∧ some k_ ≠ (v252 : Value).ownBlock ∧ some k_ ≠ (v255 : Value).ownBlock ∧ some k_ ≠ (.slice Ao13 l1_1.length co13 : Value).ownBlock)) (Q_HO_233000) (fun k_ e_ => ⟨((Q_HO_233000).1 k_ e_).1, (fun q_ => ((Q_HO244 hb4_).1 k_ q_.symm).2.1 e_.symm), (fun q_ => ((Q_HO247 hb5_).1 k_ q_.symm).2.1 e_.symm), (fun q_ => ((Q_HO253 hb10_).1 k_ q_.symm).2.1 e_.symm), (fun q_ => ((Q_HO256 hb11_).1 k_ q_.symm).2.1 e_.symm), ((Q_HO_233000).1 k_ e_).2⟩))
               have HO_233001 := aS_ (Kd.R_reok rfl (ok := (fun k_ => ((P1_0_ k_ ∨ P1_1_ k_) ∨ w.heap.size ≤ k_) ∧ some k_ ≠ (v243 : Value).ownBlock ∧ some k_ ≠ (v246 : Value).ownBlock ∧ some k_ ≠ (v252 : Value).ownBlock ∧ some k_ ≠ (v255 : Value).ownBlock ∧ some k_ ≠ (.slice Ao12 l1_0.length co12 : Value).ownBlock)) (Q_HO_233001) (fun k_ e_ => ⟨((Q_HO_233001).1 k_ e_).1, (fun q_ => ((Q_HO244 hb4_).1 k_ q_.symm).2.2 e_.symm), (fun q_ => ((Q_HO247 hb5_).1 k_ q_.symm).2.2 e_.symm), (fun q_ => ((Q_HO253 hb10_).1 k_ q_.symm).2.2 e_.symm), (fun q_ => ((Q_HO256 hb11_).1 k_ q_.symm).2.2 e_.symm), ((Q_HO_233001).1 k_ e_).2⟩))
               have HO244 := aS_ (Kd.R_reok rfl (ok := (fun k_ => ((P1_0_ k_ ∨ P1_1_ k_) ∨ w.heap.size ≤ k_) ∧ some k_ ≠ (v246 : Value).ownBlock ∧ some k_ ≠ (v252 : Value).ownBlock ∧ some k_ ≠ (v255 : Value).ownBlock ∧ some k_ ≠ (.slice Ao12 l1_0.length co12 : Value).ownBlock ∧ some k_ ≠ (.slice Ao13 l1_1.length co13 : Value).ownBlock)) (Q_HO244 hb4_) (fun k_ e_ => ⟨((Q_HO244 hb4_).1 k_ e_).1, (fun q_ => (Q_D_HO244_HO247 hb4_ hb5_) k_ e_ q_.symm), (fun q_ => (Q_D_HO244_HO253 hb4_ hb10_) k_ e_ q_.symm), (fun q_ => (Q_D_HO244_HO256 hb4_ hb11_) k_ e_ q_.symm), ((Q_HO244 hb4_).1 k_ e_).2.1, ((Q_HO244 hb4_).1 k_ e_).2.2⟩))
               have HO247 := aS_ (Kd.R_reok rfl (ok := (fun k_ => ((P1_0_ k_ ∨ P1_1_ k_) ∨ w.heap.size ≤ k_) ∧ some k_ ≠ (v243 : Value).ownBlock ∧ some k_ ≠ (v252 : Value).ownBlock ∧ some k_ ≠ (v255 : Value).ownBlock ∧ some k_ ≠ (.slice Ao12 l1_0.length co12 : Value).ownBlock ∧ some k_ ≠ (.slice Ao13 l1_1.length co13 : Value).ownBlock)) (Q_HO247 hb5_) (fun k_ e_ => ⟨((Q_HO247 hb5_).1 k_ e_).1, (fun q_ => (Q_D_HO244_HO247 hb4_ hb5_) k_ q_.symm e_), (fun q_ => (Q_D_HO247_HO253 hb5_ hb10_) k_ e_ q_.symm), (fun q_ => (Q_D_HO247_HO256 hb5_ hb11_) k_ e_ q_.symm), ((Q_HO247 hb5_).1 k_ e_).2.1, ((Q_HO247 hb5_).1 k_ e_).2.2⟩))
               have HO253 := aS_ (Kd.R_reok rfl (ok := (fun k_ => ((P1_0_ k_ ∨ P1_1_ k_) ∨ w.heap.size ≤ k_) ∧ some k_ ≠ (v243 : Value).ownBlock ∧ some k_ ≠ (v246 : Value).ownBlock ∧ some k_ ≠ (v255 : Value).ownBlock ∧ some k_ ≠ (.slice Ao12 l1_0.length co12 : Value).ownBlock ∧ some k_ ≠ (.slice Ao13 l1_1.length co13 : Value).ownBlock)) (Q_HO253 hb10_) (fun k_ e_ => ⟨((Q_HO253 hb10_).1 k_ e_).1, (fun q_ => (Q_D_HO244_HO253 hb4_ hb10_) k_ q_.symm e_), (fun q_ => (Q_D_HO247_HO253 hb5_ hb10_) k_ q_.symm e_), (fun q_ => (Q_D_HO253_HO256 hb10_ hb11_) k_ e_ q_.symm), ((Q_HO253 hb10_).1 k_ e_).2.1, ((Q_HO253 hb10_).1 k_ e_).2.2⟩))
               have HO256 := aS_ (Kd.R_reok rfl (ok := (fun k_ => ((P1_0_ k_ ∨ P1_1_ k_) ∨ w.heap.size ≤ k_) ∧ some k_ ≠ (v243 : Value).ownBlock ∧ some k_ ≠ (v246 : Value).ownBlock ∧ some k_ ≠ (v252 : Value).ownBlock ∧ some k_ ≠ (.slice Ao12 l1_0.length co12 : Value).ownBlock ∧ some k_ ≠ (.slice Ao13 l1_1.length co13 : Value).ownBlock)) (Q_HO256 hb11_) (fun k_ e_ => ⟨((Q_HO256 hb11_).1 k_ e_).1, (fun q_ => (Q_D_HO244_HO256 hb4_ hb11_) k_ q_.symm e_), (fun q_ => (Q_D_HO247_HO256 hb5_ hb11_) k_ q_.symm e_), (fun q_ => (Q_D_HO253_HO256 hb10_ hb11_) k_ q_.symm e_), ((Q_HO256 hb11_).1 k_ e_).2.1, ((Q_HO256 hb11_).1 k_ e_).2.2⟩))
               clear Q_HO_233000 Q_HO_233001 Q_HO241 Q_HO244 Q_HO247 Q_HO250 Q_HO253 Q_D_HO241_HO244 Q_D_HO241_HO250 Q_D_HO241_HO253 Q_D_HO241_HO256 Q_D_HO244_HO247 Q_D_HO244_HO250 Q_D_HO244_HO253 Q_D_HO244_HO256 Q_D_HO247_HO250 Q_D_HO247_HO253 Q_D_HO247_HO256 Q_D_HO250_HO253 Q_D_HO253_HO256 Q_HO256 Q_BK257
               have GW257 := aS_ (Q_GW257 hb13_)
               clear Q_GW257
               have GE257 := aS_ (Q_GE257 hb13_)
               clear Q_GE257
               have NB232_257 := aS_ (Q_NB232_257 hb13_)
               clear Q_NB232_257
               have NB257_232 := aS_ (Q_NB257_232 hb13_)
               clear Q_NB257_232
               have NB233_257 := aS_ (Q_NB233_257 hb13_)
               clear Q_NB233_257
               have NB257_233 := aS_ (Q_NB257_233 hb13_)
               clear Q_NB257_233
               have BK257 := aS_ (Q_BK257_e14 hb14_)
               clear Q_BK257_e14
               clear hall hb1_ hb2_ hb4_ hb5_ hb7_ hb8_ hb10_ hb11_ hb12_ hb13_ hb14_
               obtain ⟨Ao71, co71, eo71⟩ := Kd.R_slice HO256.out
               (first | subst eo71 | (injection eo71 with f1_ f2_ f3_; have f4_ := f1_.symm; have f5_ := f3_.symm; clear f1_ f2_ f3_; subst f4_; subst f5_))
               obtain ⟨Ao72, co72, eo72⟩ := Kd.R_slice HO247.out
               (first | subst eo72 | (injection eo72 with f1_ f2_ f3_; have f4_ := f1_.symm; have f5_ := f3_.symm; clear f1_ f2_ f3_; subst f4_; subst f5_))
               have hnb73 := NB257_232.out
               have hnc73 := NB232_257.out
               have hnb74 := NB257_233.out
               have hnc74 := NB233_257.out
               have hcz75_0 : w70.cell? ⟨gb257, 0, none⟩ = some (.slice Ao72 y245.length co72) := (blk_cell BK257.out 0).trans rfl
               have hcz75_1 : w70.cell? ⟨gb257, 1, none⟩ = some (.slice Ao71 y254.length co71) := (blk_cell BK257.out 1).trans rfl
               have hfz75_0 := blk_frozen BK257.out 0
               have hfz75_1 := blk_frozen BK257.out 1
               have H := Hc50.out
               clear Hc50
               by_cases c50 : t264 = true
               ·subst c50
                rw [if_pos rfl] at H
                simp only [Option.some.injEq, Prod.mk.injEq] at H
                obtain ⟨rfl, rfl, rfl⟩ := H
                try go_wp2_with (first | ((with_reducible refine gate_callee (f := 14) rfl ?_); refine goesL_ (some 79) rfl rfl Try.func14 (by kernel_rfl) rfl #[.slice (some ad235) l0.length c0, .agg #[.slice Ao72 y245.length co72, .slice Ao71 y254.length co71]] rfl (by (try simp only [List.map_toArray, List.map_cons, List.map_nil]); first | done | rfl | (simp only [List.length_drop, List.length_take]; rfl)) ?_; (with_reducible refine (ih kj30 (by have := HJ10.out; have := HK2.out; have := HJ30.out; omega) _ _ l0 (fun k_ => some k_ = (.slice Ao72 y245.length co72 : Value).ownBlock) (.slice Ao72 y245.length co72) y245 (fun k_ => some k_ = (.slice Ao71 y254.length co71 : Value).ownBlock) (.slice Ao71 y254.length co71) y254 t258 t261 true w0 _ ?side1 ?side2 ?side3 ?side4 ?side5 ?side6 ?side7 A49.out).mono ?_); (case side1 => repeat (first | (with_reducible first | exact HB.out | apply bA_ | apply pN_ | apply bD_ | refine bS_ ?_ GE232.out | refine bS_ ?_ GE233.out | refine bS_ ?_ GE257.out) | exact HB.out)); (case side2 => exact Kd.C_kept_call HR0.out (by repeat (first | (with_reducible first | exact HK.out | apply Kept.alloc | apply Kept.drewN | apply Kept.drew | refine Kept.setCell ?_ (.inr GW232.out) _ | refine Kept.setCell ?_ (.inr GW233.out) _ | refine Kept.setCell ?_ (.inr GW257.out) _) | exact HK.out)) (fun k_ hs_ => Or.elim hs_ (fun e_ => (fun e_ => (HO247.out.1 k_ e_.symm).1) e_) (fun e_ => (fun e_ => (HO256.out.1 k_ e_.symm).1) e_))); (case side3 => exact HC0.out); (case side4 => exact Kd.R_tight rfl HO247.out); (case side5 => exact fun k_ e_ => (HO247.out.1 k_ e_.symm).2.2.2.1); (case side6 => exact Kd.R_tight rfl HO256.out); (case side7 => exact fun k_ e_ => (HO256.out.1 k_ e_.symm).2.2.1); rintro e w76 ⟨v259, v262, rfl, ho0, ho1, hb, hkp⟩; refine ⟨_, rfl, ?_⟩; have n0_ := aS_ (Kd.R_mono (ok' := fun k_ => ((P1_0_ k_ ∨ P1_1_ k_) ∨ w.heap.size ≤ k_) ∧ some k_ ≠ (.slice Ao13 l1_1.length co13 : Value).ownBlock ∧ some k_ ≠ (v243 : Value).ownBlock ∧ some k_ ≠ (v252 : Value).ownBlock ∧ some k_ ≠ (v259 : Value).ownBlock ∧ some k_ ≠ (v262 : Value).ownBlock) (Kd.R_keptB (HO_233000.out) hkp (fun k_ hk_ hs_ => Or.elim hs_ (fun e_ => (hk_.2.2.1) e_) (fun e_ => (hk_.2.2.2.2.1) e_))) (fun k_ hk_ => ⟨hk_.1.1, hk_.1.2.2.2.2.2, hk_.1.2.1, hk_.1.2.2.2.1, fun e_ => Or.elim (ho0.1 k_ e_.symm).1 (fun hs_ => hk_.2.1 hs_) (fun hn_ => Nat.not_le.2 hk_.2.2 hn_), fun e_ => Or.elim (ho1.1 k_ e_.symm).1 (fun hs_ => hk_.2.1 hs_) (fun hn_ => Nat.not_le.2 hk_.2.2 hn_)⟩)); have n1_ := aS_ (Kd.R_mono (ok' := fun k_ => ((P1_0_ k_ ∨ P1_1_ k_) ∨ w.heap.size ≤ k_) ∧ some k_ ≠ (.slice Ao12 l1_0.length co12 : Value).ownBlock ∧ some k_ ≠ (v243 : Value).ownBlock ∧ some k_ ≠ (v252 : Value).ownBlock ∧ some k_ ≠ (v259 : Value).ownBlock ∧ some k_ ≠ (v262 : Value).ownBlock) (Kd.R_keptB (HO_233001.out) hkp (fun k_ hk_ hs_ => Or.elim hs_ (fun e_ => (hk_.2.2.1) e_) (fun e_ => (hk_.2.2.2.2.1) e_))) (fun k_ hk_ => ⟨hk_.1.1, hk_.1.2.2.2.2.2, hk_.1.2.1, hk_.1.2.2.2.1, fun e_ => Or.elim (ho0.1 k_ e_.symm).1 (fun hs_ => hk_.2.1 hs_) (fun hn_ => Nat.not_le.2 hk_.2.2 hn_), fun e_ => Or.elim (ho1.1 k_ e_.symm).1 (fun hs_ => hk_.2.1 hs_) (fun hn_ => Nat.not_le.2 hk_.2.2 hn_)⟩)); have n2_ := aS_ (blk_kept (by (with_reducible repeat (first | refine kN_ ?_ _ | refine kD_ ?_ | refine kA_ ?_ _)); exact BK232.out) hkp (fun hs_ => Or.elim hs_ (fun e_ => (fun e_ => (Kd.R_ne HO247.out BK232.out (by decide)) e_) e_) (fun e_ => (fun e_ => (Kd.R_ne HO256.out BK232.out (by decide)) e_) e_))); have n3_ := aS_ (blk_kept (by (with_reducible repeat (first | refine kN_ ?_ _ | refine kD_ ?_ | refine kA_ ?_ _)); exact BK233.out) hkp (fun hs_ => Or.elim hs_ (fun e_ => (fun e_ => (Kd.R_ne HO247.out BK233.out (by decide)) e_) e_) (fun e_ => (fun e_ => (Kd.R_ne HO256.out BK233.out (by decide)) e_) e_))); have n4_ := aS_ (Kd.R_mono (ok' := fun k_ => ((P1_0_ k_ ∨ P1_1_ k_) ∨ w.heap.size ≤ k_) ∧ some k_ ≠ (.slice Ao12 l1_0.length co12 : Value).ownBlock ∧ some k_ ≠ (.slice Ao13 l1_1.length co13 : Value).ownBlock ∧ some k_ ≠ (v252 : Value).ownBlock ∧ some k_ ≠ (v259 : Value).ownBlock ∧ some k_ ≠ (v262 : Value).ownBlock) (Kd.R_keptB (HO244.out) hkp (fun k_ hk_ hs_ => Or.elim hs_ (fun e_ => (hk_.2.1) e_) (fun e_ => (hk_.2.2.2.1) e_))) (fun k_ hk_ => ⟨hk_.1.1, hk_.1.2.2.2.2.1, hk_.1.2.2.2.2.2, hk_.1.2.2.1, fun e_ => Or.elim (ho0.1 k_ e_.symm).1 (fun hs_ => hk_.2.1 hs_) (fun hn_ => Nat.not_le.2 hk_.2.2 hn_), fun e_ => Or.elim (ho1.1 k_ e_.symm).1 (fun hs_ => hk_.2.1 hs_) (fun hn_ => Nat.not_le.2 hk_.2.2 hn_)⟩)); have n5_ := aS_ (Kd.R_mono (ok' := fun k_ => ((P1_0_ k_ ∨ P1_1_ k_) ∨ w.heap.size ≤ k_) ∧ some k_ ≠ (.slice Ao12 l1_0.length co12 : Value).ownBlock ∧ some k_ ≠ (.slice Ao13 l1_1.length co13 : Value).ownBlock ∧ some k_ ≠ (v243 : Value).ownBlock ∧ some k_ ≠ (v259 : Value).ownBlock ∧ some k_ ≠ (v262 : Value).ownBlock) (Kd.R_keptB (HO253.out) hkp (fun k_ hk_ hs_ => Or.elim hs_ (fun e_ => (hk_.2.2.1) e_) (fun e_ => (hk_.2.2.2.1) e_))) (fun k_ hk_ => ⟨hk_.1.1, hk_.1.2.2.2.2.1, hk_.1.2.2.2.2.2, hk_.1.2.1, fun e_ => Or.elim (ho0.1 k_ e_.symm).1 (fun hs_ => hk_.2.1 hs_) (fun hn_ => Nat.not_le.2 hk_.2.2 hn_), fun e_ => Or.elim (ho1.1 k_ e_.symm).1 (fun hs_ => hk_.2.1 hs_) (fun hn_ => Nat.not_le.2 hk_.2.2 hn_)⟩)); have n6_ := aS_ (blk_kept (by (with_reducible repeat (first | refine kN_ ?_ _ | refine kD_ ?_ | refine kA_ ?_ _)); exact BK257.out) hkp (fun hs_ => Or.elim hs_ (fun e_ => (fun e_ => (Kd.R_ne HO247.out BK257.out (by decide)) e_) e_) (fun e_ => (fun e_ => (Kd.R_ne HO256.out BK257.out (by decide)) e_) e_))); have n7_ := aS_ (Kd.R_mono (ok' := fun k_ => ((P1_0_ k_ ∨ P1_1_ k_) ∨ w.heap.size ≤ k_) ∧ some k_ ≠ (v262 : Value).ownBlock ∧ some k_ ≠ (.slice Ao12 l1_0.length co12 : Value).ownBlock ∧ some k_ ≠ (.slice Ao13 l1_1.length co13 : Value).ownBlock ∧ some k_ ≠ (v243 : Value).ownBlock ∧ some k_ ≠ (v252 : Value).ownBlock) ho0 (fun k_ hk_ => ⟨Or.elim hk_.1 (fun hs_ => Or.elim hs_ (fun hs_ => (HO247.out.1 k_ (hs_).symm).1) (fun hs_ => (HO256.out.1 k_ (hs_).symm).1)) (fun hn_ => (.inr (Nat.le_trans (by first | exact HK.out.1 | exact (show Kept w _ (fun k_ => P1_0_ k_ ∨ P1_1_ k_) from by repeat (first | (with_reducible first | exact HK.out | apply Kept.alloc | apply Kept.drewN | apply Kept.drew | refine Kept.setCell ?_ (.inr GW232.out) _ | refine Kept.setCell ?_ (.inr GW233.out) _ | refine Kept.setCell ?_ (.inr GW257.out) _) | exact HK.out)).1) hn_))), hk_.2, Or.elim hk_.1 (fun hs_ => Or.elim hs_ (fun hs_ => fun e_ => (((HO_233000.out).1 k_ e_.symm).2.2.1) hs_) (fun hs_ => fun e_ => (((HO_233000.out).1 k_ e_.symm).2.2.2.2.1) hs_)) (fun hn_ => (Kd.fresh' (Kd.R_lt (by (with_reducible repeat (first | apply rA_ | apply rN_ | apply rD_)); exact HO_233000.out)) k_ hn_)), Or.elim hk_.1 (fun hs_ => Or.elim hs_ (fun hs_ => fun e_ => (((HO_233001.out).1 k_ e_.symm).2.2.1) hs_) (fun hs_ => fun e_ => (((HO_233001.out).1 k_ e_.symm).2.2.2.2.1) hs_)) (fun hn_ => (Kd.fresh' (Kd.R_lt (by (with_reducible repeat (first | apply rA_ | apply rN_ | apply rD_)); exact HO_233001.out)) k_ hn_)), Or.elim hk_.1 (fun hs_ => Or.elim hs_ (fun hs_ => fun e_ => (((HO244.out).1 k_ e_.symm).2.1) hs_) (fun hs_ => fun e_ => (((HO244.out).1 k_ e_.symm).2.2.2.1) hs_)) (fun hn_ => (Kd.fresh' (Kd.R_lt (by (with_reducible repeat (first | apply rA_ | apply rN_ | apply rD_)); exact HO244.out)) k_ hn_)), Or.elim hk_.1 (fun hs_ => Or.elim hs_ (fun hs_ => fun e_ => (((HO253.out).1 k_ e_.symm).2.2.1) hs_) (fun hs_ => fun e_ => (((HO253.out).1 k_ e_.symm).2.2.2.1) hs_)) (fun hn_ => (Kd.fresh' (Kd.R_lt (by (with_reducible repeat (first | apply rA_ | apply rN_ | apply rD_)); exact HO253.out)) k_ hn_))⟩)); have n8_ := aS_ (Kd.R_mono (ok' := fun k_ => ((P1_0_ k_ ∨ P1_1_ k_) ∨ w.heap.size ≤ k_) ∧ some k_ ≠ (v259 : Value).ownBlock ∧ some k_ ≠ (.slice Ao12 l1_0.length co12 : Value).ownBlock ∧ some k_ ≠ (.slice Ao13 l1_1.length co13 : Value).ownBlock ∧ some k_ ≠ (v243 : Value).ownBlock ∧ some k_ ≠ (v252 : Value).ownBlock) ho1 (fun k_ hk_ => ⟨Or.elim hk_.1 (fun hs_ => Or.elim hs_ (fun hs_ => (HO247.out.1 k_ (hs_).symm).1) (fun hs_ => (HO256.out.1 k_ (hs_).symm).1)) (fun hn_ => (.inr (Nat.le_trans (by first | exact HK.out.1 | exact (show Kept w _ (fun k_ => P1_0_ k_ ∨ P1_1_ k_) from by repeat (first | (with_reducible first | exact HK.out | apply Kept.alloc | apply Kept.drewN | apply Kept.drew | refine Kept.setCell ?_ (.inr GW232.out) _ | refine Kept.setCell ?_ (.inr GW233.out) _ | refine Kept.setCell ?_ (.inr GW257.out) _) | exact HK.out)).1) hn_))), hk_.2, Or.elim hk_.1 (fun hs_ => Or.elim hs_ (fun hs_ => fun e_ => (((HO_233000.out).1 k_ e_.symm).2.2.1) hs_) (fun hs_ => fun e_ => (((HO_233000.out).1 k_ e_.symm).2.2.2.2.1) hs_)) (fun hn_ => (Kd.fresh' (Kd.R_lt (by (with_reducible repeat (first | apply rA_ | apply rN_ | apply rD_)); exact HO_233000.out)) k_ hn_)), Or.elim hk_.1 (fun hs_ => Or.elim hs_ (fun hs_ => fun e_ => (((HO_233001.out).1 k_ e_.symm).2.2.1) hs_) (fun hs_ => fun e_ => (((HO_233001.out).1 k_ e_.symm).2.2.2.2.1) hs_)) (fun hn_ => (Kd.fresh' (Kd.R_lt (by (with_reducible repeat (first | apply rA_ | apply rN_ | apply rD_)); exact HO_233001.out)) k_ hn_)), Or.elim hk_.1 (fun hs_ => Or.elim hs_ (fun hs_ => fun e_ => (((HO244.out).1 k_ e_.symm).2.1) hs_) (fun hs_ => fun e_ => (((HO244.out).1 k_ e_.symm).2.2.2.1) hs_)) (fun hn_ => (Kd.fresh' (Kd.R_lt (by (with_reducible repeat (first | apply rA_ | apply rN_ | apply rD_)); exact HO244.out)) k_ hn_)), Or.elim hk_.1 (fun hs_ => Or.elim hs_ (fun hs_ => fun e_ => (((HO253.out).1 k_ e_.symm).2.2.1) hs_) (fun hs_ => fun e_ => (((HO253.out).1 k_ e_.symm).2.2.2.1) hs_)) (fun hn_ => (Kd.fresh' (Kd.R_lt (by (with_reducible repeat (first | apply rA_ | apply rN_ | apply rD_)); exact HO253.out)) k_ hn_))⟩)); have n9_ := aS_ (Kept.then_ (S := (fun k_ => P1_0_ k_ ∨ P1_1_ k_)) (by repeat (first | (with_reducible first | exact HK.out | apply Kept.alloc | apply Kept.drewN | apply Kept.drew | refine Kept.setCell ?_ (.inr GW232.out) _ | refine Kept.setCell ?_ (.inr GW233.out) _ | refine Kept.setCell ?_ (.inr GW257.out) _) | exact HK.out)) hkp (fun k_ hs_ => Or.elim hs_ (fun e_ => (fun e_ => (HO247.out.1 k_ e_.symm).1) e_) (fun e_ => (fun e_ => (HO256.out.1 k_ e_.symm).1) e_))); have n10_ := aS_ (hb); clear HO_233000; clear HO_233001; clear BK232; clear BK233; clear HO244; clear HO253; clear BK257; clear HK; clear HB; clear HO247; clear HO256; have HO_233000 := n0_; have HO_233001 := n1_; have BK232 := n2_; have BK233 := n3_; have HO244 := n4_; have HO253 := n5_; have BK257 := n6_; have HO260 := n7_; have HO263 := n8_; have HK := n9_; have HB := n10_; clear n0_ n1_ n2_ n3_ n4_ n5_ n6_ n7_ n8_ n9_ n10_; (try clear hb); (try clear hkp); (try clear ho0); (try clear ho1)) | ((with_reducible refine gate_dst (N := 12) rfl ?_); refine box_event ?hg (N := 12) ?hd (cs := #[.slice none 0 0, .slice none 0 0]) (t := 34) ?hr ?_; (case hd => rfl); (case hg => rfl); (case hr => first | (go_simp; done) | (go_simp; rfl)); intro gb265 hg w77 hbox hb; have n0_ := aS_ (Kd.R_below (by (with_reducible repeat (first | apply rA_ | apply rN_ | apply rD_)); exact HO_233000.out) hb); have n1_ := aS_ (Kd.R_below (by (with_reducible repeat (first | apply rA_ | apply rN_ | apply rD_)); exact HO_233001.out) hb); have n2_ := aS_ (Kd.R_below (by (with_reducible repeat (first | apply rA_ | apply rN_ | apply rD_)); exact HO244.out) hb); have n3_ := aS_ (Kd.R_below (by (with_reducible repeat (first | apply rA_ | apply rN_ | apply rD_)); exact HO253.out) hb); have n4_ := aS_ (Kd.R_below (by (with_reducible repeat (first | apply rA_ | apply rN_ | apply rD_)); exact HO260.out) hb); have n5_ := aS_ (Kd.R_below (by (with_reducible repeat (first | apply rA_ | apply rN_ | apply rD_)); exact HO263.out) hb); have n6_ := aS_ (blk_below (g := gb232) (o := .cells #[.slice Ao12 l1_0.length co12, .slice Ao13 l1_1.length co13] 34 (0, 0)) (by (with_reducible repeat (first | refine kN_ ?_ _ | refine kD_ ?_ | refine kA_ ?_ _)); exact BK232.out) hb); have n7_ := aS_ (blk_below (g := gb233) (o := .cells #[.slice none 0 0, .slice none 0 0] 34 (0, 0)) (by (with_reducible repeat (first | refine kN_ ?_ _ | refine kD_ ?_ | refine kA_ ?_ _)); exact BK233.out) hb); have n8_ := aS_ (blk_below (g := gb257) (o := .cells #[.slice Ao72 y245.length co72, .slice Ao71 y254.length co71] 34 (0, 0)) (by (with_reducible repeat (first | refine kN_ ?_ _ | refine kD_ ?_ | refine kA_ ?_ _)); exact BK257.out) hb); have n9_ := aS_ (Kept.below (S := (fun k_ => P1_0_ k_ ∨ P1_1_ k_)) (by repeat (first | (with_reducible first | exact HK.out | apply Kept.alloc | apply Kept.drewN | apply Kept.drew | refine Kept.setCell ?_ (.inr GW232.out) _ | refine Kept.setCell ?_ (.inr GW233.out) _ | refine Kept.setCell ?_ (.inr GW257.out) _) | exact HK.out)) hb); have n10_ := aS_ (below_step (by repeat (first | (with_reducible first | exact HB.out | apply bA_ | apply pN_ | apply bD_ | refine bS_ ?_ GE232.out | refine bS_ ?_ GE233.out | refine bS_ ?_ GE257.out) | exact HB.out)) hb); have n11_ := aS_ (hbox); have n12_ := aS_ ((by rw [hg]; exact (by first | exact HK.out.1 | exact (show Kept w _ (fun k_ => P1_0_ k_ ∨ P1_1_ k_) from by repeat (first | (with_reducible first | exact HK.out | apply Kept.alloc | apply Kept.drewN | apply Kept.drew | refine Kept.setCell ?_ (.inr GW232.out) _ | refine Kept.setCell ?_ (.inr GW233.out) _ | refine Kept.setCell ?_ (.inr GW257.out) _) | exact HK.out)).1) : w.heap.size ≤ gb265)); have n13_ := aS_ ((by rw [hg]; exact (below_size (by repeat (first | (with_reducible first | exact HB.out | apply bA_ | apply pN_ | apply bD_ | refine bS_ ?_ GE232.out | refine bS_ ?_ GE233.out | refine bS_ ?_ GE257.out) | exact HB.out))) : w0.heap.size ≤ gb265)); have n14_ := aS_ ((by rw [hg]; exact Nat.ne_of_lt (blk_lt (g := gb232) (o := .cells #[.slice Ao12 l1_0.length co12, .slice Ao13 l1_1.length co13] 34 (0, 0)) (by (with_reducible repeat (first | refine kN_ ?_ _ | refine kD_ ?_ | refine kA_ ?_ _)); exact BK232.out)) : gb232 ≠ gb265)); have n15_ := aS_ ((by rw [hg]; exact Nat.ne_of_gt (blk_lt (g := gb232) (o := .cells #[.slice Ao12 l1_0.length co12, .slice Ao13 l1_1.length co13] 34 (0, 0)) (by (with_reducible repeat (first | refine kN_ ?_ _ | refine kD_ ?_ | refine kA_ ?_ _)); exact BK232.out)) : gb265 ≠ gb232)); have n16_ := aS_ ((by rw [hg]; exact Nat.ne_of_lt (blk_lt (g := gb233) (o := .cells #[.slice none 0 0, .slice none 0 0] 34 (0, 0)) (by (with_reducible repeat (first | refine kN_ ?_ _ | refine kD_ ?_ | refine kA_ ?_ _)); exact BK233.out)) : gb233 ≠ gb265)); have n17_ := aS_ ((by rw [hg]; exact Nat.ne_of_gt (blk_lt (g := gb233) (o := .cells #[.slice none 0 0, .slice none 0 0] 34 (0, 0)) (by (with_reducible repeat (first | refine kN_ ?_ _ | refine kD_ ?_ | refine kA_ ?_ _)); exact BK233.out)) : gb265 ≠ gb233)); have n18_ := aS_ ((by rw [hg]; exact Nat.ne_of_lt (blk_lt (g := gb257) (o := .cells #[.slice Ao72 y245.length co72, .slice Ao71 y254.length co71] 34 (0, 0)) (by (with_reducible repeat (first | refine kN_ ?_ _ | refine kD_ ?_ | refine kA_ ?_ _)); exact BK257.out)) : gb257 ≠ gb265)); have n19_ := aS_ ((by rw [hg]; exact Nat.ne_of_gt (blk_lt (g := gb257) (o := .cells #[.slice Ao72 y245.length co72, .slice Ao71 y254.length co71] 34 (0, 0)) (by (with_reducible repeat (first | refine kN_ ?_ _ | refine kD_ ?_ | refine kA_ ?_ _)); exact BK257.out)) : gb265 ≠ gb257)); clear HO_233000; clear HO_233001; clear HO244; clear HO253; clear HO260; clear HO263; clear BK232; clear BK233; clear BK257; clear HK; clear HB; have HO_233000 := n0_; have HO_233001 := n1_; have HO244 := n2_; have HO253 := n3_; have HO260 := n4_; have HO263 := n5_; have BK232 := n6_; have BK233 := n7_; have BK257 := n8_; have HK := n9_; have HB := n10_; have BK265 := n11_; have GW265 := n12_; have GE265 := n13_; have NB232_265 := n14_; have NB265_232 := n15_; have NB233_265 := n16_; have NB265_233 := n17_; have NB257_265 := n18_; have NB265_257 := n19_; clear n0_ n1_ n2_ n3_ n4_ n5_ n6_ n7_ n8_ n9_ n10_ n11_ n12_ n13_ n14_ n15_ n16_ n17_ n18_ n19_; clear hb hbox hg; obtain ⟨Ao78, co78, eo78⟩ := Kd.R_slice HO260.out; subst eo78; have hnb79 := NB265_232.out; have hnc79 := NB232_265.out; have hnb80 := NB265_233.out; have hnc80 := NB233_265.out; have hnb81 := NB265_257.out; have hnc81 := NB257_265.out; have hcz82_0 : w77.cell? ⟨gb265, 0, none⟩ = some (.slice none 0 0) := (blk_cell BK265.out 0).trans rfl; have hcz82_1 : w77.cell? ⟨gb265, 1, none⟩ = some (.slice none 0 0) := (blk_cell BK265.out 1).trans rfl; have hfz82_0 := blk_frozen BK265.out 0; have hfz82_1 := blk_frozen BK265.out 1; obtain ⟨Ao83, co83, eo83⟩ := Kd.R_slice HO263.out; subst eo83; have hcz84_0 : w77.cell? ⟨gb233, 0, none⟩ = some (.slice none 0 0) := (blk_cell BK233.out 0).trans rfl; have hcz84_1 : w77.cell? ⟨gb233, 1, none⟩ = some (.slice none 0 0) := (blk_cell BK233.out 1).trans rfl; have hfz84_0 := blk_frozen BK233.out 0; have hfz84_1 := blk_frozen BK233.out 1))
                refine bodyPost_ret (results_ct rfl _ _ gb233 34 #[.slice Ao78 t258.length co78, .slice Ao83 t261.length co83] (0, 0) _ rfl (by (with_reducible repeat (first | refine kN_ ?_ _ | refine kD_ ?_ | refine kA_ ?_ _)); refine blk_put (cs := #[.slice Ao78 t258.length co78, .slice none 0 0]) ?_ 1 _ rfl; (with_reducible repeat (first | refine kN_ ?_ _ | refine kD_ ?_ | refine kA_ ?_ _)); refine blk_put (cs := #[.slice none 0 0, .slice none 0 0]) ?_ 0 _ rfl; (with_reducible repeat (first | refine kN_ ?_ _ | refine kD_ ?_ | refine kA_ ?_ _)); refine blk_far ?_ NB233_265.out _; (with_reducible repeat (first | refine kN_ ?_ _ | refine kD_ ?_ | refine kA_ ?_ _)); refine blk_far ?_ NB233_265.out _; (with_reducible repeat (first | refine kN_ ?_ _ | refine kD_ ?_ | refine kA_ ?_ _)); exact BK233.out) Try.underlying34 rfl (by kernel_rfl)) rfl ?_
                exact ⟨_, _, by first | rfl | (simp [errW_none, errW_some] <;> rfl) | (simp [*, errW_none, errW_some] <;> rfl), by (with_reducible repeat (first | apply rA_ | apply rN_ | apply rD_)); exact Kd.R_mono (Kd.R_far (p := ⟨gb233, 1, none⟩) (Kd.R_far (p := ⟨gb233, 0, none⟩) (Kd.R_far (p := ⟨gb265, 1, none⟩) (Kd.R_far (p := ⟨gb265, 0, none⟩) (Kd.R_types (Kd.R_types HO260.out BK265.out (by decide)) BK233.out (by decide)) (fun _ hk => hk.1.2) (.slice Ao78 t258.length co78)) (fun _ hk => hk.1.2) (.slice Ao83 t261.length co83)) (fun _ hk => hk.2) (.slice Ao78 t258.length co78)) (fun _ hk => hk.2) (.slice Ao83 t261.length co83)) (fun _ hk => by first | exact ⟨hk.1.1.1, hk.1.1.2.1⟩ | (simp only [hk, ne_eq, not_false_eq_true, and_self])), by (with_reducible repeat (first | apply rA_ | apply rN_ | apply rD_)); exact Kd.R_mono (Kd.R_far (p := ⟨gb233, 1, none⟩) (Kd.R_far (p := ⟨gb233, 0, none⟩) (Kd.R_far (p := ⟨gb265, 1, none⟩) (Kd.R_far (p := ⟨gb265, 0, none⟩) (Kd.R_types (Kd.R_types HO263.out BK265.out (by decide)) BK233.out (by decide)) (fun _ hk => hk.1.2) (.slice Ao78 t258.length co78)) (fun _ hk => hk.1.2) (.slice Ao83 t261.length co83)) (fun _ hk => hk.2) (.slice Ao78 t258.length co78)) (fun _ hk => hk.2) (.slice Ao83 t261.length co83)) (fun _ hk => by first | exact ⟨hk.1.1.1, hk.1.1.2.1⟩ | (simp only [hk, ne_eq, not_false_eq_true, and_self])), by repeat (first | (with_reducible first | exact HB.out | apply bA_ | apply pN_ | apply bD_ | refine bS_ ?_ GE232.out | refine bS_ ?_ GE233.out | refine bS_ ?_ GE257.out | refine bS_ ?_ GE265.out) | exact HB.out), by repeat (first | (with_reducible first | exact HK.out | apply Kept.alloc | apply Kept.drewN | apply Kept.drew | refine Kept.setCell ?_ (.inr GW232.out) _ | refine Kept.setCell ?_ (.inr GW233.out) _ | refine Kept.setCell ?_ (.inr GW257.out) _ | refine Kept.setCell ?_ (.inr GW265.out) _) | exact HK.out)⟩
               ·replace c50 := Bool.eq_false_iff.mpr c50
                subst c50
                rw [if_neg (show ¬ (false = true) by decide)] at H
                have H' := aS_ H
                clear H
                try go_wp2_with (first | ((with_reducible refine gate_callee (f := 14) rfl ?_); refine goesL_ (some 79) rfl rfl Try.func14 (by kernel_rfl) rfl #[.slice (some ad235) l0.length c0, .agg #[.slice Ao72 y245.length co72, .slice Ao71 y254.length co71]] rfl (by (try simp only [List.map_toArray, List.map_cons, List.map_nil]); first | done | rfl | (simp only [List.length_drop, List.length_take]; rfl)) ?_; (with_reducible refine (ih kj30 (by have := HJ10.out; have := HK2.out; have := HJ30.out; omega) _ _ l0 (fun k_ => some k_ = (.slice Ao72 y245.length co72 : Value).ownBlock) (.slice Ao72 y245.length co72) y245 (fun k_ => some k_ = (.slice Ao71 y254.length co71 : Value).ownBlock) (.slice Ao71 y254.length co71) y254 t258 t261 false w0 _ ?side1 ?side2 ?side3 ?side4 ?side5 ?side6 ?side7 A49.out).mono ?_); (case side1 => repeat (first | (with_reducible first | exact HB.out | apply bA_ | apply pN_ | apply bD_ | refine bS_ ?_ GE232.out | refine bS_ ?_ GE233.out | refine bS_ ?_ GE257.out) | exact HB.out)); (case side2 => exact Kd.C_kept_call HR0.out (by repeat (first | (with_reducible first | exact HK.out | apply Kept.alloc | apply Kept.drewN | apply Kept.drew | refine Kept.setCell ?_ (.inr GW232.out) _ | refine Kept.setCell ?_ (.inr GW233.out) _ | refine Kept.setCell ?_ (.inr GW257.out) _) | exact HK.out)) (fun k_ hs_ => Or.elim hs_ (fun e_ => (fun e_ => (HO247.out.1 k_ e_.symm).1) e_) (fun e_ => (fun e_ => (HO256.out.1 k_ e_.symm).1) e_))); (case side3 => exact HC0.out); (case side4 => exact Kd.R_tight rfl HO247.out); (case side5 => exact fun k_ e_ => (HO247.out.1 k_ e_.symm).2.2.2.1); (case side6 => exact Kd.R_tight rfl HO256.out); (case side7 => exact fun k_ e_ => (HO256.out.1 k_ e_.symm).2.2.1); rintro e w110 ⟨v259, v262, rfl, ho0, ho1, hb, hkp⟩; refine ⟨_, rfl, ?_⟩; have n0_ := aS_ (Kd.R_mono (ok' := fun k_ => ((P1_0_ k_ ∨ P1_1_ k_) ∨ w.heap.size ≤ k_) ∧ some k_ ≠ (.slice Ao13 l1_1.length co13 : Value).ownBlock ∧ some k_ ≠ (v243 : Value).ownBlock ∧ some k_ ≠ (v252 : Value).ownBlock ∧ some k_ ≠ (v259 : Value).ownBlock ∧ some k_ ≠ (v262 : Value).ownBlock) (Kd.R_keptB (HO_233000.out) hkp (fun k_ hk_ hs_ => Or.elim hs_ (fun e_ => (hk_.2.2.1) e_) (fun e_ => (hk_.2.2.2.2.1) e_))) (fun k_ hk_ => ⟨hk_.1.1, hk_.1.2.2.2.2.2, hk_.1.2.1, hk_.1.2.2.2.1, fun e_ => Or.elim (ho0.1 k_ e_.symm).1 (fun hs_ => hk_.2.1 hs_) (fun hn_ => Nat.not_le.2 hk_.2.2 hn_), fun e_ => Or.elim (ho1.1 k_ e_.symm).1 (fun hs_ => hk_.2.1 hs_) (fun hn_ => Nat.not_le.2 hk_.2.2 hn_)⟩)); have n1_ := aS_ (Kd.R_mono (ok' := fun k_ => ((P1_0_ k_ ∨ P1_1_ k_) ∨ w.heap.size ≤ k_) ∧ some k_ ≠ (.slice Ao12 l1_0.length co12 : Value).ownBlock ∧ some k_ ≠ (v243 : Value).ownBlock ∧ some k_ ≠ (v252 : Value).ownBlock ∧ some k_ ≠ (v259 : Value).ownBlock ∧ some k_ ≠ (v262 : Value).ownBlock) (Kd.R_keptB (HO_233001.out) hkp (fun k_ hk_ hs_ => Or.elim hs_ (fun e_ => (hk_.2.2.1) e_) (fun e_ => (hk_.2.2.2.2.1) e_))) (fun k_ hk_ => ⟨hk_.1.1, hk_.1.2.2.2.2.2, hk_.1.2.1, hk_.1.2.2.2.1, fun e_ => Or.elim (ho0.1 k_ e_.symm).1 (fun hs_ => hk_.2.1 hs_) (fun hn_ => Nat.not_le.2 hk_.2.2 hn_), fun e_ => Or.elim (ho1.1 k_ e_.symm).1 (fun hs_ => hk_.2.1 hs_) (fun hn_ => Nat.not_le.2 hk_.2.2 hn_)⟩)); have n2_ := aS_ (blk_kept (by (with_reducible repeat (first | refine kN_ ?_ _ | refine kD_ ?_ | refine kA_ ?_ _)); exact BK232.out) hkp (fun hs_ => Or.elim hs_ (fun e_ => (fun e_ => (Kd.R_ne HO247.out BK232.out (by decide)) e_) e_) (fun e_ => (fun e_ => (Kd.R_ne HO256.out BK232.out (by decide)) e_) e_))); have n3_ := aS_ (blk_kept (by (with_reducible repeat (first | refine kN_ ?_ _ | refine kD_ ?_ | refine kA_ ?_ _)); exact BK233.out) hkp (fun hs_ => Or.elim hs_ (fun e_ => (fun e_ => (Kd.R_ne HO247.out BK233.out (by decide)) e_) e_) (fun e_ => (fun e_ => (Kd.R_ne HO256.out BK233.out (by decide)) e_) e_))); have n4_ := aS_ (Kd.R_mono (ok' := fun k_ => ((P1_0_ k_ ∨ P1_1_ k_) ∨ w.heap.size ≤ k_) ∧ some k_ ≠ (.slice Ao12 l1_0.length co12 : Value).ownBlock ∧ some k_ ≠ (.slice Ao13 l1_1.length co13 : Value).ownBlock ∧ some k_ ≠ (v252 : Value).ownBlock ∧ some k_ ≠ (v259 : Value).ownBlock ∧ some k_ ≠ (v262 : Value).ownBlock) (Kd.R_keptB (HO244.out) hkp (fun k_ hk_ hs_ => Or.elim hs_ (fun e_ => (hk_.2.1) e_) (fun e_ => (hk_.2.2.2.1) e_))) (fun k_ hk_ => ⟨hk_.1.1, hk_.1.2.2.2.2.1, hk_.1.2.2.2.2.2, hk_.1.2.2.1, fun e_ => Or.elim (ho0.1 k_ e_.symm).1 (fun hs_ => hk_.2.1 hs_) (fun hn_ => Nat.not_le.2 hk_.2.2 hn_), fun e_ => Or.elim (ho1.1 k_ e_.symm).1 (fun hs_ => hk_.2.1 hs_) (fun hn_ => Nat.not_le.2 hk_.2.2 hn_)⟩)); have n5_ := aS_ (Kd.R_mono (ok' := fun k_ => ((P1_0_ k_ ∨ P1_1_ k_) ∨ w.heap.size ≤ k_) ∧ some k_ ≠ (.slice Ao12 l1_0.length co12 : Value).ownBlock ∧ some k_ ≠ (.slice Ao13 l1_1.length co13 : Value).ownBlock ∧ some k_ ≠ (v243 : Value).ownBlock ∧ some k_ ≠ (v259 : Value).ownBlock ∧ some k_ ≠ (v262 : Value).ownBlock) (Kd.R_keptB (HO253.out) hkp (fun k_ hk_ hs_ => Or.elim hs_ (fun e_ => (hk_.2.2.1) e_) (fun e_ => (hk_.2.2.2.1) e_))) (fun k_ hk_ => ⟨hk_.1.1, hk_.1.2.2.2.2.1, hk_.1.2.2.2.2.2, hk_.1.2.1, fun e_ => Or.elim (ho0.1 k_ e_.symm).1 (fun hs_ => hk_.2.1 hs_) (fun hn_ => Nat.not_le.2 hk_.2.2 hn_), fun e_ => Or.elim (ho1.1 k_ e_.symm).1 (fun hs_ => hk_.2.1 hs_) (fun hn_ => Nat.not_le.2 hk_.2.2 hn_)⟩)); have n6_ := aS_ (blk_kept (by (with_reducible repeat (first | refine kN_ ?_ _ | refine kD_ ?_ | refine kA_ ?_ _)); exact BK257.out) hkp (fun hs_ => Or.elim hs_ (fun e_ => (fun e_ => (Kd.R_ne HO247.out BK257.out (by decide)) e_) e_) (fun e_ => (fun e_ => (Kd.R_ne HO256.out BK257.out (by decide)) e_) e_))); have n7_ := aS_ (Kd.R_mono (ok' := fun k_ => ((P1_0_ k_ ∨ P1_1_ k_) ∨ w.heap.size ≤ k_) ∧ some k_ ≠ (v262 : Value).ownBlock ∧ some k_ ≠ (.slice Ao12 l1_0.length co12 : Value).ownBlock ∧ some k_ ≠ (.slice Ao13 l1_1.length co13 : Value).ownBlock ∧ some k_ ≠ (v243 : Value).ownBlock ∧ some k_ ≠ (v252 : Value).ownBlock) ho0 (fun k_ hk_ => ⟨Or.elim hk_.1 (fun hs_ => Or.elim hs_ (fun hs_ => (HO247.out.1 k_ (hs_).symm).1) (fun hs_ => (HO256.out.1 k_ (hs_).symm).1)) (fun hn_ => (.inr (Nat.le_trans (by first | exact HK.out.1 | exact (show Kept w _ (fun k_ => P1_0_ k_ ∨ P1_1_ k_) from by repeat (first | (with_reducible first | exact HK.out | apply Kept.alloc | apply Kept.drewN | apply Kept.drew | refine Kept.setCell ?_ (.inr GW232.out) _ | refine Kept.setCell ?_ (.inr GW233.out) _ | refine Kept.setCell ?_ (.inr GW257.out) _) | exact HK.out)).1) hn_))), hk_.2, Or.elim hk_.1 (fun hs_ => Or.elim hs_ (fun hs_ => fun e_ => (((HO_233000.out).1 k_ e_.symm).2.2.1) hs_) (fun hs_ => fun e_ => (((HO_233000.out).1 k_ e_.symm).2.2.2.2.1) hs_)) (fun hn_ => (Kd.fresh' (Kd.R_lt (by (with_reducible repeat (first | apply rA_ | apply rN_ | apply rD_)); exact HO_233000.out)) k_ hn_)), Or.elim hk_.1 (fun hs_ => Or.elim hs_ (fun hs_ => fun e_ => (((HO_233001.out).1 k_ e_.symm).2.2.1) hs_) (fun hs_ => fun e_ => (((HO_233001.out).1 k_ e_.symm).2.2.2.2.1) hs_)) (fun hn_ => (Kd.fresh' (Kd.R_lt (by (with_reducible repeat (first | apply rA_ | apply rN_ | apply rD_)); exact HO_233001.out)) k_ hn_)), Or.elim hk_.1 (fun hs_ => Or.elim hs_ (fun hs_ => fun e_ => (((HO244.out).1 k_ e_.symm).2.1) hs_) (fun hs_ => fun e_ => (((HO244.out).1 k_ e_.symm).2.2.2.1) hs_)) (fun hn_ => (Kd.fresh' (Kd.R_lt (by (with_reducible repeat (first | apply rA_ | apply rN_ | apply rD_)); exact HO244.out)) k_ hn_)), Or.elim hk_.1 (fun hs_ => Or.elim hs_ (fun hs_ => fun e_ => (((HO253.out).1 k_ e_.symm).2.2.1) hs_) (fun hs_ => fun e_ => (((HO253.out).1 k_ e_.symm).2.2.2.1) hs_)) (fun hn_ => (Kd.fresh' (Kd.R_lt (by (with_reducible repeat (first | apply rA_ | apply rN_ | apply rD_)); exact HO253.out)) k_ hn_))⟩)); have n8_ := aS_ (Kd.R_mono (ok' := fun k_ => ((P1_0_ k_ ∨ P1_1_ k_) ∨ w.heap.size ≤ k_) ∧ some k_ ≠ (v259 : Value).ownBlock ∧ some k_ ≠ (.slice Ao12 l1_0.length co12 : Value).ownBlock ∧ some k_ ≠ (.slice Ao13 l1_1.length co13 : Value).ownBlock ∧ some k_ ≠ (v243 : Value).ownBlock ∧ some k_ ≠ (v252 : Value).ownBlock) ho1 (fun k_ hk_ => ⟨Or.elim hk_.1 (fun hs_ => Or.elim hs_ (fun hs_ => (HO247.out.1 k_ (hs_).symm).1) (fun hs_ => (HO256.out.1 k_ (hs_).symm).1)) (fun hn_ => (.inr (Nat.le_trans (by first | exact HK.out.1 | exact (show Kept w _ (fun k_ => P1_0_ k_ ∨ P1_1_ k_) from by repeat (first | (with_reducible first | exact HK.out | apply Kept.alloc | apply Kept.drewN | apply Kept.drew | refine Kept.setCell ?_ (.inr GW232.out) _ | refine Kept.setCell ?_ (.inr GW233.out) _ | refine Kept.setCell ?_ (.inr GW257.out) _) | exact HK.out)).1) hn_))), hk_.2, Or.elim hk_.1 (fun hs_ => Or.elim hs_ (fun hs_ => fun e_ => (((HO_233000.out).1 k_ e_.symm).2.2.1) hs_) (fun hs_ => fun e_ => (((HO_233000.out).1 k_ e_.symm).2.2.2.2.1) hs_)) (fun hn_ => (Kd.fresh' (Kd.R_lt (by (with_reducible repeat (first | apply rA_ | apply rN_ | apply rD_)); exact HO_233000.out)) k_ hn_)), Or.elim hk_.1 (fun hs_ => Or.elim hs_ (fun hs_ => fun e_ => (((HO_233001.out).1 k_ e_.symm).2.2.1) hs_) (fun hs_ => fun e_ => (((HO_233001.out).1 k_ e_.symm).2.2.2.2.1) hs_)) (fun hn_ => (Kd.fresh' (Kd.R_lt (by (with_reducible repeat (first | apply rA_ | apply rN_ | apply rD_)); exact HO_233001.out)) k_ hn_)), Or.elim hk_.1 (fun hs_ => Or.elim hs_ (fun hs_ => fun e_ => (((HO244.out).1 k_ e_.symm).2.1) hs_) (fun hs_ => fun e_ => (((HO244.out).1 k_ e_.symm).2.2.2.1) hs_)) (fun hn_ => (Kd.fresh' (Kd.R_lt (by (with_reducible repeat (first | apply rA_ | apply rN_ | apply rD_)); exact HO244.out)) k_ hn_)), Or.elim hk_.1 (fun hs_ => Or.elim hs_ (fun hs_ => fun e_ => (((HO253.out).1 k_ e_.symm).2.2.1) hs_) (fun hs_ => fun e_ => (((HO253.out).1 k_ e_.symm).2.2.2.1) hs_)) (fun hn_ => (Kd.fresh' (Kd.R_lt (by (with_reducible repeat (first | apply rA_ | apply rN_ | apply rD_)); exact HO253.out)) k_ hn_))⟩)); have n9_ := aS_ (Kept.then_ (S := (fun k_ => P1_0_ k_ ∨ P1_1_ k_)) (by repeat (first | (with_reducible first | exact HK.out | apply Kept.alloc | apply Kept.drewN | apply Kept.drew | refine Kept.setCell ?_ (.inr GW232.out) _ | refine Kept.setCell ?_ (.inr GW233.out) _ | refine Kept.setCell ?_ (.inr GW257.out) _) | exact HK.out)) hkp (fun k_ hs_ => Or.elim hs_ (fun e_ => (fun e_ => (HO247.out.1 k_ e_.symm).1) e_) (fun e_ => (fun e_ => (HO256.out.1 k_ e_.symm).1) e_))); have n10_ := aS_ (hb); clear HO_233000; clear HO_233001; clear BK232; clear BK233; clear HO244; clear HO253; clear BK257; clear HK; clear HB; clear HO247; clear HO256; have HO_233000 := n0_; have HO_233001 := n1_; have BK232 := n2_; have BK233 := n3_; have HO244 := n4_; have HO253 := n5_; have BK257 := n6_; have HO260 := n7_; have HO263 := n8_; have HK := n9_; have HB := n10_; clear n0_ n1_ n2_ n3_ n4_ n5_ n6_ n7_ n8_ n9_ n10_; (try clear hb); (try clear hkp); (try clear ho0); (try clear ho1)) | ((with_reducible refine gate_dst (N := 12) rfl ?_); refine box_event ?hg (N := 12) ?hd (cs := #[.slice none 0 0, .slice none 0 0]) (t := 34) ?hr ?_; (case hd => rfl); (case hg => rfl); (case hr => first | (go_simp; done) | (go_simp; rfl)); intro gb265 hg w111 hbox hb; have n0_ := aS_ (Kd.R_below (by (with_reducible repeat (first | apply rA_ | apply rN_ | apply rD_)); exact HO_233000.out) hb); have n1_ := aS_ (Kd.R_below (by (with_reducible repeat (first | apply rA_ | apply rN_ | apply rD_)); exact HO_233001.out) hb); have n2_ := aS_ (Kd.R_below (by (with_reducible repeat (first | apply rA_ | apply rN_ | apply rD_)); exact HO244.out) hb); have n3_ := aS_ (Kd.R_below (by (with_reducible repeat (first | apply rA_ | apply rN_ | apply rD_)); exact HO253.out) hb); have n4_ := aS_ (Kd.R_below (by (with_reducible repeat (first | apply rA_ | apply rN_ | apply rD_)); exact HO260.out) hb); have n5_ := aS_ (Kd.R_below (by (with_reducible repeat (first | apply rA_ | apply rN_ | apply rD_)); exact HO263.out) hb); have n6_ := aS_ (blk_below (g := gb232) (o := .cells #[.slice Ao12 l1_0.length co12, .slice Ao13 l1_1.length co13] 34 (0, 0)) (by (with_reducible repeat (first | refine kN_ ?_ _ | refine kD_ ?_ | refine kA_ ?_ _)); exact BK232.out) hb); have n7_ := aS_ (blk_below (g := gb233) (o := .cells #[.slice none 0 0, .slice none 0 0] 34 (0, 0)) (by (with_reducible repeat (first | refine kN_ ?_ _ | refine kD_ ?_ | refine kA_ ?_ _)); exact BK233.out) hb); have n8_ := aS_ (blk_below (g := gb257) (o := .cells #[.slice Ao72 y245.length co72, .slice Ao71 y254.length co71] 34 (0, 0)) (by (with_reducible repeat (first | refine kN_ ?_ _ | refine kD_ ?_ | refine kA_ ?_ _)); exact BK257.out) hb); have n9_ := aS_ (Kept.below (S := (fun k_ => P1_0_ k_ ∨ P1_1_ k_)) (by repeat (first | (with_reducible first | exact HK.out | apply Kept.alloc | apply Kept.drewN | apply Kept.drew | refine Kept.setCell ?_ (.inr GW232.out) _ | refine Kept.setCell ?_ (.inr GW233.out) _ | refine Kept.setCell ?_ (.inr GW257.out) _) | exact HK.out)) hb); have n10_ := aS_ (below_step (by repeat (first | (with_reducible first | exact HB.out | apply bA_ | apply pN_ | apply bD_ | refine bS_ ?_ GE232.out | refine bS_ ?_ GE233.out | refine bS_ ?_ GE257.out) | exact HB.out)) hb); have n11_ := aS_ (hbox); have n12_ := aS_ ((by rw [hg]; exact (by first | exact HK.out.1 | exact (show Kept w _ (fun k_ => P1_0_ k_ ∨ P1_1_ k_) from by repeat (first | (with_reducible first | exact HK.out | apply Kept.alloc | apply Kept.drewN | apply Kept.drew | refine Kept.setCell ?_ (.inr GW232.out) _ | refine Kept.setCell ?_ (.inr GW233.out) _ | refine Kept.setCell ?_ (.inr GW257.out) _) | exact HK.out)).1) : w.heap.size ≤ gb265)); have n13_ := aS_ ((by rw [hg]; exact (below_size (by repeat (first | (with_reducible first | exact HB.out | apply bA_ | apply pN_ | apply bD_ | refine bS_ ?_ GE232.out | refine bS_ ?_ GE233.out | refine bS_ ?_ GE257.out) | exact HB.out))) : w0.heap.size ≤ gb265)); have n14_ := aS_ ((by rw [hg]; exact Nat.ne_of_lt (blk_lt (g := gb232) (o := .cells #[.slice Ao12 l1_0.length co12, .slice Ao13 l1_1.length co13] 34 (0, 0)) (by (with_reducible repeat (first | refine kN_ ?_ _ | refine kD_ ?_ | refine kA_ ?_ _)); exact BK232.out)) : gb232 ≠ gb265)); have n15_ := aS_ ((by rw [hg]; exact Nat.ne_of_gt (blk_lt (g := gb232) (o := .cells #[.slice Ao12 l1_0.length co12, .slice Ao13 l1_1.length co13] 34 (0, 0)) (by (with_reducible repeat (first | refine kN_ ?_ _ | refine kD_ ?_ | refine kA_ ?_ _)); exact BK232.out)) : gb265 ≠ gb232)); have n16_ := aS_ ((by rw [hg]; exact Nat.ne_of_lt (blk_lt (g := gb233) (o := .cells #[.slice none 0 0, .slice none 0 0] 34 (0, 0)) (by (with_reducible repeat (first | refine kN_ ?_ _ | refine kD_ ?_ | refine kA_ ?_ _)); exact BK233.out)) : gb233 ≠ gb265)); have n17_ := aS_ ((by rw [hg]; exact Nat.ne_of_gt (blk_lt (g := gb233) (o := .cells #[.slice none 0 0, .slice none 0 0] 34 (0, 0)) (by (with_reducible repeat (first | refine kN_ ?_ _ | refine kD_ ?_ | refine kA_ ?_ _)); exact BK233.out)) : gb265 ≠ gb233)); have n18_ := aS_ ((by rw [hg]; exact Nat.ne_of_lt (blk_lt (g := gb257) (o := .cells #[.slice Ao72 y245.length co72, .slice Ao71 y254.length co71] 34 (0, 0)) (by (with_reducible repeat (first | refine kN_ ?_ _ | refine kD_ ?_ | refine kA_ ?_ _)); exact BK257.out)) : gb257 ≠ gb265)); have n19_ := aS_ ((by rw [hg]; exact Nat.ne_of_gt (blk_lt (g := gb257) (o := .cells #[.slice Ao72 y245.length co72, .slice Ao71 y254.length co71] 34 (0, 0)) (by (with_reducible repeat (first | refine kN_ ?_ _ | refine kD_ ?_ | refine kA_ ?_ _)); exact BK257.out)) : gb265 ≠ gb257)); clear HO_233000; clear HO_233001; clear HO244; clear HO253; clear HO260; clear HO263; clear BK232; clear BK233; clear BK257; clear HK; clear HB; have HO_233000 := n0_; have HO_233001 := n1_; have HO244 := n2_; have HO253 := n3_; have HO260 := n4_; have HO263 := n5_; have BK232 := n6_; have BK233 := n7_; have BK257 := n8_; have HK := n9_; have HB := n10_; have BK265 := n11_; have GW265 := n12_; have GE265 := n13_; have NB232_265 := n14_; have NB265_232 := n15_; have NB233_265 := n16_; have NB265_233 := n17_; have NB257_265 := n18_; have NB265_257 := n19_; clear n0_ n1_ n2_ n3_ n4_ n5_ n6_ n7_ n8_ n9_ n10_ n11_ n12_ n13_ n14_ n15_ n16_ n17_ n18_ n19_; clear hb hbox hg; obtain ⟨Ao112, co112, eo112⟩ := Kd.R_slice HO260.out; subst eo112; have hnb113 := NB265_232.out; have hnc113 := NB232_265.out; have hnb114 := NB265_233.out; have hnc114 := NB233_265.out; have hnb115 := NB265_257.out; have hnc115 := NB257_265.out; have hcz116_0 : w111.cell? ⟨gb265, 0, none⟩ = some (.slice none 0 0) := (blk_cell BK265.out 0).trans rfl; have hcz116_1 : w111.cell? ⟨gb265, 1, none⟩ = some (.slice none 0 0) := (blk_cell BK265.out 1).trans rfl; have hfz116_0 := blk_frozen BK265.out 0; have hfz116_1 := blk_frozen BK265.out 1; obtain ⟨Ao117, co117, eo117⟩ := Kd.R_slice HO263.out; subst eo117))
                go_roundg kj30
                case measure => have := HJ10.out; have := HK2.out; have := HJ30.out; omega
                case rel => exact ⟨(wrap64 (x32_2 + 1)), (by first | rfl | (simp; done) | (simp [*]; done)), H', ⟨by have := HJ10.out; have := HK2.out; have := HJ30.out; omega⟩, ⟨by (with_reducible repeat (first | apply rA_ | apply rN_ | apply rD_)); exact Kd.R_mono (Kd.R_far (p := ⟨gb265, 1, none⟩) (Kd.R_far (p := ⟨gb265, 0, none⟩) (Kd.R_types HO_233000.out BK265.out (by decide)) (fun _ hk => hk.2) (.slice Ao112 t258.length co112)) (fun _ hk => hk.2) (.slice Ao117 t261.length co117)) (fun _ hk => by first | exact ⟨hk.1.1, hk.1.2.1⟩ | (simp only [hk, ne_eq, not_false_eq_true, and_self]))⟩, ⟨by (with_reducible repeat (first | apply rA_ | apply rN_ | apply rD_)); exact Kd.R_mono (Kd.R_far (p := ⟨gb265, 1, none⟩) (Kd.R_far (p := ⟨gb265, 0, none⟩) (Kd.R_types HO_233001.out BK265.out (by decide)) (fun _ hk => hk.2) (.slice Ao112 t258.length co112)) (fun _ hk => hk.2) (.slice Ao117 t261.length co117)) (fun _ hk => by first | exact ⟨hk.1.1, hk.1.2.1⟩ | (simp only [hk, ne_eq, not_false_eq_true, and_self]))⟩, ⟨by (with_reducible repeat (first | refine kN_ ?_ _ | refine kD_ ?_ | refine kA_ ?_ _)); refine blk_far ?_ NB232_265.out _; (with_reducible repeat (first | refine kN_ ?_ _ | refine kD_ ?_ | refine kA_ ?_ _)); refine blk_far ?_ NB232_265.out _; (with_reducible repeat (first | refine kN_ ?_ _ | refine kD_ ?_ | refine kA_ ?_ _)); exact BK232.out⟩, ⟨by (with_reducible repeat (first | refine kN_ ?_ _ | refine kD_ ?_ | refine kA_ ?_ _)); refine blk_far ?_ NB233_265.out _; (with_reducible repeat (first | refine kN_ ?_ _ | refine kD_ ?_ | refine kA_ ?_ _)); refine blk_far ?_ NB233_265.out _; (with_reducible repeat (first | refine kN_ ?_ _ | refine kD_ ?_ | refine kA_ ?_ _)); exact BK233.out⟩, ⟨by repeat (first | (with_reducible first | exact HK.out | apply Kept.alloc | apply Kept.drewN | apply Kept.drew | refine Kept.setCell ?_ (.inr GW232.out) _ | refine Kept.setCell ?_ (.inr GW233.out) _ | refine Kept.setCell ?_ (.inr GW257.out) _ | refine Kept.setCell ?_ (.inr GW265.out) _) | exact HK.out)⟩, ⟨by repeat (first | (with_reducible first | exact HB.out | apply bA_ | apply pN_ | apply bD_ | refine bS_ ?_ GE232.out | refine bS_ ?_ GE233.out | refine bS_ ?_ GE257.out | refine bS_ ?_ GE265.out) | exact HB.out)⟩⟩
              ·rw [if_neg c48] at H
               exact absurd H (by simp)
             ·rw [if_neg c46] at H
              exact absurd H (by simp)
            ·rw [if_neg c44] at H
             have c44b0 : (t238 == (rd l0 x32_2)) = false := beq_eq_false_iff_ne.mpr c44
             have c44b1 : (t238 != (rd l0 x32_2)) = true := bne_iff_ne.mpr c44
             have H' := aS_ H
             clear H
             have hnb118 := NB232_233.out
             have hnc118 := NB233_232.out
             have hcz119_0 : wc.cell? ⟨gb232, 0, none⟩ = some (.slice Ao12 l1_0.length co12) := (blk_cell BK232.out 0).trans rfl
             have hcz119_1 : wc.cell? ⟨gb232, 1, none⟩ = some (.slice Ao13 l1_1.length co13) := (blk_cell BK232.out 1).trans rfl
             have hfz119_0 := blk_frozen BK232.out 0
             have hfz119_1 := blk_frozen BK232.out 1
             go_wp2_with (first | ((with_reducible refine gate_callee (f := 25) rfl ?_); refine goesL_ (some 60) rfl rfl Try.func25 (by kernel_rfl) rfl #[.slice Ao12 l1_0.length co12, .int .i64 x10_30, .int .i64 x32_2] rfl (by (try simp only [List.map_toArray, List.map_cons, List.map_nil]); first | done | rfl | (simp only [List.length_drop, List.length_take]; rfl)) ?_; (with_reducible refine (impl_labelAt.calls _ _ l1_0 x10_30 x32_2 t238 _ ?side1 ?side2 A43.out).mono ?_); (case side1 => repeat (first | exact (Kd.R_reads' HO_233000.out).2.2 | (with_reducible refine Kd.C_alloc ?_ _) | (with_reducible refine Kd.C_drewN ?_ _) | (with_reducible refine Kd.C_drew ?_))); (case side2 => exact (Kd.R_reads' HO_233000.out).2.1); rintro e w120 ⟨rfl, hb⟩; refine ⟨_, rfl, ?_⟩; have n0_ := aS_ (Kd.R_below (by (with_reducible repeat (first | apply rA_ | apply rN_ | apply rD_)); exact HO_233000.out) hb); have n1_ := aS_ (Kd.R_below (by (with_reducible repeat (first | apply rA_ | apply rN_ | apply rD_)); exact HO_233001.out) hb); have n2_ := aS_ (blk_below (g := gb232) (o := .cells #[.slice Ao12 l1_0.length co12, .slice Ao13 l1_1.length co13] 34 (0, 0)) (by (with_reducible repeat (first | refine kN_ ?_ _ | refine kD_ ?_ | refine kA_ ?_ _)); exact BK232.out) hb); have n3_ := aS_ (blk_below (g := gb233) (o := .cells #[.slice none 0 0, .slice none 0 0] 34 (0, 0)) (by (with_reducible repeat (first | refine kN_ ?_ _ | refine kD_ ?_ | refine kA_ ?_ _)); exact BK233.out) hb); have n4_ := aS_ (Kept.below (S := (fun k_ => P1_0_ k_ ∨ P1_1_ k_)) (by repeat (first | (with_reducible first | exact HK.out | apply Kept.alloc | apply Kept.drewN | apply Kept.drew | refine Kept.setCell ?_ (.inr GW232.out) _ | refine Kept.setCell ?_ (.inr GW233.out) _) | exact HK.out)) hb); have n5_ := aS_ (below_step (by repeat (first | (with_reducible first | exact HB.out | apply bA_ | apply pN_ | apply bD_ | refine bS_ ?_ GE232.out | refine bS_ ?_ GE233.out) | exact HB.out)) hb); clear HO_233000; clear HO_233001; clear BK232; clear BK233; clear HK; clear HB; have HO_233000 := n0_; have HO_233001 := n1_; have BK232 := n2_; have BK233 := n3_; have HK := n4_; have HB := n5_; clear n0_ n1_ n2_ n3_ n4_ n5_; (try clear hb); (try clear hb2); (try clear hk); (try clear hi)))
             go_roundg kj30
             case measure => have := HJ10.out; have := HK2.out; have := HJ30.out; omega
             case rel => exact ⟨(wrap64 (x32_2 + 1)), (by first | rfl | (simp; done) | (simp [*]; done)), H', ⟨by have := HJ10.out; have := HK2.out; have := HJ30.out; omega⟩, ⟨by (with_reducible repeat (first | apply rA_ | apply rN_ | apply rD_)); exact HO_233000.out⟩, ⟨by (with_reducible repeat (first | apply rA_ | apply rN_ | apply rD_)); exact HO_233001.out⟩, ⟨by (with_reducible repeat (first | refine kN_ ?_ _ | refine kD_ ?_ | refine kA_ ?_ _)); exact BK232.out⟩, ⟨by (with_reducible repeat (first | refine kN_ ?_ _ | refine kD_ ?_ | refine kA_ ?_ _)); exact BK233.out⟩, ⟨by repeat (first | (with_reducible first | exact HK.out | apply Kept.alloc | apply Kept.drewN | apply Kept.drew | refine Kept.setCell ?_ (.inr GW232.out) _ | refine Kept.setCell ?_ (.inr GW233.out) _) | exact HK.out)⟩, ⟨by repeat (first | (with_reducible first | exact HB.out | apply bA_ | apply pN_ | apply bD_ | refine bS_ ?_ GE232.out | refine bS_ ?_ GE233.out) | exact HB.out)⟩⟩
        ·rw [if_neg c26] at H
         exact absurd H (by simp)
       ·rw [if_neg c25] at H
        exact absurd H (by simp)
      ·rw [if_neg c24] at H
       have c24b0 : decide (x32_2 < (l0.length : Int)) = false := decide_eq_false c24
       clear c24
       simp only [Option.some.injEq, Prod.mk.injEq] at H
       obtain ⟨rfl, rfl, rfl⟩ := H
       have hnb121 := NB233_232.out
       have hnc121 := NB232_233.out
       have hcz122_0 : wr.cell? ⟨gb233, 0, none⟩ = some (.slice none 0 0) := (blk_cell BK233.out 0).trans rfl
       have hcz122_1 : wr.cell? ⟨gb233, 1, none⟩ = some (.slice none 0 0) := (blk_cell BK233.out 1).trans rfl
       have hfz122_0 := blk_frozen BK233.out 0
       have hfz122_1 := blk_frozen BK233.out 1
       go_wp2
       refine bodyPost_ret (results_ct rfl _ _ gb233 34 #[.slice none 0 0, .slice none 0 0] (0, 0) _ rfl (by (with_reducible repeat (first | refine kN_ ?_ _ | refine kD_ ?_ | refine kA_ ?_ _)); refine blk_put (cs := #[.slice none 0 0, .slice none 0 0]) ?_ 1 _ rfl; (with_reducible repeat (first | refine kN_ ?_ _ | refine kD_ ?_ | refine kA_ ?_ _)); refine blk_put (cs := #[.slice none 0 0, .slice none 0 0]) ?_ 0 _ rfl; (with_reducible repeat (first | refine kN_ ?_ _ | refine kD_ ?_ | refine kA_ ?_ _)); exact BK233.out) Try.underlying34 rfl (by kernel_rfl)) rfl ?_
       exact ⟨_, _, by first | rfl | (simp [errW_none, errW_some] <;> rfl) | (simp [*, errW_none, errW_some] <;> rfl), by first | exact Kd.R_nil _ _ _ _ _ | exact Kd.N_nil _ _ _ _ _ | exact Kd.V_nil _ _ _ _ _ | exact Kd.Q_nil _ _ _ _ _ | exact Kd.S_nil _ _ _ _ _, by first | exact Kd.R_nil _ _ _ _ _ | exact Kd.N_nil _ _ _ _ _ | exact Kd.V_nil _ _ _ _ _ | exact Kd.Q_nil _ _ _ _ _ | exact Kd.S_nil _ _ _ _ _, by repeat (first | (with_reducible first | exact HB.out | apply bA_ | apply pN_ | apply bD_ | refine bS_ ?_ GE232.out | refine bS_ ?_ GE233.out) | exact HB.out), by repeat (first | (with_reducible first | exact HK.out | apply Kept.alloc | apply Kept.drewN | apply Kept.drew | refine Kept.setCell ?_ (.inr GW232.out) _ | refine Kept.setCell ?_ (.inr GW233.out) _) | exact HK.out)⟩
end Go.Proofs.Ytbfbgpopbcodcaa.G
