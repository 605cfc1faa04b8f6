/- The law FnExactRegionOfPoint: part 1 of the printed functions and the facts on them that its row leans on (merged by this session's slim.py). -/
import Derived.Test.YtjpdhdcknoffmaaZFnExactRegionOfPoint0
namespace Go.Proofs.Ytjpdhdcknoffmaa.G
open Go.RowKit Go.Proofs.YtjpdhdcknoffmaaW.PrintWords Go.Proofs.YtjpdhdcknoffmaaW.PrintLast Go.Proofs.YtjpdhdcknoffmaaW.PrintMore
attribute [local go_sem] max2_int min2_int max_two min_two max_three min_three max_four min_four   -- for this text's walks alone
set_option linter.unusedVariables false
set_option linter.unusedSimpArgs false
/-! ### spec_reOf: function 13 -/
mutual
def spec_reOf.l0 : Nat → List Int → Int → List Int → Int → Int → List Int → List Int → Option (List Int × List Int)
 | 0, _, _, _, _, _, _, _ => none
 | k + 1, x0, x4, x13, x14, x15, x156000, x156001 => if x15 < x14 then (if 0 ≤ x15 then (if x15 < (x13.length : Int) then (if x15 ≤ (x156000.length : Int) then ((some (x156000.take (x15 : Int).toNat : List Int)).bind fun y157 => (spec_reOf.l1 k x0 x4 (rd x13 x15) x13 x14 x15 y157 (y157.length : Int) 0 x156000 x156001)) else (none)) else (none)) else (none)) else (some (x156000, x156001))
def spec_reOf.l1 : Nat → List Int → Int → Int → List Int → Int → Int → List Int → Int → Int → List Int → List Int → Option (List Int × List Int)
 | 0, _, _, _, _, _, _, _, _, _, _, _ => none
 | k + 1, x0, x4, x6, x13, x14, x15, x23, x24, x25, x156000, x156001 => if x25 < x24 then (if 0 ≤ x25 then (if x25 < (x23.length : Int) then (if (rd x23 x25) < x6 then (if 0 ≤ (rd x23 x25) then (if (rd x23 x25) < (x0.length : Int) then (if 0 ≤ x6 then (if x6 < (x0.length : Int) then (if (wrap64 ((rd x0 (rd x23 x25)) - (rd x0 x6))) > 100 then ((spec_l1Most.f x4 (wrap64 (x25 + 1))).bind fun t164 => (spec_reOf.l1 k x0 t164 x6 x13 x14 x15 x23 x24 (wrap64 (x25 + 1)) x156000 x156001)) else (spec_reOf.l1 k x0 x4 x6 x13 x14 x15 x23 x24 (wrap64 (x25 + 1)) x156000 x156001)) else (none)) else (none)) else (none)) else (none)) else (spec_reOf.l1 k x0 x4 x6 x13 x14 x15 x23 x24 (wrap64 (x25 + 1)) x156000 x156001)) else (none)) else (none)) else (if x156001.length < 17592186044416 then (spec_reOf.l0 k x0 x4 x13 x14 (wrap64 (x15 + 1)) x156000 (x156001 ++ [x4])) else (none))
end
def spec_reOf.f (k : Nat) (l0 : List Int) : Option (List Int × List Int) := (spec_reSorted.f k l0).bind fun t152 => (spec_reOf.l0 k l0 0 t152 (t152.length : Int) 0 t152 ([] : List Int))
theorem spec_reOf.mono_l : ∀ k, (∀ y0 y1 y2 y3 y4 y5 y6, LeO (spec_reOf.l0 k y0 y1 y2 y3 y4 y5 y6) (spec_reOf.l0 (k + 1) y0 y1 y2 y3 y4 y5 y6)) ∧ (∀ y0 y1 y2 y3 y4 y5 y6 y7 y8 y9 y10, LeO (spec_reOf.l1 k y0 y1 y2 y3 y4 y5 y6 y7 y8 y9 y10) (spec_reOf.l1 (k + 1) y0 y1 y2 y3 y4 y5 y6 y7 y8 y9 y10))
 | 0 => ⟨fun _ _ _ _ _ _ _ r h => by simp [spec_reOf.l0] at h, fun _ _ _ _ _ _ _ _ _ _ _ r h => by simp [spec_reOf.l1] at h⟩
 | k + 1 => by
  obtain ⟨ih0, ih1⟩ := spec_reOf.mono_l k
  refine ⟨?_, ?_⟩
  ·intro y0 y1 y2 y3 y4 y5 y6
   unfold spec_reOf.l0
   repeat' first
   | (with_reducible exact ih0 _ _ _ _ _ _ _)
   | (with_reducible exact ih1 _ _ _ _ _ _ _ _ _ _ _)
   | (with_reducible exact spec_reSorted.mono _ _)
   | (with_reducible exact LeO.refl _)
   | (with_reducible exact LeO.none _)
   | (with_reducible refine LeO.ite ?_ ?_)
   | (with_reducible refine LeO.bind ?_ (fun _ => ?_))
   | exact ih0 _ _ _ _ _ _ _
   | exact ih1 _ _ _ _ _ _ _ _ _ _ _
   | exact spec_reSorted.mono _ _
   | exact LeO.none _
   | refine LeO.ite ?_ ?_
   | refine LeO.bind ?_ (fun _ => ?_)
  ·intro y0 y1 y2 y3 y4 y5 y6 y7 y8 y9 y10
   unfold spec_reOf.l1
   repeat' first
   | (with_reducible exact ih0 _ _ _ _ _ _ _)
   | (with_reducible exact ih1 _ _ _ _ _ _ _ _ _ _ _)
   | (with_reducible exact spec_reSorted.mono _ _)
   | (with_reducible exact LeO.refl _)
   | (with_reducible exact LeO.none _)
   | (with_reducible refine LeO.ite ?_ ?_)
   | (with_reducible refine LeO.bind ?_ (fun _ => ?_))
   | exact ih0 _ _ _ _ _ _ _
   | exact ih1 _ _ _ _ _ _ _ _ _ _ _
   | exact spec_reSorted.mono _ _
   | exact LeO.none _
   | refine LeO.ite ?_ ?_
   | refine LeO.bind ?_ (fun _ => ?_)
theorem spec_reOf.mono : ∀ a0 k, LeO (spec_reOf.f k a0) (spec_reOf.f (k + 1) a0) := by
 intro a0 k
 obtain ⟨ih0, ih1⟩ := spec_reOf.mono_l k
 unfold spec_reOf.f
 repeat' first
   | (with_reducible exact ih0 _ _ _ _ _ _ _)
   | (with_reducible exact ih1 _ _ _ _ _ _ _ _ _ _ _)
   | (with_reducible exact spec_reSorted.mono _ _)
   | (with_reducible exact LeO.refl _)
   | (with_reducible exact LeO.none _)
   | (with_reducible refine LeO.ite ?_ ?_)
   | (with_reducible refine LeO.bind ?_ (fun _ => ?_))
   | exact ih0 _ _ _ _ _ _ _
   | exact ih1 _ _ _ _ _ _ _ _ _ _ _
   | exact spec_reSorted.mono _ _
   | exact LeO.none _
   | refine LeO.ite ?_ ?_
   | refine LeO.bind ?_ (fun _ => ?_)
set_option maxHeartbeats 8000000 in
set_option maxRecDepth 100000 in
theorem spec_reOf.calls (k : Nat) (A0 : Option Addr) (c0 : Nat) (l0 : List Int) (r1 : List Int) (r2 : List Int) (w : World) (hr0 : Kd.C (Kd.int .i64) w A0 l0.length l0) (hc0 : l0.length ≤ c0) (h : spec_reOf.f k l0 = some (r1, r2)) :
  Calls Try.prog 13 #[.slice A0 l0.length c0] w fun e w' => ∃ v0_ v1_ : Value, e = .returned (.agg #[v0_, v1_]) ∧ Kd.R (Kd.int .i64) 3 w' w.heap.size (fun k_ => some k_ ≠ (v1_ : Value).ownBlock) v0_ r1 ∧ Kd.R (Kd.int .i64) 3 w' w.heap.size (fun k_ => some k_ ≠ (v0_ : Value).ownBlock) v1_ r2 ∧ Below w.heap.size w w' := by
 have hu24 := Try.underlying24
 have HR0 := aS_ hr0
 have HC0 := aS_ hc0
 clear hr0 hc0
 have HB := aS_ (Below.refl w.heap.size w)
 have H : ((spec_reSorted.f k l0).bind fun t152 => (spec_reOf.l0 k l0 0 t152 (t152.length : Int) 0 t152 ([] : List Int))) = some (r1, r2) := h
 clear h
 replace H := Option.bind_eq_some_iff.mp H
 obtain ⟨t152, A20, H⟩ := H
 have A2 := aS_ A20
 clear A20
 have H' := aS_ H
 clear H
 go_enter Try.func13, Try.ntmps13
 go_wp2_with (first | ((with_reducible refine gate_dst (N := 2) rfl ?_); refine box_event ?hg (N := 2) ?hd (cs := #[.slice none 0 0, .slice none 0 0]) (t := 24) ?hr ?_; (case hd => rfl); (case hg => rfl); (case hr => first | (go_simp; done) | (go_simp; rfl)); intro gb151 hg w3 hbox hb; have n0_ := aS_ (below_step (by repeat (first | (with_reducible first | exact HB.out | apply bA_ | apply pN_ | apply bD_) | exact HB.out)) hb); have n1_ := aS_ (hbox); have n2_ := aS_ ((by rw [hg]; exact (below_size (by repeat (first | (with_reducible first | exact HB.out | apply bA_ | apply pN_ | apply bD_) | exact HB.out))) : w.heap.size ≤ gb151)); have n3_ := aS_ ((by rw [hg]; exact (below_size (by repeat (first | (with_reducible first | exact HB.out | apply bA_ | apply pN_ | apply bD_) | exact HB.out))) : w.heap.size ≤ gb151)); clear HB; have HB := n0_; have BK151 := n1_; have GW151 := n2_; have GE151 := n3_; clear n0_ n1_ n2_ n3_; clear hb hbox hg) | (go_at_call 19; (with_reducible refine (spec_reSorted.calls k _ _ l0 t152 _ ?side1 ?side2 A2.out).mono ?_); (case side1 => repeat (first | exact (Kd.C_below HR0.out HB.out) | (with_reducible refine Kd.C_alloc ?_ _) | (with_reducible refine Kd.C_drewN ?_ _) | (with_reducible refine Kd.C_drew ?_))); (case side2 => exact HC0.out); rintro e w4 ⟨v153, rfl, ho0, hb⟩; have n0_ := aS_ (Kd.R_lower ho0 (below_size (by repeat (first | (with_reducible first | exact HB.out | apply bA_ | apply pN_ | apply bD_ | refine bS_ ?_ GE151.out) | exact HB.out)))); have n1_ := aS_ (blk_below (g := gb151) (o := .cells #[.slice none 0 0, .slice none 0 0] 24 (0, 0)) (by (with_reducible repeat (first | refine kN_ ?_ _ | refine kD_ ?_ | refine kA_ ?_ _)); exact BK151.out) hb); have n2_ := aS_ (below_step (by repeat (first | (with_reducible first | exact HB.out | apply bA_ | apply pN_ | apply bD_ | refine bS_ ?_ GE151.out) | exact HB.out)) hb); clear BK151; clear HB; have HO154 := n0_; have BK151 := n1_; have HB := n2_; clear n0_ n1_ n2_; (try clear hb); (try clear hb2); (try clear hk); (try clear hi); (try clear ho0); obtain ⟨Ao5, co5, eo5⟩ := Kd.R_slice HO154.out; subst eo5) | ((with_reducible refine gate_dst (N := 3) rfl ?_); refine box_event ?hg (N := 3) ?hd (cs := #[.slice none 0 0, .slice none 0 0]) (t := 24) ?hr ?_; (case hd => rfl); (case hg => rfl); (case hr => first | (go_simp; done) | (go_simp; rfl)); intro gb155 hg w6 hbox hb; have n0_ := aS_ (Kd.R_below (by (with_reducible repeat (first | apply rA_ | apply rN_ | apply rD_)); exact HO154.out) hb); have n1_ := aS_ (blk_below (g := gb151) (o := .cells #[.slice none 0 0, .slice none 0 0] 24 (0, 0)) (by (with_reducible repeat (first | refine kN_ ?_ _ | refine kD_ ?_ | refine kA_ ?_ _)); exact BK151.out) hb); have n2_ := aS_ (below_step (by repeat (first | (with_reducible first | exact HB.out | apply bA_ | apply pN_ | apply bD_ | refine bS_ ?_ GE151.out) | exact HB.out)) hb); have n3_ := aS_ (hbox); have n4_ := aS_ ((by rw [hg]; exact (below_size (by repeat (first | (with_reducible first | exact HB.out | apply bA_ | apply pN_ | apply bD_ | refine bS_ ?_ GE151.out) | exact HB.out))) : w.heap.size ≤ gb155)); have n5_ := aS_ ((by rw [hg]; exact (below_size (by repeat (first | (with_reducible first | exact HB.out | apply bA_ | apply pN_ | apply bD_ | refine bS_ ?_ GE151.out) | exact HB.out))) : w.heap.size ≤ gb155)); have n6_ := aS_ ((by rw [hg]; exact Nat.ne_of_lt (blk_lt (g := gb151) (o := .cells #[.slice none 0 0, .slice none 0 0] 24 (0, 0)) (by (with_reducible repeat (first | refine kN_ ?_ _ | refine kD_ ?_ | refine kA_ ?_ _)); exact BK151.out)) : gb151 ≠ gb155)); have n7_ := aS_ ((by rw [hg]; exact Nat.ne_of_gt (blk_lt (g := gb151) (o := .cells #[.slice none 0 0, .slice none 0 0] 24 (0, 0)) (by (with_reducible repeat (first | refine kN_ ?_ _ | refine kD_ ?_ | refine kA_ ?_ _)); exact BK151.out)) : gb155 ≠ gb151)); clear HO154; clear BK151; clear HB; have HO154 := n0_; have BK151 := n1_; have HB := n2_; have BK155 := n3_; have GW155 := n4_; have GE155 := n5_; have NB151_155 := n6_; have NB155_151 := n7_; clear n0_ n1_ n2_ n3_ n4_ n5_ n6_ n7_; clear hb hbox hg; have hnb7 := NB155_151.out; have hnc7 := NB151_155.out; have hcz8_0 : w6.cell? ⟨gb155, 0, none⟩ = some (.slice none 0 0) := (blk_cell BK155.out 0).trans rfl; have hcz8_1 : w6.cell? ⟨gb155, 1, none⟩ = some (.slice none 0 0) := (blk_cell BK155.out 1).trans rfl; have hfz8_0 := blk_frozen BK155.out 0; have hfz8_1 := blk_frozen BK155.out 1))
 repeat (go_quiet (first | ((with_reducible refine gate_dst (N := 2) rfl ?_); refine box_event ?hg (N := 2) ?hd (cs := #[.slice none 0 0, .slice none 0 0]) (t := 24) ?hr ?_; (case hd => rfl); (case hg => rfl); (case hr => first | (go_simp; done) | (go_simp; rfl)); intro gb151 hg w3 hbox hb; have n0_ := aS_ (below_step (by repeat (first | (with_reducible first | exact HB.out | apply bA_ | apply pN_ | apply bD_) | exact HB.out)) hb); have n1_ := aS_ (hbox); have n2_ := aS_ ((by rw [hg]; exact (below_size (by repeat (first | (with_reducible first | exact HB.out | apply bA_ | apply pN_ | apply bD_) | exact HB.out))) : w.heap.size ≤ gb151)); have n3_ := aS_ ((by rw [hg]; exact (below_size (by repeat (first | (with_reducible first | exact HB.out | apply bA_ | apply pN_ | apply bD_) | exact HB.out))) : w.heap.size ≤ gb151)); clear HB; have HB := n0_; have BK151 := n1_; have GW151 := n2_; have GE151 := n3_; clear n0_ n1_ n2_ n3_; clear hb hbox hg) | (go_at_call 19; (with_reducible refine (spec_reSorted.calls k _ _ l0 t152 _ ?side1 ?side2 A2.out).mono ?_); (case side1 => repeat (first | exact (Kd.C_below HR0.out HB.out) | (with_reducible refine Kd.C_alloc ?_ _) | (with_reducible refine Kd.C_drewN ?_ _) | (with_reducible refine Kd.C_drew ?_))); (case side2 => exact HC0.out); rintro e w4 ⟨v153, rfl, ho0, hb⟩; have n0_ := aS_ (Kd.R_lower ho0 (below_size (by repeat (first | (with_reducible first | exact HB.out | apply bA_ | apply pN_ | apply bD_ | refine bS_ ?_ GE151.out) | exact HB.out)))); have n1_ := aS_ (blk_below (g := gb151) (o := .cells #[.slice none 0 0, .slice none 0 0] 24 (0, 0)) (by (with_reducible repeat (first | refine kN_ ?_ _ | refine kD_ ?_ | refine kA_ ?_ _)); exact BK151.out) hb); have n2_ := aS_ (below_step (by repeat (first | (with_reducible first | exact HB.out | apply bA_ | apply pN_ | apply bD_ | refine bS_ ?_ GE151.out) | exact HB.out)) hb); clear BK151; clear HB; have HO154 := n0_; have BK151 := n1_; have HB := n2_; clear n0_ n1_ n2_; (try clear hb); (try clear hb2); (try clear hk); (try clear hi); (try clear ho0); obtain ⟨Ao5, co5, eo5⟩ := Kd.R_slice HO154.out; subst eo5) | ((with_reducible refine gate_dst (N := 3) rfl ?_); refine box_event ?hg (N := 3) ?hd (cs := #[.slice none 0 0, .slice none 0 0]) (t := 24) ?hr ?_; (case hd => rfl); (case hg => rfl); (case hr => first | (go_simp; done) | (go_simp; rfl)); intro gb155 hg w6 hbox hb; have n0_ := aS_ (Kd.R_below (by (with_reducible repeat (first | apply rA_ | apply rN_ | apply rD_)); exact HO154.out) hb); have n1_ := aS_ (blk_below (g := gb151) (o := .cells #[.slice none 0 0, .slice none 0 0] 24 (0, 0)) (by (with_reducible repeat (first | refine kN_ ?_ _ | refine kD_ ?_ | refine kA_ ?_ _)); exact BK151.out) hb); have n2_ := aS_ (below_step (by repeat (first | (with_reducible first | exact HB.out | apply bA_ | apply pN_ | apply bD_ | refine bS_ ?_ GE151.out) | exact HB.out)) hb); have n3_ := aS_ (hbox); have n4_ := aS_ ((by rw [hg]; exact (below_size (by repeat (first | (with_reducible first | exact HB.out | apply bA_ | apply pN_ | apply bD_ | refine bS_ ?_ GE151.out) | exact HB.out))) : w.heap.size ≤ gb155)); have n5_ := aS_ ((by rw [hg]; exact (below_size (by repeat (first | (with_reducible first | exact HB.out | apply bA_ | apply pN_ | apply bD_ | refine bS_ ?_ GE151.out) | exact HB.out))) : w.heap.size ≤ gb155)); have n6_ := aS_ ((by rw [hg]; exact Nat.ne_of_lt (blk_lt (g := gb151) (o := .cells #[.slice none 0 0, .slice none 0 0] 24 (0, 0)) (by (with_reducible repeat (first | refine kN_ ?_ _ | refine kD_ ?_ | refine kA_ ?_ _)); exact BK151.out)) : gb151 ≠ gb155)); have n7_ := aS_ ((by rw [hg]; exact Nat.ne_of_gt (blk_lt (g := gb151) (o := .cells #[.slice none 0 0, .slice none 0 0] 24 (0, 0)) (by (with_reducible repeat (first | refine kN_ ?_ _ | refine kD_ ?_ | refine kA_ ?_ _)); exact BK151.out)) : gb155 ≠ gb151)); clear HO154; clear BK151; clear HB; have HO154 := n0_; have BK151 := n1_; have HB := n2_; have BK155 := n3_; have GW155 := n4_; have GE155 := n5_; have NB151_155 := n6_; have NB155_151 := n7_; clear n0_ n1_ n2_ n3_ n4_ n5_ n6_ n7_; clear hb hbox hg; have hnb7 := NB155_151.out; have hnc7 := NB151_155.out; have hcz8_0 : w6.cell? ⟨gb155, 0, none⟩ = some (.slice none 0 0) := (blk_cell BK155.out 0).trans rfl; have hcz8_1 : w6.cell? ⟨gb155, 1, none⟩ = some (.slice none 0 0) := (blk_cell BK155.out 1).trans rfl; have hfz8_0 := blk_frozen BK155.out 0; have hfz8_1 := blk_frozen BK155.out 1)); try go_wp2_with (first | ((with_reducible refine gate_dst (N := 2) rfl ?_); refine box_event ?hg (N := 2) ?hd (cs := #[.slice none 0 0, .slice none 0 0]) (t := 24) ?hr ?_; (case hd => rfl); (case hg => rfl); (case hr => first | (go_simp; done) | (go_simp; rfl)); intro gb151 hg w3 hbox hb; have n0_ := aS_ (below_step (by repeat (first | (with_reducible first | exact HB.out | apply bA_ | apply pN_ | apply bD_) | exact HB.out)) hb); have n1_ := aS_ (hbox); have n2_ := aS_ ((by rw [hg]; exact (below_size (by repeat (first | (with_reducible first | exact HB.out | apply bA_ | apply pN_ | apply bD_) | exact HB.out))) : w.heap.size ≤ gb151)); have n3_ := aS_ ((by rw [hg]; exact (below_size (by repeat (first | (with_reducible first | exact HB.out | apply bA_ | apply pN_ | apply bD_) | exact HB.out))) : w.heap.size ≤ gb151)); clear HB; have HB := n0_; have BK151 := n1_; have GW151 := n2_; have GE151 := n3_; clear n0_ n1_ n2_ n3_; clear hb hbox hg) | (go_at_call 19; (with_reducible refine (spec_reSorted.calls k _ _ l0 t152 _ ?side1 ?side2 A2.out).mono ?_); (case side1 => repeat (first | exact (Kd.C_below HR0.out HB.out) | (with_reducible refine Kd.C_alloc ?_ _) | (with_reducible refine Kd.C_drewN ?_ _) | (with_reducible refine Kd.C_drew ?_))); (case side2 => exact HC0.out); rintro e w4 ⟨v153, rfl, ho0, hb⟩; have n0_ := aS_ (Kd.R_lower ho0 (below_size (by repeat (first | (with_reducible first | exact HB.out | apply bA_ | apply pN_ | apply bD_ | refine bS_ ?_ GE151.out) | exact HB.out)))); have n1_ := aS_ (blk_below (g := gb151) (o := .cells #[.slice none 0 0, .slice none 0 0] 24 (0, 0)) (by (with_reducible repeat (first | refine kN_ ?_ _ | refine kD_ ?_ | refine kA_ ?_ _)); exact BK151.out) hb); have n2_ := aS_ (below_step (by repeat (first | (with_reducible first | exact HB.out | apply bA_ | apply pN_ | apply bD_ | refine bS_ ?_ GE151.out) | exact HB.out)) hb); clear BK151; clear HB; have HO154 := n0_; have BK151 := n1_; have HB := n2_; clear n0_ n1_ n2_; (try clear hb); (try clear hb2); (try clear hk); (try clear hi); (try clear ho0); obtain ⟨Ao5, co5, eo5⟩ := Kd.R_slice HO154.out; subst eo5) | ((with_reducible refine gate_dst (N := 3) rfl ?_); refine box_event ?hg (N := 3) ?hd (cs := #[.slice none 0 0, .slice none 0 0]) (t := 24) ?hr ?_; (case hd => rfl); (case hg => rfl); (case hr => first | (go_simp; done) | (go_simp; rfl)); intro gb155 hg w6 hbox hb; have n0_ := aS_ (Kd.R_below (by (with_reducible repeat (first | apply rA_ | apply rN_ | apply rD_)); exact HO154.out) hb); have n1_ := aS_ (blk_below (g := gb151) (o := .cells #[.slice none 0 0, .slice none 0 0] 24 (0, 0)) (by (with_reducible repeat (first | refine kN_ ?_ _ | refine kD_ ?_ | refine kA_ ?_ _)); exact BK151.out) hb); have n2_ := aS_ (below_step (by repeat (first | (with_reducible first | exact HB.out | apply bA_ | apply pN_ | apply bD_ | refine bS_ ?_ GE151.out) | exact HB.out)) hb); have n3_ := aS_ (hbox); have n4_ := aS_ ((by rw [hg]; exact (below_size (by repeat (first | (with_reducible first | exact HB.out | apply bA_ | apply pN_ | apply bD_ | refine bS_ ?_ GE151.out) | exact HB.out))) : w.heap.size ≤ gb155)); have n5_ := aS_ ((by rw [hg]; exact (below_size (by repeat (first | (with_reducible first | exact HB.out | apply bA_ | apply pN_ | apply bD_ | refine bS_ ?_ GE151.out) | exact HB.out))) : w.heap.size ≤ gb155)); have n6_ := aS_ ((by rw [hg]; exact Nat.ne_of_lt (blk_lt (g := gb151) (o := .cells #[.slice none 0 0, .slice none 0 0] 24 (0, 0)) (by (with_reducible repeat (first | refine kN_ ?_ _ | refine kD_ ?_ | refine kA_ ?_ _)); exact BK151.out)) : gb151 ≠ gb155)); have n7_ := aS_ ((by rw [hg]; exact Nat.ne_of_gt (blk_lt (g := gb151) (o := .cells #[.slice none 0 0, .slice none 0 0] 24 (0, 0)) (by (with_reducible repeat (first | refine kN_ ?_ _ | refine kD_ ?_ | refine kA_ ?_ _)); exact BK151.out)) : gb155 ≠ gb151)); clear HO154; clear BK151; clear HB; have HO154 := n0_; have BK151 := n1_; have HB := n2_; have BK155 := n3_; have GW155 := n4_; have GE155 := n5_; have NB151_155 := n6_; have NB155_151 := n7_; clear n0_ n1_ n2_ n3_ n4_ n5_ n6_ n7_; clear hb hbox hg; have hnb7 := NB155_151.out; have hnc7 := NB151_155.out; have hcz8_0 : w6.cell? ⟨gb155, 0, none⟩ = some (.slice none 0 0) := (blk_cell BK155.out 0).trans rfl; have hcz8_1 : w6.cell? ⟨gb155, 1, none⟩ = some (.slice none 0 0) := (blk_cell BK155.out 1).trans rfl; have hfz8_0 := blk_frozen BK155.out 0; have hfz8_1 := blk_frozen BK155.out 1)))
 go_loopg [4, 15] k (fun kq v4 v15 w' => ∃ (x4_1 : Int) (x15_1 : Int) (x156001_1 : List Int) (u156001 : Value), v4 = .int .i64 x4_1 ∧ v15 = .int .i64 x15_1 ∧ Aside0 (spec_reOf.l0 kq l0 x4_1 t152 (t152.length : Int) x15_1 t152 x156001_1 = some (r1, r2)) ∧ Aside0 (kq ≤ k) ∧ Aside0 (Kd.R (Kd.int .i64) 3 w' w.heap.size (fun k_ => some k_ ≠ (u156001 : Value).ownBlock) (.slice Ao5 t152.length co5) t152) ∧ Aside0 (Kd.R (Kd.int .i64) 3 w' w.heap.size (fun k_ => some k_ ≠ (u156001 : Value).ownBlock) (.slice Ao5 t152.length co5) t152) ∧ Aside0 (Kd.R (Kd.int .i64) 3 w' w.heap.size (fun k_ => some k_ ≠ ((.slice Ao5 t152.length co5) : Value).ownBlock ∧ some k_ ≠ ((.slice Ao5 t152.length co5) : Value).ownBlock) u156001 x156001_1) ∧ Aside0 (w'.heap[gb151]? = some (.cells #[(.slice none 0 0), (.slice none 0 0)] 24 (0, 0))) ∧ Aside0 (w'.heap[gb155]? = some (.cells #[(.slice Ao5 t152.length co5), u156001] 24 (0, 0))) ∧ Aside0 (Below w.heap.size w w'))
 case atStart => exact ⟨(0), (0), (([] : List Int)), (.slice none 0 0), (by first | rfl | (simp; done) | (simp [*]; done)), (by first | rfl | (simp; done) | (simp [*]; done)), H', ⟨Nat.le_refl _⟩, ⟨by (with_reducible repeat (first | apply rA_ | apply rN_ | apply rD_)); exact Kd.R_mono (Kd.R_far (p := ⟨gb155, 1, none⟩) (Kd.R_far (p := ⟨gb155, 0, none⟩) (Kd.R_types HO154.out BK155.out (by decide)) (fun _ hk => hk.2) (.slice Ao5 t152.length co5)) (fun _ hk => hk.2) (.slice none 0 0)) (fun _ hk => (by simp [Value.ownBlock]))⟩, ⟨by (with_reducible repeat (first | apply rA_ | apply rN_ | apply rD_)); exact Kd.R_mono (Kd.R_far (p := ⟨gb155, 1, none⟩) (Kd.R_far (p := ⟨gb155, 0, none⟩) (Kd.R_types HO154.out BK155.out (by decide)) (fun _ hk => hk.2) (.slice Ao5 t152.length co5)) (fun _ hk => hk.2) (.slice none 0 0)) (fun _ hk => (by simp [Value.ownBlock]))⟩, ⟨by first | exact Kd.R_nil _ _ _ _ _ | exact Kd.N_nil _ _ _ _ _ | exact Kd.V_nil _ _ _ _ _ | exact Kd.Q_nil _ _ _ _ _ | exact Kd.S_nil _ _ _ _ _⟩, ⟨by (with_reducible repeat (first | refine kN_ ?_ _ | refine kD_ ?_ | refine kA_ ?_ _)); refine blk_far ?_ NB151_155.out _; (with_reducible repeat (first | refine kN_ ?_ _ | refine kD_ ?_ | refine kA_ ?_ _)); refine blk_far ?_ NB151_155.out _; (with_reducible repeat (first | refine kN_ ?_ _ | refine kD_ ?_ | refine kA_ ?_ _)); exact BK151.out⟩, ⟨by (with_reducible repeat (first | refine kN_ ?_ _ | refine kD_ ?_ | refine kA_ ?_ _)); refine blk_put (cs := #[.slice Ao5 t152.length co5, .slice none 0 0]) ?_ 1 _ rfl; (with_reducible repeat (first | refine kN_ ?_ _ | refine kD_ ?_ | refine kA_ ?_ _)); refine blk_put (cs := #[.slice none 0 0, .slice none 0 0]) ?_ 0 _ rfl; (with_reducible repeat (first | refine kN_ ?_ _ | refine kD_ ?_ | refine kA_ ?_ _)); exact BK155.out⟩, ⟨by repeat (first | (with_reducible first | exact HB.out | apply bA_ | apply pN_ | apply bD_ | refine bS_ ?_ GE151.out | refine bS_ ?_ GE155.out) | exact HB.out)⟩⟩
 case round =>
  clear H'
  try clear c1
  try clear p2
  try clear c7
  try clear hcz8_0
  try clear hcz8_1
  try clear hfz8_0
  try clear hfz8_1
  obtain ⟨x4_1, x15_1, x156001_1, u156001, rfl, rfl, HA, HK1, HO_13, HO_156000, HO_156001, BK151, BK155, HB⟩ := hrel
  cases gk with
  | zero => exact absurd HA.out (by simp [spec_reOf.l0])
  | succ k1 =>
   have H := HA.out
   clear HA
   simp only [spec_reOf.l0] at H
   by_cases c9 : x15_1 < (t152.length : Int)
   ·rw [if_pos c9] at H
    have c9b0 : decide (x15_1 < (t152.length : Int)) = true := decide_eq_true c9
    clear c9
    by_cases c10 : 0 ≤ x15_1
    ·rw [if_pos c10] at H
     have c10b0 : decide (0 ≤ x15_1) = true := decide_eq_true c10
     clear c10
     by_cases c11 : x15_1 < (t152.length : Int)
     ·rw [if_pos c11] at H
      have c11b0 : decide (x15_1 < (t152.length : Int)) = true := decide_eq_true c11
      clear c11
      have c12b0 := eq_true (of_decide_eq_true (by assumption) : 0 ≤ x15_1)
      by_cases c13 : x15_1 ≤ (t152.length : Int)
      ·rw [if_pos c13] at H
       have c13b0 := eq_true c13
       have c13b1 : decide (x15_1 ≤ (t152.length : Int)) = true := decide_eq_true c13
       clear c13
       obtain ⟨y157, hy157⟩ : ∃ y_ : List Int, y_ = (t152.take (x15_1 : Int).toNat) := ⟨_, rfl⟩
       replace H : (spec_reOf.l1 k1 l0 x4_1 (rd t152 x15_1) t152 (t152.length : Int) x15_1 y157 (y157.length : Int) 0 t152 x156001_1) = some (r1, r2) := by first | (rw [hy157]; with_reducible exact H) | (have H2_ := (Option.bind_some _ _).symm.trans H; rw [hy157]; with_reducible exact H2_) | (have H2_ := (Option.bind_some _ _).symm.trans H; with_reducible exact H2_) | with_reducible exact H | (rw [hy157]; exact H) | exact H
       have Ny157 := aS_ hy157
       clear hy157
       have H' := aS_ H
       clear H
       have p156 : 0 ≤ (x15_1 : Int) := of_decide_eq_true (by assumption)
       have q156 : x15_1 < (t152.length : Int) := of_decide_eq_true (by assumption)
       obtain ⟨ad156, e156, hx156_0⟩ := Kd.at_int (Kd.R_reads' HO_13.out).2.2 x15_1 p156 q156
       cases e156
       replace p156 := eq_true p156
       replace q156 := eq_true q156
       have hnb14 := NB155_151.out
       have hnc14 := NB151_155.out
       have hcz15_0 : wr.cell? ⟨gb155, 0, none⟩ = some (.slice (some ad156) t152.length co5) := (blk_cell BK155.out 0).trans rfl
       have hcz15_1 : wr.cell? ⟨gb155, 1, none⟩ = some (u156001) := (blk_cell BK155.out 1).trans rfl
       have hfz15_0 := blk_frozen BK155.out 0
       have hfz15_1 := blk_frozen BK155.out 1
       have q16 : (x15_1 : Int) ≤ ((t152.length : Int) : Int) := of_decide_eq_true (by assumption)
       obtain ⟨i016, hi016, _, hsz16, _⟩ := info_parts info3
       have hroom16 : t152.length ≤ co5 := (Kd.R_reads' HO_156000.out).2.1
       have hC16 : Kd.C (Kd.int .i64) _ (some ad156) t152.length t152 := (Kd.R_reads' HO_156000.out).2.2
       have hcut16 := cut_to (P := Try.prog) 22 3 .i64 Try.underlying22 hi016 (some ad156) t152.length co5 x15_1 (of_decide_eq_true (by assumption)) q16 hroom16
       have hr16 := Kd.C_take (m := (x15_1 : Int).toNat) hC16 (by omega)
       have hy16 : y157.length = (x15_1 : Int).toNat := (by rw [Ny157.out, List.length_take]; omega)
       rw [← Ny157.out] at hr16
       rw [← hy16] at hcut16
       have HR160 := aS_ hr16
       have HC160 := aS_ (show y157.length ≤ co5 from by omega)
       clear hr16 hC16 hroom16 hi016 hsz16
       have KY16 := aS_ hy16
       clear hy16
       have KL16 := aS_ (show (x15_1 : Int).toNat ≤ t152.length from by omega)
       replace q16 := eq_true q16
       go_wp2
       repeat (go_quiet (fail); try go_wp2)
       go_loopg [4, 25] k1 (fun kq v4 v25 w' => ∃ (x4_2 : Int) (x25_2 : Int), v4 = .int .i64 x4_2 ∧ v25 = .int .i64 x25_2 ∧ Aside0 (spec_reOf.l1 kq l0 x4_2 (rd t152 x15_1) t152 (t152.length : Int) x15_1 y157 (y157.length : Int) x25_2 t152 x156001_1 = some (r1, r2)) ∧ Aside0 (kq ≤ k1) ∧ Aside0 (Kd.R (Kd.int .i64) 3 w' w.heap.size (fun k_ => some k_ ≠ (u156001 : Value).ownBlock) (.slice (some ad156) t152.length co5) t152) ∧ Aside0 (Kd.R (Kd.int .i64) 3 w' w.heap.size (fun k_ => some k_ ≠ (u156001 : Value).ownBlock) (.slice (some ad156) t152.length co5) t152) ∧ Aside0 (Kd.R (Kd.int .i64) 3 w' w.heap.size (fun k_ => some k_ ≠ ((.slice (some ad156) t152.length co5) : Value).ownBlock ∧ some k_ ≠ ((.slice (some ad156) t152.length co5) : Value).ownBlock) u156001 x156001_1) ∧ Aside0 (w'.heap[gb151]? = some (.cells #[(.slice none 0 0), (.slice none 0 0)] 24 (0, 0))) ∧ Aside0 (w'.heap[gb155]? = some (.cells #[(.slice (some ad156) t152.length co5), u156001] 24 (0, 0))) ∧ Aside0 (Kd.C (Kd.int .i64) w' (some ad156) y157.length y157) ∧ Aside0 (Below w.heap.size w w'))
       case atStart => exact ⟨(x4_1), (0), (by first | rfl | (simp; done) | (simp [*]; done)), (by first | rfl | (simp; done) | (simp [*]; done)), H', ⟨Nat.le_refl _⟩, ⟨by (with_reducible repeat (first | apply rA_ | apply rN_ | apply rD_)); exact HO_13.out⟩, ⟨by (with_reducible repeat (first | apply rA_ | apply rN_ | apply rD_)); exact HO_156000.out⟩, ⟨by (with_reducible repeat (first | apply rA_ | apply rN_ | apply rD_)); exact HO_156001.out⟩, ⟨by (with_reducible repeat (first | refine kN_ ?_ _ | refine kD_ ?_ | refine kA_ ?_ _)); exact BK151.out⟩, ⟨by (with_reducible repeat (first | refine kN_ ?_ _ | refine kD_ ?_ | refine kA_ ?_ _)); exact BK155.out⟩, ⟨by repeat (first | (with_reducible exact HR160.out) | (with_reducible refine Kd.C_alloc ?_ _) | (with_reducible refine Kd.C_drewN ?_ _) | (with_reducible refine Kd.C_drew ?_) | exact HR160.out)⟩, ⟨by repeat (first | (with_reducible first | exact HB.out | apply bA_ | apply pN_ | apply bD_ | refine bS_ ?_ GE151.out | refine bS_ ?_ GE155.out) | exact HB.out)⟩⟩
       case round =>
        clear H'
        try clear c1
        try clear p1
        try clear q1
        try clear hx1
        try clear p2
        try clear c7
        try clear c9
        try clear c9b0
        try clear c10
        try clear c10b0
        try clear c11
        try clear c11b0
        try clear c12
        try clear c12b0
        try clear c13
        try clear c13b0
        try clear c13b1
        try clear c14
        try clear p15
        try clear q15
        try clear hx15
        try clear q16
        try clear hcz15_0
        try clear hcz15_1
        try clear hcz8_0
        try clear hcz8_1
        try clear hfz15_0
        try clear hfz15_1
        try clear hfz8_0
        try clear hfz8_1
        try clear hx156_0
        try clear p156
        try clear p2
        try clear q156
        try clear q16
        obtain ⟨x4_2, x25_2, rfl, rfl, HA, HK2, HO_13, HO_156000, HO_156001, BK151, BK155, HR160, HB⟩ := hrel
        cases gk with
        | zero => exact absurd HA.out (by simp [spec_reOf.l1])
        | succ k2 =>
         have H := HA.out
         clear HA
         simp only [spec_reOf.l1] at H
         by_cases c17 : x25_2 < (y157.length : Int)
         ·rw [if_pos c17] at H
          have c17b0 : decide (x25_2 < (y157.length : Int)) = true := decide_eq_true c17
          clear c17
          by_cases c18 : 0 ≤ x25_2
          ·rw [if_pos c18] at H
           have c18b0 : decide (0 ≤ x25_2) = true := decide_eq_true c18
           clear c18
           by_cases c19 : x25_2 < (y157.length : Int)
           ·rw [if_pos c19] at H
            have c19b0 : decide (x25_2 < (y157.length : Int)) = true := decide_eq_true c19
            clear c19
            by_cases c20 : (rd y157 x25_2) < (rd t152 x15_1)
            ·rw [if_pos c20] at H
             have c20b0 : decide ((rd y157 x25_2) < (rd t152 x15_1)) = true := decide_eq_true c20
             clear c20
             by_cases c21 : 0 ≤ (rd y157 x25_2)
             ·rw [if_pos c21] at H
              have c21b0 : decide (0 ≤ (rd y157 x25_2)) = true := decide_eq_true c21
              clear c21
              by_cases c22 : (rd y157 x25_2) < (l0.length : Int)
              ·rw [if_pos c22] at H
               have c22b0 : decide ((rd y157 x25_2) < (l0.length : Int)) = true := decide_eq_true c22
               clear c22
               by_cases c23 : 0 ≤ (rd t152 x15_1)
               ·rw [if_pos c23] at H
                have c23b0 : decide (0 ≤ (rd t152 x15_1)) = true := decide_eq_true c23
                clear c23
                by_cases c24 : (rd t152 x15_1) < (l0.length : Int)
                ·rw [if_pos c24] at H
                 have c24b0 : decide ((rd t152 x15_1) < (l0.length : Int)) = true := decide_eq_true c24
                 clear c24
                 by_cases c25 : (wrap64 ((rd l0 (rd y157 x25_2)) - (rd l0 (rd t152 x15_1)))) > 100
                 ·rw [if_pos c25] at H
                  have c25b0 : decide (100 < (wrap64 ((rd l0 (rd y157 x25_2)) - (rd l0 (rd t152 x15_1))))) = true := decide_eq_true c25
                  clear c25
                  replace H := Option.bind_eq_some_iff.mp H
                  obtain ⟨t164, A260, H⟩ := H
                  have A26 := aS_ A260
                  clear A260
                  have H' := aS_ H
                  clear H
                  have p161 : 0 ≤ (x25_2 : Int) := of_decide_eq_true (by assumption)
                  have q161 : x25_2 < (y157.length : Int) := of_decide_eq_true (by assumption)
                  obtain ⟨ad161, e161, hx161_0⟩ := Kd.at_int HR160.out x25_2 p161 q161
                  obtain rfl : ad156 = ad161 := (by injection e161)
                  try replace hx161_0 := (HB.out.cell (World.block_lt_of_cell? w _ hx161_0)).trans hx161_0
                  replace p161 := eq_true p161
                  replace q161 := eq_true q161
                  have p162 : 0 ≤ ((rd y157 x25_2) : Int) := of_decide_eq_true (by assumption)
                  have q162 : (rd y157 x25_2) < (l0.length : Int) := of_decide_eq_true (by assumption)
                  obtain ⟨ad162, e162, hx162_0⟩ := Kd.at_int HR0.out (rd y157 x25_2) p162 q162
                  cases e162
                  try replace hx162_0 := (HB.out.cell (World.block_lt_of_cell? w _ hx162_0)).trans hx162_0
                  replace p162 := eq_true p162
                  replace q162 := eq_true q162
                  have p163 : 0 ≤ ((rd t152 x15_1) : Int) := of_decide_eq_true (by assumption)
                  have q163 : (rd t152 x15_1) < (l0.length : Int) := of_decide_eq_true (by assumption)
                  obtain ⟨ad163, e163, hx163_0⟩ := Kd.at_int HR0.out (rd t152 x15_1) p163 q163
                  obtain rfl : ad162 = ad163 := (by injection e163)
                  try replace hx163_0 := (HB.out.cell (World.block_lt_of_cell? w _ hx163_0)).trans hx163_0
                  replace p163 := eq_true p163
                  replace q163 := eq_true q163
                  go_wp2_with (first | (go_at_call 20; (with_reducible refine (spec_l1Most.calls x4_2 (wrap64 (x25_2 + 1)) t164 _ A26.out).mono ?_); rintro e w' ⟨rfl, ⟨nd, rfl⟩⟩; (try first | exact ⟨rfl, _, World.drewN_drewN _ _ _⟩ | exact ⟨rfl, _, Eq.trans (World.drewN_drewN _ _ _) (congrArg (World.drewN _) (Nat.add_assoc _ _ _))⟩)))
                  repeat (go_quiet (first | (go_at_call 20; (with_reducible refine (spec_l1Most.calls x4_2 (wrap64 (x25_2 + 1)) t164 _ A26.out).mono ?_); rintro e w' ⟨rfl, ⟨nd, rfl⟩⟩; (try first | exact ⟨rfl, _, World.drewN_drewN _ _ _⟩ | exact ⟨rfl, _, Eq.trans (World.drewN_drewN _ _ _) (congrArg (World.drewN _) (Nat.add_assoc _ _ _))⟩))); try go_wp2_with (first | (go_at_call 20; (with_reducible refine (spec_l1Most.calls x4_2 (wrap64 (x25_2 + 1)) t164 _ A26.out).mono ?_); rintro e w' ⟨rfl, ⟨nd, rfl⟩⟩; (try first | exact ⟨rfl, _, World.drewN_drewN _ _ _⟩ | exact ⟨rfl, _, Eq.trans (World.drewN_drewN _ _ _) (congrArg (World.drewN _) (Nat.add_assoc _ _ _))⟩))))
                  go_roundg k2
                  case measure => have := HK1.out; have := HK2.out; omega
                  case rel => exact ⟨(t164), (wrap64 (x25_2 + 1)), (by first | rfl | (simp; done) | (simp [*]; done)), (by first | rfl | (simp; done) | (simp [*]; done)), H', ⟨by have := HK1.out; have := HK2.out; omega⟩, ⟨by (with_reducible repeat (first | apply rA_ | apply rN_ | apply rD_)); exact HO_13.out⟩, ⟨by (with_reducible repeat (first | apply rA_ | apply rN_ | apply rD_)); exact HO_156000.out⟩, ⟨by (with_reducible repeat (first | apply rA_ | apply rN_ | apply rD_)); exact HO_156001.out⟩, ⟨by (with_reducible repeat (first | refine kN_ ?_ _ | refine kD_ ?_ | refine kA_ ?_ _)); exact BK151.out⟩, ⟨by (with_reducible repeat (first | refine kN_ ?_ _ | refine kD_ ?_ | refine kA_ ?_ _)); exact BK155.out⟩, ⟨by repeat (first | (with_reducible exact HR160.out) | (with_reducible refine Kd.C_alloc ?_ _) | (with_reducible refine Kd.C_drewN ?_ _) | (with_reducible refine Kd.C_drew ?_) | exact HR160.out)⟩, ⟨by repeat (first | (with_reducible first | exact HB.out | apply bA_ | apply pN_ | apply bD_ | refine bS_ ?_ GE151.out | refine bS_ ?_ GE155.out) | exact HB.out)⟩⟩
                 ·rw [if_neg c25] at H
                  have c25b0 : decide (100 < (wrap64 ((rd l0 (rd y157 x25_2)) - (rd l0 (rd t152 x15_1))))) = false := decide_eq_false c25
                  clear c25
                  have H' := aS_ H
                  clear H
                  have p161 : 0 ≤ (x25_2 : Int) := of_decide_eq_true (by assumption)
                  have q161 : x25_2 < (y157.length : Int) := of_decide_eq_true (by assumption)
                  obtain ⟨ad161, e161, hx161_0⟩ := Kd.at_int HR160.out x25_2 p161 q161
                  obtain rfl : ad156 = ad161 := (by injection e161)
                  try replace hx161_0 := (HB.out.cell (World.block_lt_of_cell? w _ hx161_0)).trans hx161_0
                  replace p161 := eq_true p161
                  replace q161 := eq_true q161
                  have p162 : 0 ≤ ((rd y157 x25_2) : Int) := of_decide_eq_true (by assumption)
                  have q162 : (rd y157 x25_2) < (l0.length : Int) := of_decide_eq_true (by assumption)
                  obtain ⟨ad162, e162, hx162_0⟩ := Kd.at_int HR0.out (rd y157 x25_2) p162 q162
                  cases e162
                  try replace hx162_0 := (HB.out.cell (World.block_lt_of_cell? w _ hx162_0)).trans hx162_0
                  replace p162 := eq_true p162
                  replace q162 := eq_true q162
                  have p163 : 0 ≤ ((rd t152 x15_1) : Int) := of_decide_eq_true (by assumption)
                  have q163 : (rd t152 x15_1) < (l0.length : Int) := of_decide_eq_true (by assumption)
                  obtain ⟨ad163, e163, hx163_0⟩ := Kd.at_int HR0.out (rd t152 x15_1) p163 q163
                  obtain rfl : ad162 = ad163 := (by injection e163)
                  try replace hx163_0 := (HB.out.cell (World.block_lt_of_cell? w _ hx163_0)).trans hx163_0
                  replace p163 := eq_true p163
                  replace q163 := eq_true q163
                  go_wp2
                  repeat (go_quiet (fail); try go_wp2)
                  go_roundg k2
                  case measure => have := HK1.out; have := HK2.out; omega
                  case rel => exact ⟨(x4_2), (wrap64 (x25_2 + 1)), (by first | rfl | (simp; done) | (simp [*]; done)), (by first | rfl | (simp; done) | (simp [*]; done)), H', ⟨by have := HK1.out; have := HK2.out; omega⟩, ⟨by (with_reducible repeat (first | apply rA_ | apply rN_ | apply rD_)); exact HO_13.out⟩, ⟨by (with_reducible repeat (first | apply rA_ | apply rN_ | apply rD_)); exact HO_156000.out⟩, ⟨by (with_reducible repeat (first | apply rA_ | apply rN_ | apply rD_)); exact HO_156001.out⟩, ⟨by (with_reducible repeat (first | refine kN_ ?_ _ | refine kD_ ?_ | refine kA_ ?_ _)); exact BK151.out⟩, ⟨by (with_reducible repeat (first | refine kN_ ?_ _ | refine kD_ ?_ | refine kA_ ?_ _)); exact BK155.out⟩, ⟨by repeat (first | (with_reducible exact HR160.out) | (with_reducible refine Kd.C_alloc ?_ _) | (with_reducible refine Kd.C_drewN ?_ _) | (with_reducible refine Kd.C_drew ?_) | exact HR160.out)⟩, ⟨by repeat (first | (with_reducible first | exact HB.out | apply bA_ | apply pN_ | apply bD_ | refine bS_ ?_ GE151.out | refine bS_ ?_ GE155.out) | exact HB.out)⟩⟩
                ·rw [if_neg c24] at H
                 exact absurd H (by simp)
               ·rw [if_neg c23] at H
                exact absurd H (by simp)
              ·rw [if_neg c22] at H
               exact absurd H (by simp)
             ·rw [if_neg c21] at H
              exact absurd H (by simp)
            ·rw [if_neg c20] at H
             have c20b0 : decide ((rd y157 x25_2) < (rd t152 x15_1)) = false := decide_eq_false c20
             clear c20
             have H' := aS_ H
             clear H
             have p161 : 0 ≤ (x25_2 : Int) := of_decide_eq_true (by assumption)
             have q161 : x25_2 < (y157.length : Int) := of_decide_eq_true (by assumption)
             obtain ⟨ad161, e161, hx161_0⟩ := Kd.at_int HR160.out x25_2 p161 q161
             obtain rfl : ad156 = ad161 := (by injection e161)
             try replace hx161_0 := (HB.out.cell (World.block_lt_of_cell? w _ hx161_0)).trans hx161_0
             replace p161 := eq_true p161
             replace q161 := eq_true q161
             go_wp2
             repeat (go_quiet (fail); try go_wp2)
             go_roundg k2
             case measure => have := HK1.out; have := HK2.out; omega
             case rel => exact ⟨(x4_2), (wrap64 (x25_2 + 1)), (by first | rfl | (simp; done) | (simp [*]; done)), (by first | rfl | (simp; done) | (simp [*]; done)), H', ⟨by have := HK1.out; have := HK2.out; omega⟩, ⟨by (with_reducible repeat (first | apply rA_ | apply rN_ | apply rD_)); exact HO_13.out⟩, ⟨by (with_reducible repeat (first | apply rA_ | apply rN_ | apply rD_)); exact HO_156000.out⟩, ⟨by (with_reducible repeat (first | apply rA_ | apply rN_ | apply rD_)); exact HO_156001.out⟩, ⟨by (with_reducible repeat (first | refine kN_ ?_ _ | refine kD_ ?_ | refine kA_ ?_ _)); exact BK151.out⟩, ⟨by (with_reducible repeat (first | refine kN_ ?_ _ | refine kD_ ?_ | refine kA_ ?_ _)); exact BK155.out⟩, ⟨by repeat (first | (with_reducible exact HR160.out) | (with_reducible refine Kd.C_alloc ?_ _) | (with_reducible refine Kd.C_drewN ?_ _) | (with_reducible refine Kd.C_drew ?_) | exact HR160.out)⟩, ⟨by repeat (first | (with_reducible first | exact HB.out | apply bA_ | apply pN_ | apply bD_ | refine bS_ ?_ GE151.out | refine bS_ ?_ GE155.out) | exact HB.out)⟩⟩
           ·rw [if_neg c19] at H
            exact absurd H (by simp)
          ·rw [if_neg c18] at H
           exact absurd H (by simp)
         ·rw [if_neg c17] at H
          have c17b0 : decide (x25_2 < (y157.length : Int)) = false := decide_eq_false c17
          clear c17
          by_cases c27 : x156001_1.length < 17592186044416
          ·rw [if_pos c27] at H
           have LMc27 := aS_ c27
           clear c27
           obtain ⟨y165, hy165⟩ : ∃ y_ : List Int, y_ = (x156001_1 ++ [x4_2]) := ⟨_, rfl⟩
           replace H : (spec_reOf.l0 k2 l0 x4_2 t152 (t152.length : Int) (wrap64 (x15_1 + 1)) t152 y165) = some (r1, r2) := by first | (rw [hy165]; with_reducible exact H) | (have H2_ := (Option.bind_some _ _).symm.trans H; rw [hy165]; with_reducible exact H2_) | (have H2_ := (Option.bind_some _ _).symm.trans H; with_reducible exact H2_) | with_reducible exact H | (rw [hy165]; exact H) | exact H
           have Ny165 := aS_ hy165
           clear hy165
           have H' := aS_ H
           clear H
           have hnb28 := NB155_151.out
           have hnc28 := NB151_155.out
           have hcz29_0 : wr.cell? ⟨gb155, 0, none⟩ = some (.slice (some ad156) t152.length co5) := (blk_cell BK155.out 0).trans rfl
           have hcz29_1 : wr.cell? ⟨gb155, 1, none⟩ = some (u156001) := (blk_cell BK155.out 1).trans rfl
           have hfz29_0 := blk_frozen BK155.out 0
           have hfz29_1 := blk_frozen BK155.out 1
           go_wp2_with (first | ((with_reducible refine gate_builtin (b := .append) (xs := #[.tmp 51, .tmp 53]) rfl ?_); at_builtin; refine Kd.R_append (Kd.int .i64) (w0 := w) w.heap.size rfl (.tmp 51) (.tmp 53) 22 3 (.int .i64 0) 8 rfl Try.underlying22 info3 rfl (by decide) (by omega) u156001 x156001_1 x4_2 [.int .i64 x4_2] (fun k_ => some k_ ≠ (.slice (some ad156) t152.length co5 : Value).ownBlock ∧ some k_ ≠ (.slice (some ad156) t152.length co5 : Value).ownBlock) (fun _ => False) rfl rfl ?aP (fun _ hk => hk.elim) ?aF ?aO ?aB ?aS ?aL ?_; (case aP => exact rfl); (case aB => exact (by repeat (first | (with_reducible first | exact HB.out | apply bA_ | apply pN_ | apply bD_ | refine bS_ ?_ GE151.out | refine bS_ ?_ GE155.out) | exact HB.out))); (case aF => exact (fun k_ hk => ⟨Kd.fresh' (Kd.R_lt (by (with_reducible repeat (first | apply rA_ | apply rN_ | apply rD_)); exact HO_13.out)) k_ hk, Kd.fresh' (Kd.R_lt (by (with_reducible repeat (first | apply rA_ | apply rN_ | apply rD_)); exact HO_156000.out)) k_ hk⟩)); (case aO => exact (by (with_reducible repeat (first | apply rA_ | apply rN_ | apply rD_)); exact HO_156001.out)); (case aS => exact (below_size (by repeat (first | (with_reducible first | exact HB.out | apply bA_ | apply pN_ | apply bD_ | refine bS_ ?_ GE151.out | refine bS_ ?_ GE155.out) | exact HB.out)))); (case aL => have := LMc27.out; omega); intro v166 w30 ho hb hg hat; rw [← Ny165.out] at ho; have n0_ := aS_ (Kd.R_after (ok := (fun _ => True)) (by (with_reducible repeat (first | apply rA_ | apply rN_ | apply rD_)); exact Kd.R_mono HO_13.out (fun _ hk => ⟨trivial, hk⟩)) hg hat); have n1_ := aS_ (Kd.R_after (ok := (fun _ => True)) (by (with_reducible repeat (first | apply rA_ | apply rN_ | apply rD_)); exact Kd.R_mono HO_156000.out (fun _ hk => ⟨trivial, hk⟩)) hg hat); have n2_ := aS_ (blk_grown (g := gb151) (o := .cells #[.slice none 0 0, .slice none 0 0] 24 (0, 0)) (by (with_reducible repeat (first | refine kN_ ?_ _ | refine kD_ ?_ | refine kA_ ?_ _)); exact BK151.out) hg (Kd.R_ne HO_156001.out BK151.out (by decide))); have n3_ := aS_ (blk_grown (g := gb155) (o := .cells #[.slice (some ad156) t152.length co5, u156001] 24 (0, 0)) (by (with_reducible repeat (first | refine kN_ ?_ _ | refine kD_ ?_ | refine kA_ ?_ _)); exact BK155.out) hg (Kd.R_ne HO_156001.out BK155.out (by decide))); have n4_ := aS_ (hb); have n5_ := aS_ ((show Kd.C (Kd.int .i64) w30 (some ad156) y157.length y157 from by rw [Ny157.out]; exact Kd.C_take (m := (x15_1 : Int).toNat) ((Kd.R_reads' (Kd.R_after (ok := (fun _ => True)) (by (with_reducible repeat (first | apply rA_ | apply rN_ | apply rD_)); exact Kd.R_mono HO_156000.out (fun _ hk => ⟨trivial, hk⟩)) hg hat)).2.2) KL16.out)); have n6_ := aS_ (ho); clear HO_13; clear HO_156000; clear BK151; clear BK155; clear HB; clear HR160; clear HO_156001; have HO_13 := n0_; have HO_156000 := n1_; have BK151 := n2_; have BK155 := n3_; have HB := n4_; have HR160 := n5_; have HO167 := n6_; clear n0_ n1_ n2_ n3_ n4_ n5_ n6_; clear ho hb hg hat; obtain ⟨Ao31, co31, eo31⟩ := Kd.R_slice HO167.out; subst eo31; have hcz32_0 : w30.cell? ⟨gb155, 0, none⟩ = some (.slice (some ad156) t152.length co5) := (blk_cell BK155.out 0).trans rfl; have hcz32_1 : w30.cell? ⟨gb155, 1, none⟩ = some (u156001) := (blk_cell BK155.out 1).trans rfl; have hfz32_0 := blk_frozen BK155.out 0; have hfz32_1 := blk_frozen BK155.out 1))
           repeat (go_quiet (first | ((with_reducible refine gate_builtin (b := .append) (xs := #[.tmp 51, .tmp 53]) rfl ?_); at_builtin; refine Kd.R_append (Kd.int .i64) (w0 := w) w.heap.size rfl (.tmp 51) (.tmp 53) 22 3 (.int .i64 0) 8 rfl Try.underlying22 info3 rfl (by decide) (by omega) u156001 x156001_1 x4_2 [.int .i64 x4_2] (fun k_ => some k_ ≠ (.slice (some ad156) t152.length co5 : Value).ownBlock ∧ some k_ ≠ (.slice (some ad156) t152.length co5 : Value).ownBlock) (fun _ => False) rfl rfl ?aP (fun _ hk => hk.elim) ?aF ?aO ?aB ?aS ?aL ?_; (case aP => exact rfl); (case aB => exact (by repeat (first | (with_reducible first | exact HB.out | apply bA_ | apply pN_ | apply bD_ | refine bS_ ?_ GE151.out | refine bS_ ?_ GE155.out) | exact HB.out))); (case aF => exact (fun k_ hk => ⟨Kd.fresh' (Kd.R_lt (by (with_reducible repeat (first | apply rA_ | apply rN_ | apply rD_)); exact HO_13.out)) k_ hk, Kd.fresh' (Kd.R_lt (by (with_reducible repeat (first | apply rA_ | apply rN_ | apply rD_)); exact HO_156000.out)) k_ hk⟩)); (case aO => exact (by (with_reducible repeat (first | apply rA_ | apply rN_ | apply rD_)); exact HO_156001.out)); (case aS => exact (below_size (by repeat (first | (with_reducible first | exact HB.out | apply bA_ | apply pN_ | apply bD_ | refine bS_ ?_ GE151.out | refine bS_ ?_ GE155.out) | exact HB.out)))); (case aL => have := LMc27.out; omega); intro v166 w30 ho hb hg hat; rw [← Ny165.out] at ho; have n0_ := aS_ (Kd.R_after (ok := (fun _ => True)) (by (with_reducible repeat (first | apply rA_ | apply rN_ | apply rD_)); exact Kd.R_mono HO_13.out (fun _ hk => ⟨trivial, hk⟩)) hg hat); have n1_ := aS_ (Kd.R_after (ok := (fun _ => True)) (by (with_reducible repeat (first | apply rA_ | apply rN_ | apply rD_)); exact Kd.R_mono HO_156000.out (fun _ hk => ⟨trivial, hk⟩)) hg hat); have n2_ := aS_ (blk_grown (g := gb151) (o := .cells #[.slice none 0 0, .slice none 0 0] 24 (0, 0)) (by (with_reducible repeat (first | refine kN_ ?_ _ | refine kD_ ?_ | refine kA_ ?_ _)); exact BK151.out) hg (Kd.R_ne HO_156001.out BK151.out (by decide))); have n3_ := aS_ (blk_grown (g := gb155) (o := .cells #[.slice (some ad156) t152.length co5, u156001] 24 (0, 0)) (by (with_reducible repeat (first | refine kN_ ?_ _ | refine kD_ ?_ | refine kA_ ?_ _)); exact BK155.out) hg (Kd.R_ne HO_156001.out BK155.out (by decide))); have n4_ := aS_ (hb); have n5_ := aS_ ((show Kd.C (Kd.int .i64) w30 (some ad156) y157.length y157 from by rw [Ny157.out]; exact Kd.C_take (m := (x15_1 : Int).toNat) ((Kd.R_reads' (Kd.R_after (ok := (fun _ => True)) (by (with_reducible repeat (first | apply rA_ | apply rN_ | apply rD_)); exact Kd.R_mono HO_156000.out (fun _ hk => ⟨trivial, hk⟩)) hg hat)).2.2) KL16.out)); have n6_ := aS_ (ho); clear HO_13; clear HO_156000; clear BK151; clear BK155; clear HB; clear HR160; clear HO_156001; have HO_13 := n0_; have HO_156000 := n1_; have BK151 := n2_; have BK155 := n3_; have HB := n4_; have HR160 := n5_; have HO167 := n6_; clear n0_ n1_ n2_ n3_ n4_ n5_ n6_; clear ho hb hg hat; obtain ⟨Ao31, co31, eo31⟩ := Kd.R_slice HO167.out; subst eo31; have hcz32_0 : w30.cell? ⟨gb155, 0, none⟩ = some (.slice (some ad156) t152.length co5) := (blk_cell BK155.out 0).trans rfl; have hcz32_1 : w30.cell? ⟨gb155, 1, none⟩ = some (u156001) := (blk_cell BK155.out 1).trans rfl; have hfz32_0 := blk_frozen BK155.out 0; have hfz32_1 := blk_frozen BK155.out 1)); try go_wp2_with (first | ((with_reducible refine gate_builtin (b := .append) (xs := #[.tmp 51, .tmp 53]) rfl ?_); at_builtin; refine Kd.R_append (Kd.int .i64) (w0 := w) w.heap.size rfl (.tmp 51) (.tmp 53) 22 3 (.int .i64 0) 8 rfl Try.underlying22 info3 rfl (by decide) (by omega) u156001 x156001_1 x4_2 [.int .i64 x4_2] (fun k_ => some k_ ≠ (.slice (some ad156) t152.length co5 : Value).ownBlock ∧ some k_ ≠ (.slice (some ad156) t152.length co5 : Value).ownBlock) (fun _ => False) rfl rfl ?aP (fun _ hk => hk.elim) ?aF ?aO ?aB ?aS ?aL ?_; (case aP => exact rfl); (case aB => exact (by repeat (first | (with_reducible first | exact HB.out | apply bA_ | apply pN_ | apply bD_ | refine bS_ ?_ GE151.out | refine bS_ ?_ GE155.out) | exact HB.out))); (case aF => exact (fun k_ hk => ⟨Kd.fresh' (Kd.R_lt (by (with_reducible repeat (first | apply rA_ | apply rN_ | apply rD_)); exact HO_13.out)) k_ hk, Kd.fresh' (Kd.R_lt (by (with_reducible repeat (first | apply rA_ | apply rN_ | apply rD_)); exact HO_156000.out)) k_ hk⟩)); (case aO => exact (by (with_reducible repeat (first | apply rA_ | apply rN_ | apply rD_)); exact HO_156001.out)); (case aS => exact (below_size (by repeat (first | (with_reducible first | exact HB.out | apply bA_ | apply pN_ | apply bD_ | refine bS_ ?_ GE151.out | refine bS_ ?_ GE155.out) | exact HB.out)))); (case aL => have := LMc27.out; omega); intro v166 w30 ho hb hg hat; rw [← Ny165.out] at ho; have n0_ := aS_ (Kd.R_after (ok := (fun _ => True)) (by (with_reducible repeat (first | apply rA_ | apply rN_ | apply rD_)); exact Kd.R_mono HO_13.out (fun _ hk => ⟨trivial, hk⟩)) hg hat); have n1_ := aS_ (Kd.R_after (ok := (fun _ => True)) (by (with_reducible repeat (first | apply rA_ | apply rN_ | apply rD_)); exact Kd.R_mono HO_156000.out (fun _ hk => ⟨trivial, hk⟩)) hg hat); have n2_ := aS_ (blk_grown (g := gb151) (o := .cells #[.slice none 0 0, .slice none 0 0] 24 (0, 0)) (by (with_reducible repeat (first | refine kN_ ?_ _ | refine kD_ ?_ | refine kA_ ?_ _)); exact BK151.out) hg (Kd.R_ne HO_156001.out BK151.out (by decide))); have n3_ := aS_ (blk_grown (g := gb155) (o := .cells #[.slice (some ad156) t152.length co5, u156001] 24 (0, 0)) (by (with_reducible repeat (first | refine kN_ ?_ _ | refine kD_ ?_ | refine kA_ ?_ _)); exact BK155.out) hg (Kd.R_ne HO_156001.out BK155.out (by decide))); have n4_ := aS_ (hb); have n5_ := aS_ ((show Kd.C (Kd.int .i64) w30 (some ad156) y157.length y157 from by rw [Ny157.out]; exact Kd.C_take (m := (x15_1 : Int).toNat) ((Kd.R_reads' (Kd.R_after (ok := (fun _ => True)) (by (with_reducible repeat (first | apply rA_ | apply rN_ | apply rD_)); exact Kd.R_mono HO_156000.out (fun _ hk => ⟨trivial, hk⟩)) hg hat)).2.2) KL16.out)); have n6_ := aS_ (ho); clear HO_13; clear HO_156000; clear BK151; clear BK155; clear HB; clear HR160; clear HO_156001; have HO_13 := n0_; have HO_156000 := n1_; have BK151 := n2_; have BK155 := n3_; have HB := n4_; have HR160 := n5_; have HO167 := n6_; clear n0_ n1_ n2_ n3_ n4_ n5_ n6_; clear ho hb hg hat; obtain ⟨Ao31, co31, eo31⟩ := Kd.R_slice HO167.out; subst eo31; have hcz32_0 : w30.cell? ⟨gb155, 0, none⟩ = some (.slice (some ad156) t152.length co5) := (blk_cell BK155.out 0).trans rfl; have hcz32_1 : w30.cell? ⟨gb155, 1, none⟩ = some (u156001) := (blk_cell BK155.out 1).trans rfl; have hfz32_0 := blk_frozen BK155.out 0; have hfz32_1 := blk_frozen BK155.out 1)))
           go_roundg k2
           case measure => have := HK1.out; have := HK2.out; omega
           case rel => exact ⟨(x4_2), (wrap64 (x15_1 + 1)), (y165), (.slice Ao31 y165.length co31), (by first | rfl | (simp; done) | (simp [*]; done)), (by first | rfl | (simp; done) | (simp [*]; done)), H', ⟨by have := HK1.out; have := HK2.out; omega⟩, ⟨by (with_reducible repeat (first | apply rA_ | apply rN_ | apply rD_)); exact Kd.R_mono (Kd.R_far (p := ⟨gb155, 1, none⟩) (Kd.R_types HO_13.out BK155.out (by decide)) (fun _ hk => hk.2) (.slice Ao31 y165.length co31)) (fun _ hk => hk.1.2)⟩, ⟨by (with_reducible repeat (first | apply rA_ | apply rN_ | apply rD_)); exact Kd.R_mono (Kd.R_far (p := ⟨gb155, 1, none⟩) (Kd.R_types HO_156000.out BK155.out (by decide)) (fun _ hk => hk.2) (.slice Ao31 y165.length co31)) (fun _ hk => hk.1.2)⟩, ⟨by (with_reducible repeat (first | apply rA_ | apply rN_ | apply rD_)); exact Kd.R_mono (Kd.R_far (p := ⟨gb155, 1, none⟩) (Kd.R_types HO167.out BK155.out (by decide)) (fun _ hk => hk.2) (.slice Ao31 y165.length co31)) (fun _ hk => ⟨hk.1.1, hk.1.2⟩)⟩, ⟨by (with_reducible repeat (first | refine kN_ ?_ _ | refine kD_ ?_ | refine kA_ ?_ _)); refine blk_far ?_ NB151_155.out _; (with_reducible repeat (first | refine kN_ ?_ _ | refine kD_ ?_ | refine kA_ ?_ _)); exact BK151.out⟩, ⟨by (with_reducible repeat (first | refine kN_ ?_ _ | refine kD_ ?_ | refine kA_ ?_ _)); refine blk_put (cs := #[.slice (some ad156) t152.length co5, u156001]) ?_ 1 _ rfl; (with_reducible repeat (first | refine kN_ ?_ _ | refine kD_ ?_ | refine kA_ ?_ _)); exact BK155.out⟩, ⟨by repeat (first | (with_reducible first | exact HB.out | apply bA_ | apply pN_ | apply bD_ | refine bS_ ?_ GE151.out | refine bS_ ?_ GE155.out) | exact HB.out)⟩⟩
          ·rw [if_neg c27] at H
           exact absurd H (by simp)
      ·rw [if_neg c13] at H
       exact absurd H (by simp)
     ·rw [if_neg c11] at H
      exact absurd H (by simp)
    ·rw [if_neg c10] at H
     exact absurd H (by simp)
   ·rw [if_neg c9] at H
    have c9b0 : decide (x15_1 < (t152.length : Int)) = false := decide_eq_false c9
    clear c9
    simp only [Option.some.injEq, Prod.mk.injEq] at H
    obtain ⟨rfl, rfl⟩ := H
    have hnb33 := NB155_151.out
    have hnc33 := NB151_155.out
    have hcz34_0 : wr.cell? ⟨gb155, 0, none⟩ = some (.slice Ao5 t152.length co5) := (blk_cell BK155.out 0).trans rfl
    have hcz34_1 : wr.cell? ⟨gb155, 1, none⟩ = some (u156001) := (blk_cell BK155.out 1).trans rfl
    have hfz34_0 := blk_frozen BK155.out 0
    have hfz34_1 := blk_frozen BK155.out 1
    have hcz35_0 : wr.cell? ⟨gb151, 0, none⟩ = some (.slice none 0 0) := (blk_cell BK151.out 0).trans rfl
    have hcz35_1 : wr.cell? ⟨gb151, 1, none⟩ = some (.slice none 0 0) := (blk_cell BK151.out 1).trans rfl
    have hfz35_0 := blk_frozen BK151.out 0
    have hfz35_1 := blk_frozen BK151.out 1
    obtain ⟨Ao36, co36, eo36⟩ := Kd.R_slice HO_156001.out
    subst eo36
    go_wp2
    repeat (go_quiet (fail); try go_wp2)
    refine bodyPost_ret (results_cell_row rfl _ _ gb151 24 #[.slice Ao5 t152.length co5, .slice Ao36 x156001_1.length co36] (0, 0) _ rfl (by (with_reducible repeat (first | refine kN_ ?_ _ | refine kD_ ?_ | refine kA_ ?_ _)); refine blk_put (cs := #[.slice Ao5 t152.length co5, .slice none 0 0]) ?_ 1 _ rfl; (with_reducible repeat (first | refine kN_ ?_ _ | refine kD_ ?_ | refine kA_ ?_ _)); refine blk_put (cs := #[.slice none 0 0, .slice none 0 0]) ?_ 0 _ rfl; (with_reducible repeat (first | refine kN_ ?_ _ | refine kD_ ?_ | refine kA_ ?_ _)); exact BK151.out) Try.underlying24 rfl (by kernel_rfl)) rfl ?_
    exact ⟨_, _, by first | rfl | (simp [errW_none, errW_some] <;> rfl) | (simp [*, errW_none, errW_some] <;> rfl), by (with_reducible repeat (first | apply rA_ | apply rN_ | apply rD_)); exact Kd.R_mono (Kd.R_far (p := ⟨gb151, 1, none⟩) (Kd.R_far (p := ⟨gb151, 0, none⟩) (Kd.R_types HO_156000.out BK151.out (by decide)) (fun _ hk => hk.2) (.slice Ao5 t152.length co5)) (fun _ hk => hk.2) (.slice Ao36 x156001_1.length co36)) (fun _ hk => hk.1), by (with_reducible repeat (first | apply rA_ | apply rN_ | apply rD_)); exact Kd.R_mono (Kd.R_far (p := ⟨gb151, 1, none⟩) (Kd.R_far (p := ⟨gb151, 0, none⟩) (Kd.R_types HO_156001.out BK151.out (by decide)) (fun _ hk => hk.2) (.slice Ao5 t152.length co5)) (fun _ hk => hk.2) (.slice Ao36 x156001_1.length co36)) (fun _ hk => hk.1.2), by repeat (first | (with_reducible first | exact HB.out | apply bA_ | apply pN_ | apply bD_ | refine bS_ ?_ GE151.out | refine bS_ ?_ GE155.out) | exact HB.out)⟩
/-! ### spec_RegionOfPoint: function 4 -/
def spec_RegionOfPoint.f (k : Nat) (l0 : List Int) : Option (List Int × List Int × Bool) := (spec_rePoint.f k l0).bind fun t169 => (if t169 = true then ((spec_reOf.f k l0).bind fun bt170 => (some (bt170.1, bt170.2, true))) else (some (([] : List Int), ([] : List Int), false)))
theorem spec_RegionOfPoint.mono : ∀ a0 k, LeO (spec_RegionOfPoint.f k a0) (spec_RegionOfPoint.f (k + 1) a0) := by
 intro a0 k
 unfold spec_RegionOfPoint.f
 repeat' first
   | (with_reducible exact spec_reOf.mono _ _)
   | (with_reducible exact spec_rePoint.mono _ _)
   | (with_reducible exact LeO.refl _)
   | (with_reducible exact LeO.none _)
   | (with_reducible refine LeO.ite ?_ ?_)
   | (with_reducible refine LeO.bind ?_ (fun _ => ?_))
   | exact spec_reOf.mono _ _
   | exact spec_rePoint.mono _ _
   | exact LeO.none _
   | refine LeO.ite ?_ ?_
   | refine LeO.bind ?_ (fun _ => ?_)
set_option maxHeartbeats 8000000 in
set_option maxRecDepth 100000 in
theorem spec_RegionOfPoint.calls (k : Nat) (A0 : Option Addr) (c0 : Nat) (l0 : List Int) (r1 : List Int) (r2 : List Int) (r3 : Bool) (w : World) (hr0 : Kd.C (Kd.int .i64) w A0 l0.length l0) (hc0 : l0.length ≤ c0) (h : spec_RegionOfPoint.f k l0 = some (r1, r2, r3)) :
  Calls Try.prog 4 #[.slice A0 l0.length c0] w fun e w' => ∃ v0_ v1_ : Value, e = .returned (.tuple #[.agg #[v0_, v1_], .bool r3]) ∧ Kd.R (Kd.int .i64) 3 w' w.heap.size (fun k_ => some k_ ≠ (v1_ : Value).ownBlock) v0_ r1 ∧ Kd.R (Kd.int .i64) 3 w' w.heap.size (fun k_ => some k_ ≠ (v0_ : Value).ownBlock) v1_ r2 ∧ Below w.heap.size w w' := by
 have hu24 := Try.underlying24
 have HR0 := aS_ hr0
 have HC0 := aS_ hc0
 clear hr0 hc0
 have HB := aS_ (Below.refl w.heap.size w)
 have H : ((spec_rePoint.f k l0).bind fun t169 => (if t169 = true then ((spec_reOf.f k l0).bind fun bt170 => (some (bt170.1, bt170.2, true))) else (some (([] : List Int), ([] : List Int), false)))) = some (r1, r2, r3) := h
 clear h
 replace H := Option.bind_eq_some_iff.mp H
 obtain ⟨t169, A20, H⟩ := H
 have A2 := aS_ A20
 clear A20
 by_cases c3 : t169 = true
 ·subst c3
  rw [if_pos rfl] at H
  replace H := Option.bind_eq_some_iff.mp H
  obtain ⟨⟨t170, t173⟩, A40, H⟩ := H
  have A4 := aS_ A40
  clear A40
  simp only [Option.some.injEq, Prod.mk.injEq] at H
  obtain ⟨rfl, rfl, rfl⟩ := H
  go_enter Try.func4, Try.ntmps4
  go_wp2_with (first | ((with_reducible refine gate_dst (N := 2) rfl ?_); refine box_event ?hg (N := 2) ?hd (cs := #[.slice none 0 0, .slice none 0 0]) (t := 24) ?hr ?_; (case hd => rfl); (case hg => rfl); (case hr => first | (go_simp; done) | (go_simp; rfl)); intro gb168 hg w5 hbox hb; have n0_ := aS_ (below_step (by repeat (first | (with_reducible first | exact HB.out | apply bA_ | apply pN_ | apply bD_) | exact HB.out)) hb); have n1_ := aS_ (hbox); have n2_ := aS_ ((by rw [hg]; exact (below_size (by repeat (first | (with_reducible first | exact HB.out | apply bA_ | apply pN_ | apply bD_) | exact HB.out))) : w.heap.size ≤ gb168)); have n3_ := aS_ ((by rw [hg]; exact (below_size (by repeat (first | (with_reducible first | exact HB.out | apply bA_ | apply pN_ | apply bD_) | exact HB.out))) : w.heap.size ≤ gb168)); clear HB; have HB := n0_; have BK168 := n1_; have GW168 := n2_; have GE168 := n3_; clear n0_ n1_ n2_ n3_; clear hb hbox hg) | ((with_reducible refine gate_callee (f := 12) rfl ?_); refine goesL_ (some 5) rfl rfl Try.func12 (by kernel_rfl) rfl #[.slice A0 l0.length c0] rfl (by (try simp only [List.map_toArray, List.map_cons, List.map_nil]); first | done | rfl | (simp only [List.length_drop, List.length_take]; rfl)) ?_; (with_reducible refine (spec_rePoint.calls k _ _ l0 true _ ?side1 ?side2 A2.out).mono ?_); (case side1 => repeat (first | exact (Kd.C_below HR0.out HB.out) | (with_reducible refine Kd.C_alloc ?_ _) | (with_reducible refine Kd.C_drewN ?_ _) | (with_reducible refine Kd.C_drew ?_))); (case side2 => exact HC0.out); rintro e w' ⟨rfl, ⟨nd, rfl⟩⟩; refine ⟨_, rfl, ?_⟩; (try (rw [drewN_self w5]; generalize hq_ : World.drewN w5 _ = w5; have n0_ : Aside0 (w5.heap[gb168]? = some (.cells #[.slice none 0 0, .slice none 0 0] 24 (0, 0))) := ⟨by rw [← hq_]; exact (by (with_reducible repeat (first | refine kN_ ?_ _ | refine kD_ ?_ | refine kA_ ?_ _)); exact BK168.out)⟩; have n1_ : Aside0 (Below w.heap.size w w5) := ⟨by rw [← hq_]; exact (by repeat (first | (with_reducible first | exact HB.out | apply bA_ | apply pN_ | apply bD_ | refine bS_ ?_ GE168.out) | exact HB.out))⟩; clear BK168 HB hq_; have BK168 := n0_; have HB := n1_; clear n0_ n1_))) | ((with_reducible refine gate_callee (f := 13) rfl ?_); refine goesL_ (some 9) rfl rfl Try.func13 (by kernel_rfl) rfl #[.slice A0 l0.length c0] rfl (by (try simp only [List.map_toArray, List.map_cons, List.map_nil]); first | done | rfl | (simp only [List.length_drop, List.length_take]; rfl)) ?_; (with_reducible refine (spec_reOf.calls k _ _ l0 t170 t173 _ ?side1 ?side2 A4.out).mono ?_); (case side1 => repeat (first | exact (Kd.C_below HR0.out HB.out) | (with_reducible refine Kd.C_alloc ?_ _) | (with_reducible refine Kd.C_drewN ?_ _) | (with_reducible refine Kd.C_drew ?_))); (case side2 => exact HC0.out); rintro e w6 ⟨v171, v174, rfl, ho0, ho1, hb⟩; refine ⟨_, rfl, ?_⟩; have n0_ := aS_ (Kd.R_lower ho0 (below_size (by repeat (first | (with_reducible first | exact HB.out | apply bA_ | apply pN_ | apply bD_ | refine bS_ ?_ GE168.out) | exact HB.out)))); have n1_ := aS_ (Kd.R_lower ho1 (below_size (by repeat (first | (with_reducible first | exact HB.out | apply bA_ | apply pN_ | apply bD_ | refine bS_ ?_ GE168.out) | exact HB.out)))); have n2_ := aS_ (blk_below (g := gb168) (o := .cells #[.slice none 0 0, .slice none 0 0] 24 (0, 0)) (by (with_reducible repeat (first | refine kN_ ?_ _ | refine kD_ ?_ | refine kA_ ?_ _)); exact BK168.out) hb); have n3_ := aS_ (below_step (by repeat (first | (with_reducible first | exact HB.out | apply bA_ | apply pN_ | apply bD_ | refine bS_ ?_ GE168.out) | exact HB.out)) hb); clear BK168; clear HB; have HO172 := n0_; have HO175 := n1_; have BK168 := n2_; have HB := n3_; clear n0_ n1_ n2_ n3_; (try clear hb); (try clear hb2); (try clear hk); (try clear hi); (try clear ho0); (try clear ho1); obtain ⟨Ao7, co7, eo7⟩ := Kd.R_slice HO172.out; subst eo7; have hcz8_0 : w6.cell? ⟨gb168, 0, none⟩ = some (.slice none 0 0) := (blk_cell BK168.out 0).trans rfl; have hcz8_1 : w6.cell? ⟨gb168, 1, none⟩ = some (.slice none 0 0) := (blk_cell BK168.out 1).trans rfl; have hfz8_0 := blk_frozen BK168.out 0; have hfz8_1 := blk_frozen BK168.out 1; obtain ⟨Ao9, co9, eo9⟩ := Kd.R_slice HO175.out; subst eo9))
  refine bodyPost_ret (results_ct rfl _ _ gb168 24 #[.slice Ao7 t170.length co7, .slice Ao9 t173.length co9] (0, 0) _ rfl (by (with_reducible repeat (first | refine kN_ ?_ _ | refine kD_ ?_ | refine kA_ ?_ _)); refine blk_put (cs := #[.slice Ao7 t170.length co7, .slice none 0 0]) ?_ 1 _ rfl; (with_reducible repeat (first | refine kN_ ?_ _ | refine kD_ ?_ | refine kA_ ?_ _)); refine blk_put (cs := #[.slice none 0 0, .slice none 0 0]) ?_ 0 _ rfl; (with_reducible repeat (first | refine kN_ ?_ _ | refine kD_ ?_ | refine kA_ ?_ _)); exact BK168.out) Try.underlying24 rfl (by kernel_rfl)) rfl ?_
  exact ⟨_, _, by first | rfl | (simp [errW_none, errW_some] <;> rfl) | (simp [*, errW_none, errW_some] <;> rfl), by (with_reducible repeat (first | apply rA_ | apply rN_ | apply rD_)); exact Kd.R_mono (Kd.R_far (p := ⟨gb168, 1, none⟩) (Kd.R_far (p := ⟨gb168, 0, none⟩) (Kd.R_types HO172.out BK168.out (by decide)) (fun _ hk => hk.2) (.slice Ao7 t170.length co7)) (fun _ hk => hk.2) (.slice Ao9 t173.length co9)) (fun _ hk => hk.1), by (with_reducible repeat (first | apply rA_ | apply rN_ | apply rD_)); exact Kd.R_mono (Kd.R_far (p := ⟨gb168, 1, none⟩) (Kd.R_far (p := ⟨gb168, 0, none⟩) (Kd.R_types HO175.out BK168.out (by decide)) (fun _ hk => hk.2) (.slice Ao7 t170.length co7)) (fun _ hk => hk.2) (.slice Ao9 t173.length co9)) (fun _ hk => hk.1), by repeat (first | (with_reducible first | exact HB.out | apply bA_ | apply pN_ | apply bD_ | refine bS_ ?_ GE168.out) | exact HB.out)⟩
 ·replace c3 := Bool.eq_false_iff.mpr c3
  subst c3
  rw [if_neg (show ¬ (false = true) by decide)] at H
  simp only [Option.some.injEq, Prod.mk.injEq] at H
  obtain ⟨rfl, rfl, rfl⟩ := H
  go_enter Try.func4, Try.ntmps4
  go_wp2_with (first | ((with_reducible refine gate_dst (N := 2) rfl ?_); refine box_event ?hg (N := 2) ?hd (cs := #[.slice none 0 0, .slice none 0 0]) (t := 24) ?hr ?_; (case hd => rfl); (case hg => rfl); (case hr => first | (go_simp; done) | (go_simp; rfl)); intro gb168 hg w10 hbox hb; have n0_ := aS_ (below_step (by repeat (first | (with_reducible first | exact HB.out | apply bA_ | apply pN_ | apply bD_) | exact HB.out)) hb); have n1_ := aS_ (hbox); have n2_ := aS_ ((by rw [hg]; exact (below_size (by repeat (first | (with_reducible first | exact HB.out | apply bA_ | apply pN_ | apply bD_) | exact HB.out))) : w.heap.size ≤ gb168)); have n3_ := aS_ ((by rw [hg]; exact (below_size (by repeat (first | (with_reducible first | exact HB.out | apply bA_ | apply pN_ | apply bD_) | exact HB.out))) : w.heap.size ≤ gb168)); clear HB; have HB := n0_; have BK168 := n1_; have GW168 := n2_; have GE168 := n3_; clear n0_ n1_ n2_ n3_; clear hb hbox hg) | ((with_reducible refine gate_callee (f := 12) rfl ?_); refine goesL_ (some 5) rfl rfl Try.func12 (by kernel_rfl) rfl #[.slice A0 l0.length c0] rfl (by (try simp only [List.map_toArray, List.map_cons, List.map_nil]); first | done | rfl | (simp only [List.length_drop, List.length_take]; rfl)) ?_; (with_reducible refine (spec_rePoint.calls k _ _ l0 false _ ?side1 ?side2 A2.out).mono ?_); (case side1 => repeat (first | exact (Kd.C_below HR0.out HB.out) | (with_reducible refine Kd.C_alloc ?_ _) | (with_reducible refine Kd.C_drewN ?_ _) | (with_reducible refine Kd.C_drew ?_))); (case side2 => exact HC0.out); rintro e w' ⟨rfl, ⟨nd, rfl⟩⟩; refine ⟨_, rfl, ?_⟩; (try (rw [drewN_self w10]; generalize hq_ : World.drewN w10 _ = w10; have n0_ : Aside0 (w10.heap[gb168]? = some (.cells #[.slice none 0 0, .slice none 0 0] 24 (0, 0))) := ⟨by rw [← hq_]; exact (by (with_reducible repeat (first | refine kN_ ?_ _ | refine kD_ ?_ | refine kA_ ?_ _)); exact BK168.out)⟩; have n1_ : Aside0 (Below w.heap.size w w10) := ⟨by rw [← hq_]; exact (by repeat (first | (with_reducible first | exact HB.out | apply bA_ | apply pN_ | apply bD_ | refine bS_ ?_ GE168.out) | exact HB.out))⟩; clear BK168 HB hq_; have BK168 := n0_; have HB := n1_; clear n0_ n1_)); have hcz11_0 : w10.cell? ⟨gb168, 0, none⟩ = some (.slice none 0 0) := (blk_cell BK168.out 0).trans rfl; have hcz11_1 : w10.cell? ⟨gb168, 1, none⟩ = some (.slice none 0 0) := (blk_cell BK168.out 1).trans rfl; have hfz11_0 := blk_frozen BK168.out 0; have hfz11_1 := blk_frozen BK168.out 1))
  refine bodyPost_ret (results_ct rfl _ _ gb168 24 #[.slice none 0 0, .slice none 0 0] (0, 0) _ rfl (by (with_reducible repeat (first | refine kN_ ?_ _ | refine kD_ ?_ | refine kA_ ?_ _)); refine blk_put (cs := #[.slice none 0 0, .slice none 0 0]) ?_ 1 _ rfl; (with_reducible repeat (first | refine kN_ ?_ _ | refine kD_ ?_ | refine kA_ ?_ _)); refine blk_put (cs := #[.slice none 0 0, .slice none 0 0]) ?_ 0 _ rfl; (with_reducible repeat (first | refine kN_ ?_ _ | refine kD_ ?_ | refine kA_ ?_ _)); exact BK168.out) Try.underlying24 rfl (by kernel_rfl)) rfl ?_
  exact ⟨_, _, by first | rfl | (simp [errW_none, errW_some] <;> rfl) | (simp [*, errW_none, errW_some] <;> rfl), by first | exact Kd.R_nil _ _ _ _ _ | exact Kd.N_nil _ _ _ _ _ | exact Kd.V_nil _ _ _ _ _ | exact Kd.Q_nil _ _ _ _ _ | exact Kd.S_nil _ _ _ _ _, by first | exact Kd.R_nil _ _ _ _ _ | exact Kd.N_nil _ _ _ _ _ | exact Kd.V_nil _ _ _ _ _ | exact Kd.Q_nil _ _ _ _ _ | exact Kd.S_nil _ _ _ _ _, by repeat (first | (with_reducible first | exact HB.out | apply bA_ | apply pN_ | apply bD_ | refine bS_ ?_ GE168.out) | exact HB.out)⟩
/-! ### laws_toIntS: function 5 -/
def laws_toIntS.l0 : Nat → List Int → List Int → Int → Option (List Int)
 | 0, _, _, _ => none
 | k + 1, x0, x3, x4 => if x4 < (x0.length : Int) then (if 0 ≤ x4 then (if x4 < (x3.length : Int) then (laws_toIntS.l0 k x0 (x3.set (x4 : Int).toNat (rd x0 x4)) (wrap64 (x4 + 1))) else (none)) else (none)) else (some x3)
def laws_toIntS.f (k : Nat) (l0 : List Int) : Option (List Int) := if 0 ≤ (l0.length : Int) then (if ((l0.length : Int) : Int).toNat ≤ 35184372088832 then (laws_toIntS.l0 k l0 (List.replicate ((l0.length : Int) : Int).toNat 0) 0) else (none)) else (none)
theorem laws_toIntS.mono_l : ∀ k, (∀ y0 y1 y2, LeO (laws_toIntS.l0 k y0 y1 y2) (laws_toIntS.l0 (k + 1) y0 y1 y2))
 | 0 => fun _ _ _ r h => by simp [laws_toIntS.l0] at h
 | k + 1 => by
  have ih0 := laws_toIntS.mono_l k
  ·intro y0 y1 y2
   unfold laws_toIntS.l0
   repeat' first
   | (with_reducible exact ih0 _ _ _)
   | (with_reducible exact LeO.refl _)
   | (with_reducible exact LeO.none _)
   | (with_reducible refine LeO.ite ?_ ?_)
   | (with_reducible refine LeO.bind ?_ (fun _ => ?_))
   | exact ih0 _ _ _
   | exact LeO.none _
   | refine LeO.ite ?_ ?_
   | refine LeO.bind ?_ (fun _ => ?_)
theorem laws_toIntS.mono : ∀ a0 k, LeO (laws_toIntS.f k a0) (laws_toIntS.f (k + 1) a0) := by
 intro a0 k
 have ih0 := laws_toIntS.mono_l k
 unfold laws_toIntS.f
 repeat' first
   | (with_reducible exact ih0 _ _ _)
   | (with_reducible exact LeO.refl _)
   | (with_reducible exact LeO.none _)
   | (with_reducible refine LeO.ite ?_ ?_)
   | (with_reducible refine LeO.bind ?_ (fun _ => ?_))
   | exact ih0 _ _ _
   | exact LeO.none _
   | refine LeO.ite ?_ ?_
   | refine LeO.bind ?_ (fun _ => ?_)
set_option maxHeartbeats 8000000 in
set_option maxRecDepth 100000 in
theorem laws_toIntS.calls (k : Nat) (A0 : Option Addr) (c0 : Nat) (l0 : List Int) (r : List Int) (w : World) (hr0 : Kd.C (Kd.int .i64) w A0 l0.length l0) (hc0 : l0.length ≤ c0) (h : laws_toIntS.f k l0 = some r) :
  Calls Try.prog 5 #[.slice A0 l0.length c0] w fun e w' => ∃ v0_ : Value, e = .returned (v0_) ∧ Kd.R (Kd.int .i64) 3 w' w.heap.size (fun _ => True) v0_ r ∧ Below w.heap.size w w' := by
 have HR0 := aS_ hr0
 have HC0 := aS_ hc0
 clear hr0 hc0
 have HB := aS_ (Below.refl w.heap.size w)
 have H : (if 0 ≤ (l0.length : Int) then (if ((l0.length : Int) : Int).toNat ≤ 35184372088832 then (laws_toIntS.l0 k l0 (List.replicate ((l0.length : Int) : Int).toNat 0) 0) else (none)) else (none)) = some r := h
 clear h
 by_cases c2 : 0 ≤ (l0.length : Int)
 ·rw [if_pos c2] at H
  have c2b0 := eq_true c2
  have c2b1 : decide (0 ≤ (l0.length : Int)) = true := decide_eq_true c2
  clear c2
  by_cases c3 : ((l0.length : Int) : Int).toNat ≤ 35184372088832
  ·rw [if_pos c3] at H
   have c3b0 := eq_true c3
   have c3b1 : decide (((l0.length : Int) : Int).toNat ≤ 35184372088832) = true := decide_eq_true c3
   clear c3
   obtain ⟨y176, hy176⟩ : ∃ y_ : List Int, y_ = (List.replicate ((l0.length : Int) : Int).toNat 0) := ⟨_, rfl⟩
   replace H : (laws_toIntS.l0 k l0 y176 0) = some r := by first | (rw [hy176]; with_reducible exact H) | (have H2_ := (Option.bind_some _ _).symm.trans H; rw [hy176]; with_reducible exact H2_) | (have H2_ := (Option.bind_some _ _).symm.trans H; with_reducible exact H2_) | with_reducible exact H | (rw [hy176]; exact H) | exact H
   have Ny176 := aS_ hy176
   clear hy176
   have H' := aS_ H
   clear H
   go_enter Try.func5, Try.ntmps5
   go_wp2_with (first | ((with_reducible refine gate_dst (N := 7) rfl ?_); refine Kd.R_make (Kd.int .i64) _ 3 rfl (N := 7) rfl 22 _ _ rfl (l0.length : Int) rfl rfl Try.underlying22 (.int .i64 0) 8 info3 rfl (by decide) (by omega) 0 (ok := fun _ => True) (okp := fun _ => True) rfl (fun _ hk => hk) trivial (of_decide_eq_true (by assumption)) (Nat.le_trans (Nat.mul_le_mul_right _ (of_decide_eq_true (by assumption) : (l0.length : Int).toNat ≤ 35184372088832)) (by omega)) (Below.refl _ _) (Nat.le_refl _) ?_; intro v177 w4 ho5 hb hg_ hnew_; clear hg_ hnew_; (first | rw [← Ny176.out] at ho5 | (simp only [Int.reduceToNat] at ho5; rw [← Ny176.out] at ho5)); have n0_ := aS_ (Kd.R_lower ho5 (below_size (by repeat (first | (with_reducible first | exact HB.out | apply bA_ | apply pN_ | apply bD_) | exact HB.out)))); have n1_ := aS_ (below_step (by repeat (first | (with_reducible first | exact HB.out | apply bA_ | apply pN_ | apply bD_) | exact HB.out)) hb); clear HB; have HO178 := n0_; have HB := n1_; clear n0_ n1_; clear hb ho5))
   go_loopg [4] k (fun kq v4 w' => ∃ (x3_1 : List Int) (x4_1 : Int), v4 = .int .i64 x4_1 ∧ Aside0 (laws_toIntS.l0 kq l0 x3_1 x4_1 = some r) ∧ Aside0 (kq ≤ k) ∧ Aside0 (Kd.R (Kd.int .i64) 3 w' w.heap.size (fun _ => True) v177 x3_1) ∧ Aside0 (Below w.heap.size w w'))
   case atStart => exact ⟨(y176), (0), (by first | rfl | (simp; done) | (simp [*]; done)), H', ⟨Nat.le_refl _⟩, ⟨by (with_reducible repeat (first | apply rA_ | apply rN_ | apply rD_)); exact HO178.out⟩, ⟨by repeat (first | (with_reducible first | exact HB.out | apply bA_ | apply pN_ | apply bD_) | exact HB.out)⟩⟩
   case round =>
    clear H'
    try clear c2
    try clear c2b0
    try clear c2b1
    try clear p2
    try clear c3
    try clear c3b0
    try clear c3b1
    try clear c5
    obtain ⟨x3_1, x4_1, rfl, HA, HK1, HO_3, HB⟩ := hrel
    cases gk with
    | zero => exact absurd HA.out (by simp [laws_toIntS.l0])
    | succ k1 =>
     have H := HA.out
     clear HA
     simp only [laws_toIntS.l0] at H
     by_cases c6 : x4_1 < (l0.length : Int)
     ·rw [if_pos c6] at H
      have c6b0 : decide (x4_1 < (l0.length : Int)) = true := decide_eq_true c6
      clear c6
      by_cases c7 : 0 ≤ x4_1
      ·rw [if_pos c7] at H
       have c7b0 : decide (0 ≤ x4_1) = true := decide_eq_true c7
       clear c7
       by_cases c8 : x4_1 < (x3_1.length : Int)
       ·rw [if_pos c8] at H
        have c8b0 : decide (x4_1 < (x3_1.length : Int)) = true := decide_eq_true c8
        clear c8
        obtain ⟨y180, hy180⟩ : ∃ y_ : List Int, y_ = (x3_1.set (x4_1 : Int).toNat (rd l0 x4_1)) := ⟨_, rfl⟩
        replace H : (laws_toIntS.l0 k1 l0 y180 (wrap64 (x4_1 + 1))) = some r := by first | (rw [hy180]; with_reducible exact H) | (have H2_ := (Option.bind_some _ _).symm.trans H; rw [hy180]; with_reducible exact H2_) | (have H2_ := (Option.bind_some _ _).symm.trans H; with_reducible exact H2_) | with_reducible exact H | (rw [hy180]; exact H) | exact H
        have Ny180 := aS_ hy180
        clear hy180
        have H' := aS_ H
        clear H
        have p179 : 0 ≤ (x4_1 : Int) := of_decide_eq_true (by assumption)
        have q179 : x4_1 < (l0.length : Int) := of_decide_eq_true (by assumption)
        obtain ⟨ad179, e179, hx179_0⟩ := Kd.at_int HR0.out x4_1 p179 q179
        cases e179
        replace hx179_0 := (HB.out.cell (World.block_lt_of_cell? w _ hx179_0)).trans hx179_0
        replace p179 := eq_true p179
        replace q179 := eq_true q179
        have p9 : 0 ≤ (x4_1 : Int) := of_decide_eq_true (by assumption)
        have q9 : (x4_1 : Int) < ((x3_1.length : Int) : Int) := of_decide_eq_true (by assumption)
        obtain ⟨go9, co9, eo9, gb9, gl9, cl9, HG9⟩ := Kd.R_form HO_3.out (by omega)
        (first | cases eo9 | (injection eo9 with ea_ en_ ec_; (first | subst ea_ | (injection ea_ with ea_; subst ea_)); subst ec_; clear en_))
        have GB9 := aS_ gb9
        have GG9 := aS_ HG9
        clear gb9 gl9 HG9
        obtain ⟨hx9_0, hf9_0⟩ := Kd.R_celln 0 HO_3.out (x4_1 : Int) p9 q9
        replace p9 := eq_true p9
        replace q9 := eq_true q9
        have HP10 := Kd.R_putg HO_3.out (x4_1 : Int) (rd l0 x4_1)
        go_wp2_with (first | ((with_reducible refine gate_store (t := 3) (p := 20) rfl ?_); refine store_event (t := 3) (p := 20) (v := ?vo_w11) (w1 := (wr.setCell ⟨go9, (x4_1 : Int).toNat, none⟩ (.int .i64 (rd l0 x4_1)))) ?hg ?ho ?hn ?hr ?_; (case ho => rfl); (case hg => rfl); (case hn => rfl); (case hr => first | (go_simp; done) | (go_simp; rfl)); intro w11 hw; have hg : wr.grownBy w11 (some go9) := (by rw [hw]; exact HP10.2); have hp_ : Kd.R (Kd.int .i64) 3 w11 w.heap.size (fun _ => True) (.slice (some ⟨go9, 0, none⟩) x3_1.length co9) y180 := (by rw [hw, Ny180.out]; exact HP10.1); clear HP10; have n0_ := aS_ (hp_); have n1_ := aS_ ((by rw [hw]; exact bS_ (HB.out) GB9.out : Below w.heap.size w w11)); clear HO_3; clear HB; have HO_3 := n0_; have HB := n1_; clear n0_ n1_; clear hg hw hp_))
        go_roundg k1
        case measure => have := HK1.out; omega
        case rel => exact ⟨(y180), (wrap64 (x4_1 + 1)), (by first | rfl | (simp; done) | (simp [*]; done)), H', ⟨by have := HK1.out; omega⟩, ⟨by (with_reducible repeat (first | apply rA_ | apply rN_ | apply rD_)); exact HO_3.out⟩, ⟨by repeat (first | (with_reducible first | exact HB.out | apply bA_ | apply pN_ | apply bD_) | exact HB.out)⟩⟩
       ·rw [if_neg c8] at H
        exact absurd H (by simp)
      ·rw [if_neg c7] at H
       exact absurd H (by simp)
     ·rw [if_neg c6] at H
      have c6b0 : decide (x4_1 < (l0.length : Int)) = false := decide_eq_false c6
      clear c6
      obtain rfl := Option.some.inj H
      go_wp2
      go_ret
      exact ⟨_, by first | rfl | (simp [errW_none, errW_some] <;> rfl) | (simp [*, errW_none, errW_some] <;> rfl), by (with_reducible repeat (first | apply rA_ | apply rN_ | apply rD_)); exact HO_3.out, by repeat (first | (with_reducible first | exact HB.out | apply bA_ | apply pN_ | apply bD_) | exact HB.out)⟩
  ·rw [if_neg c3] at H
   exact absurd H (by simp)
 ·rw [if_neg c2] at H
  exact absurd H (by simp)
/-! ### laws_eqIntS: function 8 -/
def laws_eqIntS.l0 : Nat → List Int → List Int → Int → Option (Bool)
 | 0, _, _, _ => none
 | k + 1, x0, x1, x5 => if x5 < (x0.length : Int) then (if 0 ≤ x5 then (if x5 < (x1.length : Int) then (if (rd x0 x5) = (rd x1 x5) then (laws_eqIntS.l0 k x0 x1 (wrap64 (x5 + 1))) else (some false)) else (none)) else (none)) else (some true)
def laws_eqIntS.f (k : Nat) (l0 : List Int) (l1 : List Int) : Option (Bool) := if (l0.length : Int) = (l1.length : Int) then (laws_eqIntS.l0 k l0 l1 0) else (some false)
theorem laws_eqIntS.mono_l : ∀ k, (∀ y0 y1 y2, LeO (laws_eqIntS.l0 k y0 y1 y2) (laws_eqIntS.l0 (k + 1) y0 y1 y2))
 | 0 => fun _ _ _ r h => by simp [laws_eqIntS.l0] at h
 | k + 1 => by
  have ih0 := laws_eqIntS.mono_l k
  ·intro y0 y1 y2
   unfold laws_eqIntS.l0
   repeat' first
   | (with_reducible exact ih0 _ _ _)
   | (with_reducible exact LeO.refl _)
   | (with_reducible exact LeO.none _)
   | (with_reducible refine LeO.ite ?_ ?_)
   | (with_reducible refine LeO.bind ?_ (fun _ => ?_))
   | exact ih0 _ _ _
   | exact LeO.none _
   | refine LeO.ite ?_ ?_
   | refine LeO.bind ?_ (fun _ => ?_)
theorem laws_eqIntS.mono : ∀ a0 a1 k, LeO (laws_eqIntS.f k a0 a1) (laws_eqIntS.f (k + 1) a0 a1) := by
 intro a0 a1 k
 have ih0 := laws_eqIntS.mono_l k
 unfold laws_eqIntS.f
 repeat' first
   | (with_reducible exact ih0 _ _ _)
   | (with_reducible exact LeO.refl _)
   | (with_reducible exact LeO.none _)
   | (with_reducible refine LeO.ite ?_ ?_)
   | (with_reducible refine LeO.bind ?_ (fun _ => ?_))
   | exact ih0 _ _ _
   | exact LeO.none _
   | refine LeO.ite ?_ ?_
   | refine LeO.bind ?_ (fun _ => ?_)
set_option maxHeartbeats 8000000 in
set_option maxRecDepth 100000 in
theorem laws_eqIntS.calls (k : Nat) (A0 : Option Addr) (c0 : Nat) (l0 : List Int) (A1 : Option Addr) (c1 : Nat) (l1 : List Int) (r : Bool) (w : World) (hr0 : Kd.C (Kd.int .i64) w A0 l0.length l0) (hc0 : l0.length ≤ c0) (hr1 : Kd.C (Kd.int .i64) w A1 l1.length l1) (hc1 : l1.length ≤ c1) (h : laws_eqIntS.f k l0 l1 = some r) :
  Calls Try.prog 8 #[.slice A0 l0.length c0, .slice A1 l1.length c1] w fun e w' => e = .returned (.bool r) ∧ Drawn0 w w' := by
 have HR0 := aS_ hr0
 have HC0 := aS_ hc0
 clear hr0 hc0
 have HR1 := aS_ hr1
 have HC1 := aS_ hc1
 clear hr1 hc1
 have H : (if (l0.length : Int) = (l1.length : Int) then (laws_eqIntS.l0 k l0 l1 0) else (some false)) = some r := h
 clear h
 by_cases c3 : (l0.length : Int) = (l1.length : Int)
 ·rw [if_pos c3] at H
  have c3b0 : ((l0.length : Int) == (l1.length : Int)) = true := beq_iff_eq.mpr c3
  have c3b1 : ((l0.length : Int) != (l1.length : Int)) = false := bne_eq_false_iff_eq.mpr c3
  have c3b2 : (l0.length == l1.length) = true := by first | simpa using c3 | (simp at c3 ⊢; omega)
  clear c3
  have H' := aS_ H
  clear H
  go_enter Try.func8, Try.ntmps8
  go_wp2
  repeat (go_quiet (fail); try go_wp2)
  go_loopg [5] k (fun kq v5 w' => ∃ (x5_1 : Int), v5 = .int .i64 x5_1 ∧ Aside0 (laws_eqIntS.l0 kq l0 l1 x5_1 = some r) ∧ Aside0 (kq ≤ k) ∧ Drawn0 w w')
  case atStart => exact ⟨(0), (by first | rfl | (simp; done) | (simp [*]; done)), H', ⟨Nat.le_refl _⟩, by repeat (first | exact Drawn0.refl _ | apply Drawn0.step)⟩
  case round =>
   clear H'
   try clear c1
   try clear p2
   try clear c3
   try clear c3b0
   try clear c3b1
   try clear c3b2
   obtain ⟨x5_1, rfl, HA, HK1, ⟨m1, rfl⟩⟩ := hrel
   cases gk with
   | zero => exact absurd HA.out (by simp [laws_eqIntS.l0])
   | succ k1 =>
    have H := HA.out
    clear HA
    simp only [laws_eqIntS.l0] at H
    by_cases c4 : x5_1 < (l0.length : Int)
    ·rw [if_pos c4] at H
     have c4b0 : decide (x5_1 < (l0.length : Int)) = true := decide_eq_true c4
     clear c4
     by_cases c5 : 0 ≤ x5_1
     ·rw [if_pos c5] at H
      have c5b0 : decide (0 ≤ x5_1) = true := decide_eq_true c5
      clear c5
      by_cases c6 : x5_1 < (l1.length : Int)
      ·rw [if_pos c6] at H
       have c6b0 : decide (x5_1 < (l1.length : Int)) = true := decide_eq_true c6
       clear c6
       by_cases c7 : (rd l0 x5_1) = (rd l1 x5_1)
       ·rw [if_pos c7] at H
        have c7b0 : ((rd l0 x5_1) == (rd l1 x5_1)) = true := beq_iff_eq.mpr c7
        have c7b1 : ((rd l0 x5_1) != (rd l1 x5_1)) = false := bne_eq_false_iff_eq.mpr c7
        clear c7
        have H' := aS_ H
        clear H
        have p181 : 0 ≤ (x5_1 : Int) := of_decide_eq_true (by assumption)
        have q181 : x5_1 < (l0.length : Int) := of_decide_eq_true (by assumption)
        obtain ⟨ad181, e181, hx181_0⟩ := Kd.at_int HR0.out x5_1 p181 q181
        cases e181
        replace p181 := eq_true p181
        replace q181 := eq_true q181
        have p182 : 0 ≤ (x5_1 : Int) := of_decide_eq_true (by assumption)
        have q182 : x5_1 < (l1.length : Int) := of_decide_eq_true (by assumption)
        obtain ⟨ad182, e182, hx182_0⟩ := Kd.at_int HR1.out x5_1 p182 q182
        cases e182
        replace p182 := eq_true p182
        replace q182 := eq_true q182
        go_wp2
        repeat (go_quiet (fail); try go_wp2)
        go_roundg k1
        case measure => have := HK1.out; omega
        case rel => exact ⟨(wrap64 (x5_1 + 1)), (by first | rfl | (simp; done) | (simp [*]; done)), H', ⟨by have := HK1.out; omega⟩, by repeat (first | exact Drawn0.refl _ | apply Drawn0.step)⟩
       ·rw [if_neg c7] at H
        have c7b0 : ((rd l0 x5_1) == (rd l1 x5_1)) = false := beq_eq_false_iff_ne.mpr c7
        have c7b1 : ((rd l0 x5_1) != (rd l1 x5_1)) = true := bne_iff_ne.mpr c7
        obtain rfl := Option.some.inj H
        have p181 : 0 ≤ (x5_1 : Int) := of_decide_eq_true (by assumption)
        have q181 : x5_1 < (l0.length : Int) := of_decide_eq_true (by assumption)
        obtain ⟨ad181, e181, hx181_0⟩ := Kd.at_int HR0.out x5_1 p181 q181
        cases e181
        replace p181 := eq_true p181
        replace q181 := eq_true q181
        have p182 : 0 ≤ (x5_1 : Int) := of_decide_eq_true (by assumption)
        have q182 : x5_1 < (l1.length : Int) := of_decide_eq_true (by assumption)
        obtain ⟨ad182, e182, hx182_0⟩ := Kd.at_int HR1.out x5_1 p182 q182
        cases e182
        replace p182 := eq_true p182
        replace q182 := eq_true q182
        go_wp2
        repeat (go_quiet (fail); try go_wp2)
        go_ret
        exact ⟨by first | rfl | (simp; done) | (simp [*]; done), by repeat (first | exact Drawn0.refl _ | apply Drawn0.step)⟩
      ·rw [if_neg c6] at H
       exact absurd H (by simp)
     ·rw [if_neg c5] at H
      exact absurd H (by simp)
    ·rw [if_neg c4] at H
     have c4b0 : decide (x5_1 < (l0.length : Int)) = false := decide_eq_false c4
     clear c4
     obtain rfl := Option.some.inj H
     go_wp2
     repeat (go_quiet (fail); try go_wp2)
     go_ret
     exact ⟨by first | rfl | (simp; done) | (simp [*]; done), by repeat (first | exact Drawn0.refl _ | apply Drawn0.step)⟩
 ·rw [if_neg c3] at H
  have c3b0 : ((l0.length : Int) == (l1.length : Int)) = false := beq_eq_false_iff_ne.mpr c3
  have c3b1 : ((l0.length : Int) != (l1.length : Int)) = true := bne_iff_ne.mpr c3
  have c3b2 : (l0.length == l1.length) = false := by first | simpa using c3 | (simp at c3 ⊢; omega)
  obtain rfl := Option.some.inj H
  go_enter Try.func8, Try.ntmps8
  go_wp2
  repeat (go_quiet (fail); try go_wp2)
  go_ret
  exact ⟨by first | rfl | (simp; done) | (simp [*]; done), by repeat (first | exact Drawn0.refl _ | apply Drawn0.step)⟩
/-! ### laws_eqRegion: function 7 -/
def laws_eqRegion.f (k : Nat) (l0_0 : List Int) (l0_1 : List Int) (l1_0 : List Int) (l1_1 : List Int) : Option (Bool) := (laws_eqIntS.f k l0_0 l1_0).bind fun t185 => (if t185 = true then ((laws_eqIntS.f k l0_1 l1_1).bind fun t186 => (if t186 = true then (some true) else (some false))) else (some false))
theorem laws_eqRegion.mono : ∀ a0 a1 a2 a3 k, LeO (laws_eqRegion.f k a0 a1 a2 a3) (laws_eqRegion.f (k + 1) a0 a1 a2 a3) := by
 intro a0 a1 a2 a3 k
 unfold laws_eqRegion.f
 repeat' first
   | (with_reducible exact laws_eqIntS.mono _ _ _)
   | (with_reducible exact LeO.refl _)
   | (with_reducible exact LeO.none _)
   | (with_reducible refine LeO.ite ?_ ?_)
   | (with_reducible refine LeO.bind ?_ (fun _ => ?_))
   | exact laws_eqIntS.mono _ _ _
   | exact LeO.none _
   | refine LeO.ite ?_ ?_
   | refine LeO.bind ?_ (fun _ => ?_)
set_option maxHeartbeats 8000000 in
set_option maxRecDepth 100000 in
theorem laws_eqRegion.calls (k : Nat) (A0_0 : Option Addr) (c0_0 : Nat) (l0_0 : List Int) (A0_1 : Option Addr) (c0_1 : Nat) (l0_1 : List Int) (A1_0 : Option Addr) (c1_0 : Nat) (l1_0 : List Int) (A1_1 : Option Addr) (c1_1 : Nat) (l1_1 : List Int) (r : Bool) (w : World) (hr0_0 : Kd.C (Kd.int .i64) w A0_0 l0_0.length l0_0) (hc0_0 : l0_0.length ≤ c0_0) (hr0_1 : Kd.C (Kd.int .i64) w A0_1 l0_1.length l0_1) (hc0_1 : l0_1.length ≤ c0_1) (hr1_0 : Kd.C (Kd.int .i64) w A1_0 l1_0.length l1_0) (hc1_0 : l1_0.length ≤ c1_0) (hr1_1 : Kd.C (Kd.int .i64) w A1_1 l1_1.length l1_1) (hc1_1 : l1_1.length ≤ c1_1) (h : laws_eqRegion.f k l0_0 l0_1 l1_0 l1_1 = some r) :
  Calls Try.prog 7 #[.agg #[.slice A0_0 l0_0.length c0_0, .slice A0_1 l0_1.length c0_1], .agg #[.slice A1_0 l1_0.length c1_0, .slice A1_1 l1_1.length c1_1]] w fun e w' => e = .returned (.bool r) ∧ Below w.heap.size w w' := by
 have hu24 := Try.underlying24
 have HR0_0 := aS_ hr0_0
 have HC0_0 := aS_ hc0_0
 clear hr0_0 hc0_0
 have HR0_1 := aS_ hr0_1
 have HC0_1 := aS_ hc0_1
 clear hr0_1 hc0_1
 have HR1_0 := aS_ hr1_0
 have HC1_0 := aS_ hc1_0
 clear hr1_0 hc1_0
 have HR1_1 := aS_ hr1_1
 have HC1_1 := aS_ hc1_1
 clear hr1_1 hc1_1
 have HB := aS_ (Below.refl w.heap.size w)
 have H : ((laws_eqIntS.f k l0_0 l1_0).bind fun t185 => (if t185 = true then ((laws_eqIntS.f k l0_1 l1_1).bind fun t186 => (if t186 = true then (some true) else (some false))) else (some false))) = some r := h
 clear h
 replace H := Option.bind_eq_some_iff.mp H
 obtain ⟨t185, A30, H⟩ := H
 have A3 := aS_ A30
 clear A30
 by_cases c4 : t185 = true
 ·subst c4
  rw [if_pos rfl] at H
  replace H := Option.bind_eq_some_iff.mp H
  obtain ⟨t186, A50, H⟩ := H
  have A5 := aS_ A50
  clear A50
  by_cases c6 : t186 = true
  ·subst c6
   rw [if_pos rfl] at H
   obtain rfl := Option.some.inj H
   go_enter Try.func7, Try.ntmps7
   go_wp2_with (first | ((with_reducible refine gate_dst (N := 2) rfl ?_); refine box_event ?hg (N := 2) ?hd (cs := #[.slice A0_0 l0_0.length c0_0, .slice A0_1 l0_1.length c0_1]) (t := 24) ?hr ?_; (case hd => rfl); (case hg => rfl); (case hr => first | (go_simp; done) | (go_simp; rfl)); intro gb183 hg w7 hbox hb; have n0_ := aS_ (below_step (by repeat (first | (with_reducible first | exact HB.out | apply bA_ | apply pN_ | apply bD_) | exact HB.out)) hb); have n1_ := aS_ (hbox); have n2_ := aS_ ((by rw [hg]; exact (below_size (by repeat (first | (with_reducible first | exact HB.out | apply bA_ | apply pN_ | apply bD_) | exact HB.out))) : w.heap.size ≤ gb183)); have n3_ := aS_ ((by rw [hg]; exact (below_size (by repeat (first | (with_reducible first | exact HB.out | apply bA_ | apply pN_ | apply bD_) | exact HB.out))) : w.heap.size ≤ gb183)); clear HB; have HB := n0_; have BK183 := n1_; have GW183 := n2_; have GE183 := n3_; clear n0_ n1_ n2_ n3_; clear hb hbox hg) | ((with_reducible refine gate_dst (N := 3) rfl ?_); refine box_event ?hg (N := 3) ?hd (cs := #[.slice A1_0 l1_0.length c1_0, .slice A1_1 l1_1.length c1_1]) (t := 24) ?hr ?_; (case hd => rfl); (case hg => rfl); (case hr => first | (go_simp; done) | (go_simp; rfl)); intro gb184 hg w8 hbox hb; have n0_ := aS_ (blk_below (g := gb183) (o := .cells #[.slice A0_0 l0_0.length c0_0, .slice A0_1 l0_1.length c0_1] 24 (0, 0)) (by (with_reducible repeat (first | refine kN_ ?_ _ | refine kD_ ?_ | refine kA_ ?_ _)); exact BK183.out) hb); have n1_ := aS_ (below_step (by repeat (first | (with_reducible first | exact HB.out | apply bA_ | apply pN_ | apply bD_ | refine bS_ ?_ GE183.out) | exact HB.out)) hb); have n2_ := aS_ (hbox); have n3_ := aS_ ((by rw [hg]; exact (below_size (by repeat (first | (with_reducible first | exact HB.out | apply bA_ | apply pN_ | apply bD_ | refine bS_ ?_ GE183.out) | exact HB.out))) : w.heap.size ≤ gb184)); have n4_ := aS_ ((by rw [hg]; exact (below_size (by repeat (first | (with_reducible first | exact HB.out | apply bA_ | apply pN_ | apply bD_ | refine bS_ ?_ GE183.out) | exact HB.out))) : w.heap.size ≤ gb184)); have n5_ := aS_ ((by rw [hg]; exact Nat.ne_of_lt (blk_lt (g := gb183) (o := .cells #[.slice A0_0 l0_0.length c0_0, .slice A0_1 l0_1.length c0_1] 24 (0, 0)) (by (with_reducible repeat (first | refine kN_ ?_ _ | refine kD_ ?_ | refine kA_ ?_ _)); exact BK183.out)) : gb183 ≠ gb184)); have n6_ := aS_ ((by rw [hg]; exact Nat.ne_of_gt (blk_lt (g := gb183) (o := .cells #[.slice A0_0 l0_0.length c0_0, .slice A0_1 l0_1.length c0_1] 24 (0, 0)) (by (with_reducible repeat (first | refine kN_ ?_ _ | refine kD_ ?_ | refine kA_ ?_ _)); exact BK183.out)) : gb184 ≠ gb183)); clear BK183; clear HB; have BK183 := n0_; have HB := n1_; have BK184 := n2_; have GW184 := n3_; have GE184 := n4_; have NB183_184 := n5_; have NB184_183 := n6_; clear n0_ n1_ n2_ n3_ n4_ n5_ n6_; clear hb hbox hg; have hnb9 := NB183_184.out; have hnc9 := NB184_183.out; have hcz10_0 : w8.cell? ⟨gb183, 0, none⟩ = some (.slice A0_0 l0_0.length c0_0) := (blk_cell BK183.out 0).trans rfl; have hcz10_1 : w8.cell? ⟨gb183, 1, none⟩ = some (.slice A0_1 l0_1.length c0_1) := (blk_cell BK183.out 1).trans rfl; have hfz10_0 := blk_frozen BK183.out 0; have hfz10_1 := blk_frozen BK183.out 1; have hcz11_0 : w8.cell? ⟨gb184, 0, none⟩ = some (.slice A1_0 l1_0.length c1_0) := (blk_cell BK184.out 0).trans rfl; have hcz11_1 : w8.cell? ⟨gb184, 1, none⟩ = some (.slice A1_1 l1_1.length c1_1) := (blk_cell BK184.out 1).trans rfl; have hfz11_0 := blk_frozen BK184.out 0; have hfz11_1 := blk_frozen BK184.out 1) | ((with_reducible refine gate_callee (f := 8) rfl ?_); refine goesL_ (some 9) rfl rfl Try.func8 (by kernel_rfl) rfl #[.slice A0_0 l0_0.length c0_0, .slice A1_0 l1_0.length c1_0] rfl (by (try simp only [List.map_toArray, List.map_cons, List.map_nil]); first | done | rfl | (simp only [List.length_drop, List.length_take]; rfl)) ?_; (with_reducible refine (laws_eqIntS.calls k _ _ l0_0 _ _ l1_0 true _ ?side1 ?side2 ?side3 ?side4 A3.out).mono ?_); (case side1 => repeat (first | exact (Kd.C_below HR0_0.out HB.out) | (with_reducible refine Kd.C_alloc ?_ _) | (with_reducible refine Kd.C_drewN ?_ _) | (with_reducible refine Kd.C_drew ?_))); (case side2 => exact HC0_0.out); (case side3 => repeat (first | exact (Kd.C_below HR1_0.out HB.out) | (with_reducible refine Kd.C_alloc ?_ _) | (with_reducible refine Kd.C_drewN ?_ _) | (with_reducible refine Kd.C_drew ?_))); (case side4 => exact HC1_0.out); rintro e w' ⟨rfl, ⟨nd, rfl⟩⟩; refine ⟨_, rfl, ?_⟩) | ((with_reducible refine gate_callee (f := 8) rfl ?_); refine goesL_ (some 15) rfl rfl Try.func8 (by kernel_rfl) rfl #[.slice A0_1 l0_1.length c0_1, .slice A1_1 l1_1.length c1_1] rfl (by (try simp only [List.map_toArray, List.map_cons, List.map_nil]); first | done | rfl | (simp only [List.length_drop, List.length_take]; rfl)) ?_; (with_reducible refine (laws_eqIntS.calls k _ _ l0_1 _ _ l1_1 true _ ?side1 ?side2 ?side3 ?side4 A5.out).mono ?_); (case side1 => repeat (first | exact (Kd.C_below HR0_1.out (by repeat (first | (with_reducible first | exact HB.out | apply bA_ | apply pN_ | apply bD_ | refine bS_ ?_ GE183.out | refine bS_ ?_ GE184.out) | exact HB.out))) | (with_reducible refine Kd.C_alloc ?_ _) | (with_reducible refine Kd.C_drewN ?_ _) | (with_reducible refine Kd.C_drew ?_))); (case side2 => exact HC0_1.out); (case side3 => repeat (first | exact (Kd.C_below HR1_1.out (by repeat (first | (with_reducible first | exact HB.out | apply bA_ | apply pN_ | apply bD_ | refine bS_ ?_ GE183.out | refine bS_ ?_ GE184.out) | exact HB.out))) | (with_reducible refine Kd.C_alloc ?_ _) | (with_reducible refine Kd.C_drewN ?_ _) | (with_reducible refine Kd.C_drew ?_))); (case side4 => exact HC1_1.out); rintro e w' ⟨rfl, ⟨nd, rfl⟩⟩; refine ⟨_, rfl, ?_⟩))
   go_ret
   exact ⟨by first | rfl | (simp [errW_none, errW_some] <;> rfl) | (simp [*, errW_none, errW_some] <;> rfl), by repeat (first | (with_reducible first | exact HB.out | apply bA_ | apply pN_ | apply bD_ | refine bS_ ?_ GE183.out | refine bS_ ?_ GE184.out) | exact HB.out)⟩
  ·replace c6 := Bool.eq_false_iff.mpr c6
   subst c6
   rw [if_neg (show ¬ (false = true) by decide)] at H
   obtain rfl := Option.some.inj H
   go_enter Try.func7, Try.ntmps7
   go_wp2_with (first | ((with_reducible refine gate_dst (N := 2) rfl ?_); refine box_event ?hg (N := 2) ?hd (cs := #[.slice A0_0 l0_0.length c0_0, .slice A0_1 l0_1.length c0_1]) (t := 24) ?hr ?_; (case hd => rfl); (case hg => rfl); (case hr => first | (go_simp; done) | (go_simp; rfl)); intro gb183 hg w12 hbox hb; have n0_ := aS_ (below_step (by repeat (first | (with_reducible first | exact HB.out | apply bA_ | apply pN_ | apply bD_) | exact HB.out)) hb); have n1_ := aS_ (hbox); have n2_ := aS_ ((by rw [hg]; exact (below_size (by repeat (first | (with_reducible first | exact HB.out | apply bA_ | apply pN_ | apply bD_) | exact HB.out))) : w.heap.size ≤ gb183)); have n3_ := aS_ ((by rw [hg]; exact (below_size (by repeat (first | (with_reducible first | exact HB.out | apply bA_ | apply pN_ | apply bD_) | exact HB.out))) : w.heap.size ≤ gb183)); clear HB; have HB := n0_; have BK183 := n1_; have GW183 := n2_; have GE183 := n3_; clear n0_ n1_ n2_ n3_; clear hb hbox hg) | ((with_reducible refine gate_dst (N := 3) rfl ?_); refine box_event ?hg (N := 3) ?hd (cs := #[.slice A1_0 l1_0.length c1_0, .slice A1_1 l1_1.length c1_1]) (t := 24) ?hr ?_; (case hd => rfl); (case hg => rfl); (case hr => first | (go_simp; done) | (go_simp; rfl)); intro gb184 hg w13 hbox hb; have n0_ := aS_ (blk_below (g := gb183) (o := .cells #[.slice A0_0 l0_0.length c0_0, .slice A0_1 l0_1.length c0_1] 24 (0, 0)) (by (with_reducible repeat (first | refine kN_ ?_ _ | refine kD_ ?_ | refine kA_ ?_ _)); exact BK183.out) hb); have n1_ := aS_ (below_step (by repeat (first | (with_reducible first | exact HB.out | apply bA_ | apply pN_ | apply bD_ | refine bS_ ?_ GE183.out) | exact HB.out)) hb); have n2_ := aS_ (hbox); have n3_ := aS_ ((by rw [hg]; exact (below_size (by repeat (first | (with_reducible first | exact HB.out | apply bA_ | apply pN_ | apply bD_ | refine bS_ ?_ GE183.out) | exact HB.out))) : w.heap.size ≤ gb184)); have n4_ := aS_ ((by rw [hg]; exact (below_size (by repeat (first | (with_reducible first | exact HB.out | apply bA_ | apply pN_ | apply bD_ | refine bS_ ?_ GE183.out) | exact HB.out))) : w.heap.size ≤ gb184)); have n5_ := aS_ ((by rw [hg]; exact Nat.ne_of_lt (blk_lt (g := gb183) (o := .cells #[.slice A0_0 l0_0.length c0_0, .slice A0_1 l0_1.length c0_1] 24 (0, 0)) (by (with_reducible repeat (first | refine kN_ ?_ _ | refine kD_ ?_ | refine kA_ ?_ _)); exact BK183.out)) : gb183 ≠ gb184)); have n6_ := aS_ ((by rw [hg]; exact Nat.ne_of_gt (blk_lt (g := gb183) (o := .cells #[.slice A0_0 l0_0.length c0_0, .slice A0_1 l0_1.length c0_1] 24 (0, 0)) (by (with_reducible repeat (first | refine kN_ ?_ _ | refine kD_ ?_ | refine kA_ ?_ _)); exact BK183.out)) : gb184 ≠ gb183)); clear BK183; clear HB; have BK183 := n0_; have HB := n1_; have BK184 := n2_; have GW184 := n3_; have GE184 := n4_; have NB183_184 := n5_; have NB184_183 := n6_; clear n0_ n1_ n2_ n3_ n4_ n5_ n6_; clear hb hbox hg; have hnb14 := NB183_184.out; have hnc14 := NB184_183.out; have hcz15_0 : w13.cell? ⟨gb183, 0, none⟩ = some (.slice A0_0 l0_0.length c0_0) := (blk_cell BK183.out 0).trans rfl; have hcz15_1 : w13.cell? ⟨gb183, 1, none⟩ = some (.slice A0_1 l0_1.length c0_1) := (blk_cell BK183.out 1).trans rfl; have hfz15_0 := blk_frozen BK183.out 0; have hfz15_1 := blk_frozen BK183.out 1; have hcz16_0 : w13.cell? ⟨gb184, 0, none⟩ = some (.slice A1_0 l1_0.length c1_0) := (blk_cell BK184.out 0).trans rfl; have hcz16_1 : w13.cell? ⟨gb184, 1, none⟩ = some (.slice A1_1 l1_1.length c1_1) := (blk_cell BK184.out 1).trans rfl; have hfz16_0 := blk_frozen BK184.out 0; have hfz16_1 := blk_frozen BK184.out 1) | ((with_reducible refine gate_callee (f := 8) rfl ?_); refine goesL_ (some 9) rfl rfl Try.func8 (by kernel_rfl) rfl #[.slice A0_0 l0_0.length c0_0, .slice A1_0 l1_0.length c1_0] rfl (by (try simp only [List.map_toArray, List.map_cons, List.map_nil]); first | done | rfl | (simp only [List.length_drop, List.length_take]; rfl)) ?_; (with_reducible refine (laws_eqIntS.calls k _ _ l0_0 _ _ l1_0 true _ ?side1 ?side2 ?side3 ?side4 A3.out).mono ?_); (case side1 => repeat (first | exact (Kd.C_below HR0_0.out HB.out) | (with_reducible refine Kd.C_alloc ?_ _) | (with_reducible refine Kd.C_drewN ?_ _) | (with_reducible refine Kd.C_drew ?_))); (case side2 => exact HC0_0.out); (case side3 => repeat (first | exact (Kd.C_below HR1_0.out HB.out) | (with_reducible refine Kd.C_alloc ?_ _) | (with_reducible refine Kd.C_drewN ?_ _) | (with_reducible refine Kd.C_drew ?_))); (case side4 => exact HC1_0.out); rintro e w' ⟨rfl, ⟨nd, rfl⟩⟩; refine ⟨_, rfl, ?_⟩) | ((with_reducible refine gate_callee (f := 8) rfl ?_); refine goesL_ (some 15) rfl rfl Try.func8 (by kernel_rfl) rfl #[.slice A0_1 l0_1.length c0_1, .slice A1_1 l1_1.length c1_1] rfl (by (try simp only [List.map_toArray, List.map_cons, List.map_nil]); first | done | rfl | (simp only [List.length_drop, List.length_take]; rfl)) ?_; (with_reducible refine (laws_eqIntS.calls k _ _ l0_1 _ _ l1_1 false _ ?side1 ?side2 ?side3 ?side4 A5.out).mono ?_); (case side1 => repeat (first | exact (Kd.C_below HR0_1.out (by repeat (first | (with_reducible first | exact HB.out | apply bA_ | apply pN_ | apply bD_ | refine bS_ ?_ GE183.out | refine bS_ ?_ GE184.out) | exact HB.out))) | (with_reducible refine Kd.C_alloc ?_ _) | (with_reducible refine Kd.C_drewN ?_ _) | (with_reducible refine Kd.C_drew ?_))); (case side2 => exact HC0_1.out); (case side3 => repeat (first | exact (Kd.C_below HR1_1.out (by repeat (first | (with_reducible first | exact HB.out | apply bA_ | apply pN_ | apply bD_ | refine bS_ ?_ GE183.out | refine bS_ ?_ GE184.out) | exact HB.out))) | (with_reducible refine Kd.C_alloc ?_ _) | (with_reducible refine Kd.C_drewN ?_ _) | (with_reducible refine Kd.C_drew ?_))); (case side4 => exact HC1_1.out); rintro e w' ⟨rfl, ⟨nd, rfl⟩⟩; refine ⟨_, rfl, ?_⟩))
   go_ret
   exact ⟨by first | rfl | (simp [errW_none, errW_some] <;> rfl) | (simp [*, errW_none, errW_some] <;> rfl), by repeat (first | (with_reducible first | exact HB.out | apply bA_ | apply pN_ | apply bD_ | refine bS_ ?_ GE183.out | refine bS_ ?_ GE184.out) | exact HB.out)⟩
 ·replace c4 := Bool.eq_false_iff.mpr c4
  subst c4
  rw [if_neg (show ¬ (false = true) by decide)] at H
  obtain rfl := Option.some.inj H
  go_enter Try.func7, Try.ntmps7
  go_wp2_with (first | ((with_reducible refine gate_dst (N := 2) rfl ?_); refine box_event ?hg (N := 2) ?hd (cs := #[.slice A0_0 l0_0.length c0_0, .slice A0_1 l0_1.length c0_1]) (t := 24) ?hr ?_; (case hd => rfl); (case hg => rfl); (case hr => first | (go_simp; done) | (go_simp; rfl)); intro gb183 hg w17 hbox hb; have n0_ := aS_ (below_step (by repeat (first | (with_reducible first | exact HB.out | apply bA_ | apply pN_ | apply bD_) | exact HB.out)) hb); have n1_ := aS_ (hbox); have n2_ := aS_ ((by rw [hg]; exact (below_size (by repeat (first | (with_reducible first | exact HB.out | apply bA_ | apply pN_ | apply bD_) | exact HB.out))) : w.heap.size ≤ gb183)); have n3_ := aS_ ((by rw [hg]; exact (below_size (by repeat (first | (with_reducible first | exact HB.out | apply bA_ | apply pN_ | apply bD_) | exact HB.out))) : w.heap.size ≤ gb183)); clear HB; have HB := n0_; have BK183 := n1_; have GW183 := n2_; have GE183 := n3_; clear n0_ n1_ n2_ n3_; clear hb hbox hg) | ((with_reducible refine gate_dst (N := 3) rfl ?_); refine box_event ?hg (N := 3) ?hd (cs := #[.slice A1_0 l1_0.length c1_0, .slice A1_1 l1_1.length c1_1]) (t := 24) ?hr ?_; (case hd => rfl); (case hg => rfl); (case hr => first | (go_simp; done) | (go_simp; rfl)); intro gb184 hg w18 hbox hb; have n0_ := aS_ (blk_below (g := gb183) (o := .cells #[.slice A0_0 l0_0.length c0_0, .slice A0_1 l0_1.length c0_1] 24 (0, 0)) (by (with_reducible repeat (first | refine kN_ ?_ _ | refine kD_ ?_ | refine kA_ ?_ _)); exact BK183.out) hb); have n1_ := aS_ (below_step (by repeat (first | (with_reducible first | exact HB.out | apply bA_ | apply pN_ | apply bD_ | refine bS_ ?_ GE183.out) | exact HB.out)) hb); have n2_ := aS_ (hbox); have n3_ := aS_ ((by rw [hg]; exact (below_size (by repeat (first | (with_reducible first | exact HB.out | apply bA_ | apply pN_ | apply bD_ | refine bS_ ?_ GE183.out) | exact HB.out))) : w.heap.size ≤ gb184)); have n4_ := aS_ ((by rw [hg]; exact (below_size (by repeat (first | (with_reducible first | exact HB.out | apply bA_ | apply pN_ | apply bD_ | refine bS_ ?_ GE183.out) | exact HB.out))) : w.heap.size ≤ gb184)); have n5_ := aS_ ((by rw [hg]; exact Nat.ne_of_lt (blk_lt (g := gb183) (o := .cells #[.slice A0_0 l0_0.length c0_0, .slice A0_1 l0_1.length c0_1] 24 (0, 0)) (by (with_reducible repeat (first | refine kN_ ?_ _ | refine kD_ ?_ | refine kA_ ?_ _)); exact BK183.out)) : gb183 ≠ gb184)); have n6_ := aS_ ((by rw [hg]; exact Nat.ne_of_gt (blk_lt (g := gb183) (o := .cells #[.slice A0_0 l0_0.length c0_0, .slice A0_1 l0_1.length c0_1] 24 (0, 0)) (by (with_reducible repeat (first | refine kN_ ?_ _ | refine kD_ ?_ | refine kA_ ?_ _)); exact BK183.out)) : gb184 ≠ gb183)); clear BK183; clear HB; have BK183 := n0_; have HB := n1_; have BK184 := n2_; have GW184 := n3_; have GE184 := n4_; have NB183_184 := n5_; have NB184_183 := n6_; clear n0_ n1_ n2_ n3_ n4_ n5_ n6_; clear hb hbox hg; have hnb19 := NB183_184.out; have hnc19 := NB184_183.out; have hcz20_0 : w18.cell? ⟨gb183, 0, none⟩ = some (.slice A0_0 l0_0.length c0_0) := (blk_cell BK183.out 0).trans rfl; have hcz20_1 : w18.cell? ⟨gb183, 1, none⟩ = some (.slice A0_1 l0_1.length c0_1) := (blk_cell BK183.out 1).trans rfl; have hfz20_0 := blk_frozen BK183.out 0; have hfz20_1 := blk_frozen BK183.out 1; have hcz21_0 : w18.cell? ⟨gb184, 0, none⟩ = some (.slice A1_0 l1_0.length c1_0) := (blk_cell BK184.out 0).trans rfl; have hcz21_1 : w18.cell? ⟨gb184, 1, none⟩ = some (.slice A1_1 l1_1.length c1_1) := (blk_cell BK184.out 1).trans rfl; have hfz21_0 := blk_frozen BK184.out 0; have hfz21_1 := blk_frozen BK184.out 1) | ((with_reducible refine gate_callee (f := 8) rfl ?_); refine goesL_ (some 9) rfl rfl Try.func8 (by kernel_rfl) rfl #[.slice A0_0 l0_0.length c0_0, .slice A1_0 l1_0.length c1_0] rfl (by (try simp only [List.map_toArray, List.map_cons, List.map_nil]); first | done | rfl | (simp only [List.length_drop, List.length_take]; rfl)) ?_; (with_reducible refine (laws_eqIntS.calls k _ _ l0_0 _ _ l1_0 false _ ?side1 ?side2 ?side3 ?side4 A3.out).mono ?_); (case side1 => repeat (first | exact (Kd.C_below HR0_0.out HB.out) | (with_reducible refine Kd.C_alloc ?_ _) | (with_reducible refine Kd.C_drewN ?_ _) | (with_reducible refine Kd.C_drew ?_))); (case side2 => exact HC0_0.out); (case side3 => repeat (first | exact (Kd.C_below HR1_0.out HB.out) | (with_reducible refine Kd.C_alloc ?_ _) | (with_reducible refine Kd.C_drewN ?_ _) | (with_reducible refine Kd.C_drew ?_))); (case side4 => exact HC1_0.out); rintro e w' ⟨rfl, ⟨nd, rfl⟩⟩; refine ⟨_, rfl, ?_⟩))
  go_ret
  exact ⟨by first | rfl | (simp [errW_none, errW_some] <;> rfl) | (simp [*, errW_none, errW_some] <;> rfl), by repeat (first | (with_reducible first | exact HB.out | apply bA_ | apply pN_ | apply bD_ | refine bS_ ?_ GE183.out | refine bS_ ?_ GE184.out) | exact HB.out)⟩
/-! ### laws_markIntS: function 9 -/
def laws_markIntS.l0 : Nat → List Int → Int → Int → Option (Int × List Int)
 | 0, _, _, _ => none
 | k + 1, x0, x1, x5 => if x5 < (x0.length : Int) then (if 0 ≤ x5 then (laws_markIntS.l0 k (x0.set (x5 : Int).toNat x1) (wrap64 (x1 + 1)) (wrap64 (x5 + 1))) else (none)) else (some (x1, x0))
def laws_markIntS.f (k : Nat) (l0 : List Int) (a1 : Int) : Option (Int × List Int) := laws_markIntS.l0 k l0 a1 0
theorem laws_markIntS.mono_l : ∀ k, (∀ y0 y1 y2, LeO (laws_markIntS.l0 k y0 y1 y2) (laws_markIntS.l0 (k + 1) y0 y1 y2))
 | 0 => fun _ _ _ r h => by simp [laws_markIntS.l0] at h
 | k + 1 => by
  have ih0 := laws_markIntS.mono_l k
  ·intro y0 y1 y2
   unfold laws_markIntS.l0
   repeat' first
   | (with_reducible exact ih0 _ _ _)
   | (with_reducible exact LeO.refl _)
   | (with_reducible exact LeO.none _)
   | (with_reducible refine LeO.ite ?_ ?_)
   | (with_reducible refine LeO.bind ?_ (fun _ => ?_))
   | exact ih0 _ _ _
   | exact LeO.none _
   | refine LeO.ite ?_ ?_
   | refine LeO.bind ?_ (fun _ => ?_)
theorem laws_markIntS.mono : ∀ a0 a1 k, LeO (laws_markIntS.f k a0 a1) (laws_markIntS.f (k + 1) a0 a1) := by
 intro a0 a1 k
 have ih0 := laws_markIntS.mono_l k
 unfold laws_markIntS.f
 repeat' first
   | (with_reducible exact ih0 _ _ _)
   | (with_reducible exact LeO.refl _)
   | (with_reducible exact LeO.none _)
   | (with_reducible refine LeO.ite ?_ ?_)
   | (with_reducible refine LeO.bind ?_ (fun _ => ?_))
   | exact ih0 _ _ _
   | exact LeO.none _
   | refine LeO.ite ?_ ?_
   | refine LeO.bind ?_ (fun _ => ?_)
set_option maxHeartbeats 8000000 in
set_option maxRecDepth 100000 in
theorem laws_markIntS.calls (k : Nat) (P0_ : Nat → Prop) (u9000_ : Value) (l0 : List Int) (a1 : Int) (r1 : Int) (r2 : List Int) (w0 w : World) (hB : Below w0.heap.size w0 w) (ho0 : Kd.R (Kd.int .i64) 3 w w0.heap.size P0_ u9000_ l0) (h : laws_markIntS.f k l0 a1 = some (r1, r2)) :
  Calls Try.prog 9 #[u9000_, .int .i64 a1] w fun e w' => e = .returned (.int .i64 r1) ∧ Kd.R (Kd.int .i64) 3 w' w0.heap.size (fun k_ => (P0_ k_ ∨ w.heap.size ≤ k_)) u9000_ r2 ∧ Below w0.heap.size w0 w' ∧ Kept w w' (fun k_ => P0_ k_) := by
 have HO0 := aS_ (show Kd.R (Kd.int .i64) 3 w w0.heap.size (fun k_ => (P0_ k_ ∨ w.heap.size ≤ k_)) u9000_ l0 from Kd.R_mono ho0 (fun k_ hk => (.inl hk)))
 have HK := aS_ (Kept.refl w (fun k_ => P0_ k_))
 have HW0 := aS_ hB.size
 have HB := aS_ hB
 clear hB
 have H : (laws_markIntS.l0 k l0 a1 0) = some (r1, r2) := h
 clear h
 have H' := aS_ H
 clear H
 go_enter Try.func9, Try.ntmps9
 go_wp2
 go_loopg [1, 5] k (fun kq v1 v5 w' => ∃ (x0_1 : List Int) (x1_1 : Int) (x5_1 : Int), v1 = .int .i64 x1_1 ∧ v5 = .int .i64 x5_1 ∧ Aside0 (laws_markIntS.l0 kq x0_1 x1_1 x5_1 = some (r1, r2)) ∧ Aside0 (kq ≤ k) ∧ Aside0 (Kd.R (Kd.int .i64) 3 w' w0.heap.size (fun k_ => (P0_ k_ ∨ w.heap.size ≤ k_)) u9000_ x0_1) ∧ Aside0 (Kept w w' (fun k_ => P0_ k_)) ∧ Aside0 (Below w0.heap.size w0 w'))
 case atStart => exact ⟨(l0), (a1), (0), (by first | rfl | (simp; done) | (simp [*]; done)), (by first | rfl | (simp; done) | (simp [*]; done)), H', ⟨Nat.le_refl _⟩, ⟨by (with_reducible repeat (first | apply rA_ | apply rN_ | apply rD_)); exact HO0.out⟩, ⟨by repeat (first | (with_reducible first | exact HK.out | apply Kept.alloc | apply Kept.drewN | apply Kept.drew) | exact HK.out)⟩, ⟨by repeat (first | (with_reducible first | exact HB.out | apply bA_ | apply pN_ | apply bD_) | exact HB.out)⟩⟩
 case round =>
  clear H'
  try clear p2
  obtain ⟨x0_1, x1_1, x5_1, rfl, rfl, HA, HK1, HO_0, HK, HB⟩ := hrel
  cases gk with
  | zero => exact absurd HA.out (by simp [laws_markIntS.l0])
  | succ k1 =>
   have H := HA.out
   clear HA
   simp only [laws_markIntS.l0] at H
   by_cases c3 : x5_1 < (x0_1.length : Int)
   ·rw [if_pos c3] at H
    have c3b0 : decide (x5_1 < (x0_1.length : Int)) = true := decide_eq_true c3
    clear c3
    by_cases c4 : 0 ≤ x5_1
    ·rw [if_pos c4] at H
     have c4b0 : decide (0 ≤ x5_1) = true := decide_eq_true c4
     clear c4
     obtain ⟨y187, hy187⟩ : ∃ y_ : List Int, y_ = (x0_1.set (x5_1 : Int).toNat x1_1) := ⟨_, rfl⟩
     replace H : (laws_markIntS.l0 k1 y187 (wrap64 (x1_1 + 1)) (wrap64 (x5_1 + 1))) = some (r1, r2) := by first | (rw [hy187]; with_reducible exact H) | (have H2_ := (Option.bind_some _ _).symm.trans H; rw [hy187]; with_reducible exact H2_) | (have H2_ := (Option.bind_some _ _).symm.trans H; with_reducible exact H2_) | with_reducible exact H | (rw [hy187]; exact H) | exact H
     have Ny187 := aS_ hy187
     clear hy187
     have H' := aS_ H
     clear H
     obtain ⟨Ao6, co6, eo6⟩ := Kd.R_slice HO_0.out
     subst eo6
     have p5 : 0 ≤ (x5_1 : Int) := of_decide_eq_true (by assumption)
     have q5 : (x5_1 : Int) < ((x0_1.length : Int) : Int) := of_decide_eq_true (by assumption)
     obtain ⟨go5, co5, eo5, gb5, gl5, cl5, HG5⟩ := Kd.R_form HO_0.out (by omega)
     (first | cases eo5 | (injection eo5 with ea_ en_ ec_; (first | subst ea_ | (injection ea_ with ea_; subst ea_)); subst ec_; clear en_))
     have GB5 := aS_ gb5
     have GG5 := aS_ HG5
     clear gb5 gl5 HG5
     have HMgo5 := aS_ (show (P0_ go5 ∨ w.heap.size ≤ go5) from (HO_0.out.1 _ rfl))
     obtain ⟨hx5_0, hf5_0⟩ := Kd.R_celln 0 HO_0.out (x5_1 : Int) p5 q5
     replace p5 := eq_true p5
     replace q5 := eq_true q5
     have HP7 := Kd.R_putg HO_0.out (x5_1 : Int) x1_1
     go_wp2_with (first | ((with_reducible refine gate_store (t := 3) (p := 15) rfl ?_); refine store_event (t := 3) (p := 15) (v := ?vo_w8) (w1 := (wr.setCell ⟨go5, (x5_1 : Int).toNat, none⟩ (.int .i64 x1_1))) ?hg ?ho ?hn ?hr ?_; (case ho => rfl); (case hg => rfl); (case hn => rfl); (case hr => first | (go_simp; done) | (go_simp; rfl)); intro w8 hw; have hg : wr.grownBy w8 (some go5) := (by rw [hw]; exact HP7.2); have hp_ : Kd.R (Kd.int .i64) 3 w8 w0.heap.size (fun k_ => (P0_ k_ ∨ w.heap.size ≤ k_)) (.slice (some ⟨go5, 0, none⟩) x0_1.length co6) y187 := (by rw [hw, Ny187.out]; exact HP7.1); clear HP7; have n0_ := aS_ (hp_); have n1_ := aS_ ((by rw [hw]; exact bS_ (HB.out) GB5.out : Below w0.heap.size w0 w8)); have n2_ := aS_ (Kept.of_grown (S := (fun k_ => P0_ k_)) hg (by repeat (first | (with_reducible first | exact HK.out | apply Kept.alloc | apply Kept.drewN | apply Kept.drew) | exact HK.out)) (fun k_ e_ => (HO_0.out.1 k_ e_))); clear HO_0; clear HB; clear HK; have HO_0 := n0_; have HB := n1_; have HK := n2_; clear n0_ n1_ n2_; clear hg hw hp_))
     go_roundg k1
     case measure => have := HK1.out; omega
     case rel => exact ⟨(y187), (wrap64 (x1_1 + 1)), (wrap64 (x5_1 + 1)), (by first | rfl | (simp; done) | (simp [*]; done)), (by first | rfl | (simp; done) | (simp [*]; done)), H', ⟨by have := HK1.out; omega⟩, ⟨by (with_reducible repeat (first | apply rA_ | apply rN_ | apply rD_)); exact HO_0.out⟩, ⟨by repeat (first | (with_reducible first | exact HK.out | apply Kept.alloc | apply Kept.drewN | apply Kept.drew) | exact HK.out)⟩, ⟨by repeat (first | (with_reducible first | exact HB.out | apply bA_ | apply pN_ | apply bD_) | exact HB.out)⟩⟩
    ·rw [if_neg c4] at H
     exact absurd H (by simp)
   ·rw [if_neg c3] at H
    have c3b0 : decide (x5_1 < (x0_1.length : Int)) = false := decide_eq_false c3
    clear c3
    simp only [Option.some.injEq, Prod.mk.injEq] at H
    obtain ⟨rfl, rfl⟩ := H
    obtain ⟨Ao9, co9, eo9⟩ := Kd.R_slice HO_0.out
    subst eo9
    go_wp2
    go_ret
    exact ⟨by first | rfl | (simp [errW_none, errW_some] <;> rfl) | (simp [*, errW_none, errW_some] <;> rfl), by (with_reducible repeat (first | apply rA_ | apply rN_ | apply rD_)); exact HO_0.out, by repeat (first | (with_reducible first | exact HB.out | apply bA_ | apply pN_ | apply bD_) | exact HB.out), by repeat (first | (with_reducible first | exact HK.out | apply Kept.alloc | apply Kept.drewN | apply Kept.drew) | exact HK.out)⟩
/-! ### laws_markRegion: function 10 -/
def laws_markRegion.f (k : Nat) (l0_0 : List Int) (l0_1 : List Int) (a1 : Int) : Option (Int × List Int × List Int) := (laws_markIntS.f k l0_0 a1).bind fun bt189 => ((laws_markIntS.f k l0_1 bt189.1).bind fun bt191 => (some (bt191.1, bt189.2, bt191.2)))
theorem laws_markRegion.mono : ∀ a0 a1 a2 k, LeO (laws_markRegion.f k a0 a1 a2) (laws_markRegion.f (k + 1) a0 a1 a2) := by
 intro a0 a1 a2 k
 unfold laws_markRegion.f
 repeat' first
   | (with_reducible exact laws_markIntS.mono _ _ _)
   | (with_reducible exact LeO.refl _)
   | (with_reducible exact LeO.none _)
   | (with_reducible refine LeO.ite ?_ ?_)
   | (with_reducible refine LeO.bind ?_ (fun _ => ?_))
   | exact laws_markIntS.mono _ _ _
   | exact LeO.none _
   | refine LeO.ite ?_ ?_
   | refine LeO.bind ?_ (fun _ => ?_)
set_option maxHeartbeats 8000000 in
set_option maxRecDepth 100000 in
theorem laws_markRegion.calls (k : Nat) (P0_0_ : Nat → Prop) (u9000_ : Value) (l0_0 : List Int) (P0_1_ : Nat → Prop) (u9001_ : Value) (l0_1 : List Int) (a1 : Int) (r1 : Int) (r2 : List Int) (r3 : List Int) (w0 w : World) (hB : Below w0.heap.size w0 w) (ho0_0 : Kd.R (Kd.int .i64) 3 w w0.heap.size P0_0_ u9000_ l0_0) (hp0_0_0_1 : ∀ k_, P0_0_ k_ → ¬ P0_1_ k_) (ho0_1 : Kd.R (Kd.int .i64) 3 w w0.heap.size P0_1_ u9001_ l0_1) (hp0_1_0_0 : ∀ k_, P0_1_ k_ → ¬ P0_0_ k_) (h : laws_markRegion.f k l0_0 l0_1 a1 = some (r1, r2, r3)) :
  Calls Try.prog 10 #[.agg #[u9000_, u9001_], .int .i64 a1] w fun e w' => e = .returned (.int .i64 r1) ∧ Kd.R (Kd.int .i64) 3 w' w0.heap.size (fun k_ => ((P0_0_ k_ ∨ P0_1_ k_) ∨ w.heap.size ≤ k_)) u9000_ r2 ∧ Kd.R (Kd.int .i64) 3 w' w0.heap.size (fun k_ => ((P0_0_ k_ ∨ P0_1_ k_) ∨ w.heap.size ≤ k_)) u9001_ r3 ∧ Below w0.heap.size w0 w' ∧ Kept w w' (fun k_ => P0_0_ k_ ∨ P0_1_ k_) := by
 have hu24 := Try.underlying24
 have HO0_0 := aS_ (show Kd.R (Kd.int .i64) 3 w w0.heap.size (fun k_ => ((P0_0_ k_ ∨ P0_1_ k_) ∨ w.heap.size ≤ k_) ∧ some k_ ≠ (u9001_ : Value).ownBlock) u9000_ l0_0 from Kd.R_mono ho0_0 (fun k_ hk => ⟨(.inl (.inl hk)), fun e_ => hp0_0_0_1 k_ hk (ho0_1.1 k_ e_.symm)⟩))
 have HO0_1 := aS_ (show Kd.R (Kd.int .i64) 3 w w0.heap.size (fun k_ => ((P0_0_ k_ ∨ P0_1_ k_) ∨ w.heap.size ≤ k_) ∧ some k_ ≠ (u9000_ : Value).ownBlock) u9001_ l0_1 from Kd.R_mono ho0_1 (fun k_ hk => ⟨(.inl (.inr hk)), fun e_ => hp0_1_0_0 k_ hk (ho0_0.1 k_ e_.symm)⟩))
 have HK := aS_ (Kept.refl w (fun k_ => P0_0_ k_ ∨ P0_1_ k_))
 have HW0 := aS_ hB.size
 have HB := aS_ hB
 clear hB
 have H : ((laws_markIntS.f k l0_0 a1).bind fun bt189 => ((laws_markIntS.f k l0_1 bt189.1).bind fun bt191 => (some (bt191.1, bt189.2, bt191.2)))) = some (r1, r2, r3) := h
 clear h
 replace H := Option.bind_eq_some_iff.mp H
 obtain ⟨⟨t189, t190⟩, A30, H⟩ := H
 have A3 := aS_ A30
 clear A30
 replace H := Option.bind_eq_some_iff.mp H
 obtain ⟨⟨t191, t192⟩, A40, H⟩ := H
 have A4 := aS_ A40
 clear A40
 simp only [Option.some.injEq, Prod.mk.injEq] at H
 obtain ⟨rfl, rfl, rfl⟩ := H
 obtain ⟨Ao5, co5, eo5⟩ := Kd.R_slice HO0_0.out
 subst eo5
 obtain ⟨Ao6, co6, eo6⟩ := Kd.R_slice HO0_1.out
 subst eo6
 go_enter Try.func10, Try.ntmps10
 go_wp2_with (first | ((with_reducible refine gate_dst (N := 2) rfl ?_); refine box_event ?hg (N := 2) ?hd (cs := #[.slice Ao5 l0_0.length co5, .slice Ao6 l0_1.length co6]) (t := 24) ?hr ?_; (case hd => rfl); (case hg => rfl); (case hr => first | (go_simp; done) | (go_simp; rfl)); intro gb188 hg w7 hbox hb; have n0_ := aS_ (Kd.R_below (by (with_reducible repeat (first | apply rA_ | apply rN_ | apply rD_)); exact HO0_0.out) hb); have n1_ := aS_ (Kd.R_below (by (with_reducible repeat (first | apply rA_ | apply rN_ | apply rD_)); exact HO0_1.out) hb); have n2_ := aS_ (Kept.below (S := (fun k_ => P0_0_ k_ ∨ P0_1_ k_)) (by repeat (first | (with_reducible first | exact HK.out | apply Kept.alloc | apply Kept.drewN | apply Kept.drew) | exact HK.out)) hb); have n3_ := aS_ (below_step (by repeat (first | (with_reducible first | exact HB.out | apply bA_ | apply pN_ | apply bD_) | exact HB.out)) hb); have n4_ := aS_ (hbox); have n5_ := aS_ ((by rw [hg]; exact (by first | exact HK.out.1 | exact (show Kept w _ (fun k_ => P0_0_ k_ ∨ P0_1_ k_) from by repeat (first | (with_reducible first | exact HK.out | apply Kept.alloc | apply Kept.drewN | apply Kept.drew) | exact HK.out)).1) : w.heap.size ≤ gb188)); have n6_ := aS_ ((by rw [hg]; exact (below_size (by repeat (first | (with_reducible first | exact HB.out | apply bA_ | apply pN_ | apply bD_) | exact HB.out))) : w0.heap.size ≤ gb188)); clear HO0_0; clear HO0_1; clear HK; clear HB; have HO0_0 := n0_; have HO0_1 := n1_; have HK := n2_; have HB := n3_; have BK188 := n4_; have GW188 := n5_; have GE188 := n6_; clear n0_ n1_ n2_ n3_ n4_ n5_ n6_; clear hb hbox hg; have hcz8_0 : w7.cell? ⟨gb188, 0, none⟩ = some (.slice Ao5 l0_0.length co5) := (blk_cell BK188.out 0).trans rfl; have hcz8_1 : w7.cell? ⟨gb188, 1, none⟩ = some (.slice Ao6 l0_1.length co6) := (blk_cell BK188.out 1).trans rfl; have hfz8_0 := blk_frozen BK188.out 0; have hfz8_1 := blk_frozen BK188.out 1) | ((with_reducible refine gate_callee (f := 9) rfl ?_); refine goesL_ (some 8) rfl rfl Try.func9 (by kernel_rfl) rfl #[.slice Ao5 l0_0.length co5, .int .i64 a1] rfl (by (try simp only [List.map_toArray, List.map_cons, List.map_nil]); first | done | rfl | (simp only [List.length_drop, List.length_take]; rfl)) ?_; (with_reducible refine (laws_markIntS.calls k (fun k_ => some k_ = (.slice Ao5 l0_0.length co5 : Value).ownBlock) (.slice Ao5 l0_0.length co5) l0_0 a1 t189 t190 w0 _ ?side1 ?side2 A3.out).mono ?_); (case side1 => repeat (first | (with_reducible first | exact HB.out | apply bA_ | apply pN_ | apply bD_ | refine bS_ ?_ GE188.out) | exact HB.out)); (case side2 => exact Kd.R_tight rfl HO0_0.out); rintro e w9 ⟨rfl, hy0, hb, hkp⟩; refine ⟨_, rfl, ?_⟩; have n0_ := aS_ (Kd.R_reok rfl hy0 (fun k_ e_ => HO0_0.out.1 k_ e_)); have n1_ := aS_ (Kd.R_mono (ok' := fun k_ => ((P0_0_ k_ ∨ P0_1_ k_) ∨ w.heap.size ≤ k_) ∧ some k_ ≠ (.slice Ao5 l0_0.length co5 : Value).ownBlock) (Kd.R_keptB (HO0_1.out) hkp (fun k_ hk_ hs_ => (hk_.2) hs_)) (fun k_ hk_ => ⟨hk_.1.1, hk_.1.2⟩)); have n2_ := aS_ (blk_kept (by (with_reducible repeat (first | refine kN_ ?_ _ | refine kD_ ?_ | refine kA_ ?_ _)); exact BK188.out) hkp (fun hs_ => (fun e_ => (Kd.R_ne HO0_0.out BK188.out (by decide)) e_) hs_)); have n3_ := aS_ (Kept.then_ (S := (fun k_ => P0_0_ k_ ∨ P0_1_ k_)) (by repeat (first | (with_reducible first | exact HK.out | apply Kept.alloc | apply Kept.drewN | apply Kept.drew | refine Kept.setCell ?_ (.inr GW188.out) _) | exact HK.out)) hkp (fun k_ hs_ => (fun e_ => (HO0_0.out.1 k_ e_.symm).1) hs_)); have n4_ := aS_ (hb); clear HO0_0; clear HO0_1; clear BK188; clear HK; clear HB; have HO0_0 := n0_; have HO0_1 := n1_; have BK188 := n2_; have HK := n3_; have HB := n4_; clear n0_ n1_ n2_ n3_ n4_; (try clear hb); (try clear hkp); (try clear hy0); have hcz10_0 : w9.cell? ⟨gb188, 0, none⟩ = some (.slice Ao5 l0_0.length co5) := (blk_cell BK188.out 0).trans rfl; have hcz10_1 : w9.cell? ⟨gb188, 1, none⟩ = some (.slice Ao6 l0_1.length co6) := (blk_cell BK188.out 1).trans rfl; have hfz10_0 := blk_frozen BK188.out 0; have hfz10_1 := blk_frozen BK188.out 1) | ((with_reducible refine gate_callee (f := 9) rfl ?_); refine goesL_ (some 12) rfl rfl Try.func9 (by kernel_rfl) rfl #[.slice Ao6 l0_1.length co6, .int .i64 t189] rfl (by (try simp only [List.map_toArray, List.map_cons, List.map_nil]); first | done | rfl | (simp only [List.length_drop, List.length_take]; rfl)) ?_; (with_reducible refine (laws_markIntS.calls k (fun k_ => some k_ = (.slice Ao6 l0_1.length co6 : Value).ownBlock) (.slice Ao6 l0_1.length co6) l0_1 t189 t191 t192 w0 _ ?side1 ?side2 A4.out).mono ?_); (case side1 => repeat (first | (with_reducible first | exact HB.out | apply bA_ | apply pN_ | apply bD_ | refine bS_ ?_ GE188.out) | exact HB.out)); (case side2 => exact Kd.R_tight rfl HO0_1.out); rintro e w11 ⟨rfl, hy0, hb, hkp⟩; refine ⟨_, rfl, ?_⟩; have n0_ := aS_ (Kd.R_mono (ok' := fun k_ => ((P0_0_ k_ ∨ P0_1_ k_) ∨ w.heap.size ≤ k_) ∧ some k_ ≠ (.slice Ao6 l0_1.length co6 : Value).ownBlock) (Kd.R_keptB (HO0_0.out) hkp (fun k_ hk_ hs_ => (hk_.2) hs_)) (fun k_ hk_ => ⟨hk_.1.1, hk_.1.2⟩)); have n1_ := aS_ (Kd.R_reok rfl hy0 (fun k_ e_ => HO0_1.out.1 k_ e_)); have n2_ := aS_ (blk_kept (by (with_reducible repeat (first | refine kN_ ?_ _ | refine kD_ ?_ | refine kA_ ?_ _)); exact BK188.out) hkp (fun hs_ => (fun e_ => (Kd.R_ne HO0_1.out BK188.out (by decide)) e_) hs_)); have n3_ := aS_ (Kept.then_ (S := (fun k_ => P0_0_ k_ ∨ P0_1_ k_)) (by repeat (first | (with_reducible first | exact HK.out | apply Kept.alloc | apply Kept.drewN | apply Kept.drew | refine Kept.setCell ?_ (.inr GW188.out) _) | exact HK.out)) hkp (fun k_ hs_ => (fun e_ => (HO0_1.out.1 k_ e_.symm).1) hs_)); have n4_ := aS_ (hb); clear HO0_0; clear HO0_1; clear BK188; clear HK; clear HB; have HO0_0 := n0_; have HO0_1 := n1_; have BK188 := n2_; have HK := n3_; have HB := n4_; clear n0_ n1_ n2_ n3_ n4_; (try clear hb); (try clear hkp); (try clear hy0)))
 go_ret
 exact ⟨by first | rfl | (simp [errW_none, errW_some] <;> rfl) | (simp [*, errW_none, errW_some] <;> rfl), by (with_reducible repeat (first | apply rA_ | apply rN_ | apply rD_)); exact Kd.R_mono HO0_0.out (fun _ hk => hk.1), by (with_reducible repeat (first | apply rA_ | apply rN_ | apply rD_)); exact Kd.R_mono HO0_1.out (fun _ hk => hk.1), by repeat (first | (with_reducible first | exact HB.out | apply bA_ | apply pN_ | apply bD_ | refine bS_ ?_ GE188.out) | exact HB.out), by repeat (first | (with_reducible first | exact HK.out | apply Kept.alloc | apply Kept.drewN | apply Kept.drew | refine Kept.setCell ?_ (.inr GW188.out) _) | exact HK.out)⟩
/-! ### laws_heldIntS: function 17 -/
def laws_heldIntS.l0 : Nat → List Int → Int → Int → Option (Int)
 | 0, _, _, _ => none
 | k + 1, x0, x1, x5 => if x5 < (x0.length : Int) then (if 0 ≤ x5 then (if (rd x0 x5) = x1 then (laws_heldIntS.l0 k x0 (wrap64 (x1 + 1)) (wrap64 (x5 + 1))) else (some (-1))) else (none)) else (some x1)
def laws_heldIntS.f (k : Nat) (l0 : List Int) (a1 : Int) : Option (Int) := laws_heldIntS.l0 k l0 a1 0
theorem laws_heldIntS.mono_l : ∀ k, (∀ y0 y1 y2, LeO (laws_heldIntS.l0 k y0 y1 y2) (laws_heldIntS.l0 (k + 1) y0 y1 y2))
 | 0 => fun _ _ _ r h => by simp [laws_heldIntS.l0] at h
 | k + 1 => by
  have ih0 := laws_heldIntS.mono_l k
  ·intro y0 y1 y2
   unfold laws_heldIntS.l0
   repeat' first
   | (with_reducible exact ih0 _ _ _)
   | (with_reducible exact LeO.refl _)
   | (with_reducible exact LeO.none _)
   | (with_reducible refine LeO.ite ?_ ?_)
   | (with_reducible refine LeO.bind ?_ (fun _ => ?_))
   | exact ih0 _ _ _
   | exact LeO.none _
   | refine LeO.ite ?_ ?_
   | refine LeO.bind ?_ (fun _ => ?_)
theorem laws_heldIntS.mono : ∀ a0 a1 k, LeO (laws_heldIntS.f k a0 a1) (laws_heldIntS.f (k + 1) a0 a1) := by
 intro a0 a1 k
 have ih0 := laws_heldIntS.mono_l k
 unfold laws_heldIntS.f
 repeat' first
   | (with_reducible exact ih0 _ _ _)
   | (with_reducible exact LeO.refl _)
   | (with_reducible exact LeO.none _)
   | (with_reducible refine LeO.ite ?_ ?_)
   | (with_reducible refine LeO.bind ?_ (fun _ => ?_))
   | exact ih0 _ _ _
   | exact LeO.none _
   | refine LeO.ite ?_ ?_
   | refine LeO.bind ?_ (fun _ => ?_)
set_option maxHeartbeats 8000000 in
set_option maxRecDepth 100000 in
theorem laws_heldIntS.calls (k : Nat) (A0 : Option Addr) (c0 : Nat) (l0 : List Int) (a1 : Int) (r : Int) (w : World) (hr0 : Kd.C (Kd.int .i64) w A0 l0.length l0) (hc0 : l0.length ≤ c0) (h : laws_heldIntS.f k l0 a1 = some r) :
  Calls Try.prog 17 #[.slice A0 l0.length c0, .int .i64 a1] w fun e w' => e = .returned (.int .i64 r) ∧ Drawn0 w w' := by
 have HR0 := aS_ hr0
 have HC0 := aS_ hc0
 clear hr0 hc0
 have H : (laws_heldIntS.l0 k l0 a1 0) = some r := h
 clear h
 have H' := aS_ H
 clear H
 go_enter Try.func17, Try.ntmps17
 go_wp2
 go_loopg [1, 5] k (fun kq v1 v5 w' => ∃ (x1_1 : Int) (x5_1 : Int), v1 = .int .i64 x1_1 ∧ v5 = .int .i64 x5_1 ∧ Aside0 (laws_heldIntS.l0 kq l0 x1_1 x5_1 = some r) ∧ Aside0 (kq ≤ k) ∧ Drawn0 w w')
 case atStart => exact ⟨(a1), (0), (by first | rfl | (simp; done) | (simp [*]; done)), (by first | rfl | (simp; done) | (simp [*]; done)), H', ⟨Nat.le_refl _⟩, by repeat (first | exact Drawn0.refl _ | apply Drawn0.step)⟩
 case round =>
  clear H'
  try clear c1
  try clear p2
  obtain ⟨x1_1, x5_1, rfl, rfl, HA, HK1, ⟨m1, rfl⟩⟩ := hrel
  cases gk with
  | zero => exact absurd HA.out (by simp [laws_heldIntS.l0])
  | succ k1 =>
   have H := HA.out
   clear HA
   simp only [laws_heldIntS.l0] at H
   by_cases c3 : x5_1 < (l0.length : Int)
   ·rw [if_pos c3] at H
    have c3b0 : decide (x5_1 < (l0.length : Int)) = true := decide_eq_true c3
    clear c3
    by_cases c4 : 0 ≤ x5_1
    ·rw [if_pos c4] at H
     have c4b0 : decide (0 ≤ x5_1) = true := decide_eq_true c4
     clear c4
     by_cases c5 : (rd l0 x5_1) = x1_1
     ·rw [if_pos c5] at H
      have c5b0 : ((rd l0 x5_1) == x1_1) = true := beq_iff_eq.mpr c5
      have c5b1 : ((rd l0 x5_1) != x1_1) = false := bne_eq_false_iff_eq.mpr c5
      clear c5
      have H' := aS_ H
      clear H
      have p193 : 0 ≤ (x5_1 : Int) := of_decide_eq_true (by assumption)
      have q193 : x5_1 < (l0.length : Int) := of_decide_eq_true (by assumption)
      obtain ⟨ad193, e193, hx193_0⟩ := Kd.at_int HR0.out x5_1 p193 q193
      cases e193
      replace p193 := eq_true p193
      replace q193 := eq_true q193
      go_wp2
      go_roundg k1
      case measure => have := HK1.out; omega
      case rel => exact ⟨(wrap64 (x1_1 + 1)), (wrap64 (x5_1 + 1)), (by first | rfl | (simp; done) | (simp [*]; done)), (by first | rfl | (simp; done) | (simp [*]; done)), H', ⟨by have := HK1.out; omega⟩, by repeat (first | exact Drawn0.refl _ | apply Drawn0.step)⟩
     ·rw [if_neg c5] at H
      have c5b0 : ((rd l0 x5_1) == x1_1) = false := beq_eq_false_iff_ne.mpr c5
      have c5b1 : ((rd l0 x5_1) != x1_1) = true := bne_iff_ne.mpr c5
      obtain rfl := Option.some.inj H
      have p193 : 0 ≤ (x5_1 : Int) := of_decide_eq_true (by assumption)
      have q193 : x5_1 < (l0.length : Int) := of_decide_eq_true (by assumption)
      obtain ⟨ad193, e193, hx193_0⟩ := Kd.at_int HR0.out x5_1 p193 q193
      cases e193
      replace p193 := eq_true p193
      replace q193 := eq_true q193
      go_wp2
      go_ret
      exact ⟨by first | rfl | (simp; done) | (simp [*]; done), by repeat (first | exact Drawn0.refl _ | apply Drawn0.step)⟩
    ·rw [if_neg c4] at H
     exact absurd H (by simp)
   ·rw [if_neg c3] at H
    have c3b0 : decide (x5_1 < (l0.length : Int)) = false := decide_eq_false c3
    clear c3
    obtain rfl := Option.some.inj H
    go_wp2
    go_ret
    exact ⟨by first | rfl | (simp; done) | (simp [*]; done), by repeat (first | exact Drawn0.refl _ | apply Drawn0.step)⟩
/-! ### laws_heldRegion: function 11 -/
def laws_heldRegion.f (k : Nat) (l0_0 : List Int) (l0_1 : List Int) (a1 : Int) : Option (Int) := (laws_heldIntS.f k l0_0 a1).bind fun t195 => (if t195 < 0 then (some (-1)) else ((laws_heldIntS.f k l0_1 t195).bind fun t196 => (if t196 < 0 then (some (-1)) else (some t196))))
theorem laws_heldRegion.mono : ∀ a0 a1 a2 k, LeO (laws_heldRegion.f k a0 a1 a2) (laws_heldRegion.f (k + 1) a0 a1 a2) := by
 intro a0 a1 a2 k
 unfold laws_heldRegion.f
 repeat' first
   | (with_reducible exact laws_heldIntS.mono _ _ _)
   | (with_reducible exact LeO.refl _)
   | (with_reducible exact LeO.none _)
   | (with_reducible refine LeO.ite ?_ ?_)
   | (with_reducible refine LeO.bind ?_ (fun _ => ?_))
   | exact laws_heldIntS.mono _ _ _
   | exact LeO.none _
   | refine LeO.ite ?_ ?_
   | refine LeO.bind ?_ (fun _ => ?_)
set_option maxHeartbeats 8000000 in
set_option maxRecDepth 100000 in
theorem laws_heldRegion.calls (k : Nat) (A0_0 : Option Addr) (c0_0 : Nat) (l0_0 : List Int) (A0_1 : Option Addr) (c0_1 : Nat) (l0_1 : List Int) (a1 : Int) (r : Int) (w : World) (hr0_0 : Kd.C (Kd.int .i64) w A0_0 l0_0.length l0_0) (hc0_0 : l0_0.length ≤ c0_0) (hr0_1 : Kd.C (Kd.int .i64) w A0_1 l0_1.length l0_1) (hc0_1 : l0_1.length ≤ c0_1) (h : laws_heldRegion.f k l0_0 l0_1 a1 = some r) :
  Calls Try.prog 11 #[.agg #[.slice A0_0 l0_0.length c0_0, .slice A0_1 l0_1.length c0_1], .int .i64 a1] w fun e w' => e = .returned (.int .i64 r) ∧ Below w.heap.size w w' := by
 have hu24 := Try.underlying24
 have HR0_0 := aS_ hr0_0
 have HC0_0 := aS_ hc0_0
 clear hr0_0 hc0_0
 have HR0_1 := aS_ hr0_1
 have HC0_1 := aS_ hc0_1
 clear hr0_1 hc0_1
 have HB := aS_ (Below.refl w.heap.size w)
 have H : ((laws_heldIntS.f k l0_0 a1).bind fun t195 => (if t195 < 0 then (some (-1)) else ((laws_heldIntS.f k l0_1 t195).bind fun t196 => (if t196 < 0 then (some (-1)) else (some t196))))) = some r := h
 clear h
 replace H := Option.bind_eq_some_iff.mp H
 obtain ⟨t195, A30, H⟩ := H
 have A3 := aS_ A30
 clear A30
 by_cases c4 : t195 < 0
 ·rw [if_pos c4] at H
  have c4b0 : decide (t195 < 0) = true := decide_eq_true c4
  clear c4
  obtain rfl := Option.some.inj H
  go_enter Try.func11, Try.ntmps11
  go_wp2_with (first | ((with_reducible refine gate_dst (N := 2) rfl ?_); refine box_event ?hg (N := 2) ?hd (cs := #[.slice A0_0 l0_0.length c0_0, .slice A0_1 l0_1.length c0_1]) (t := 24) ?hr ?_; (case hd => rfl); (case hg => rfl); (case hr => first | (go_simp; done) | (go_simp; rfl)); intro gb194 hg w5 hbox hb; have n0_ := aS_ (below_step (by repeat (first | (with_reducible first | exact HB.out | apply bA_ | apply pN_ | apply bD_) | exact HB.out)) hb); have n1_ := aS_ (hbox); have n2_ := aS_ ((by rw [hg]; exact (below_size (by repeat (first | (with_reducible first | exact HB.out | apply bA_ | apply pN_ | apply bD_) | exact HB.out))) : w.heap.size ≤ gb194)); have n3_ := aS_ ((by rw [hg]; exact (below_size (by repeat (first | (with_reducible first | exact HB.out | apply bA_ | apply pN_ | apply bD_) | exact HB.out))) : w.heap.size ≤ gb194)); clear HB; have HB := n0_; have BK194 := n1_; have GW194 := n2_; have GE194 := n3_; clear n0_ n1_ n2_ n3_; clear hb hbox hg; have hcz6_0 : w5.cell? ⟨gb194, 0, none⟩ = some (.slice A0_0 l0_0.length c0_0) := (blk_cell BK194.out 0).trans rfl; have hcz6_1 : w5.cell? ⟨gb194, 1, none⟩ = some (.slice A0_1 l0_1.length c0_1) := (blk_cell BK194.out 1).trans rfl; have hfz6_0 := blk_frozen BK194.out 0; have hfz6_1 := blk_frozen BK194.out 1) | ((with_reducible refine gate_callee (f := 17) rfl ?_); refine goesL_ (some 8) rfl rfl Try.func17 (by kernel_rfl) rfl #[.slice A0_0 l0_0.length c0_0, .int .i64 a1] rfl (by (try simp only [List.map_toArray, List.map_cons, List.map_nil]); first | done | rfl | (simp only [List.length_drop, List.length_take]; rfl)) ?_; (with_reducible refine (laws_heldIntS.calls k _ _ l0_0 a1 t195 _ ?side1 ?side2 A3.out).mono ?_); (case side1 => repeat (first | exact (Kd.C_below HR0_0.out HB.out) | (with_reducible refine Kd.C_alloc ?_ _) | (with_reducible refine Kd.C_drewN ?_ _) | (with_reducible refine Kd.C_drew ?_))); (case side2 => exact HC0_0.out); rintro e w' ⟨rfl, ⟨nd, rfl⟩⟩; refine ⟨_, rfl, ?_⟩))
  go_ret
  exact ⟨by first | rfl | (simp [errW_none, errW_some] <;> rfl) | (simp [*, errW_none, errW_some] <;> rfl), by repeat (first | (with_reducible first | exact HB.out | apply bA_ | apply pN_ | apply bD_ | refine bS_ ?_ GE194.out) | exact HB.out)⟩
 ·rw [if_neg c4] at H
  have c4b0 : decide (t195 < 0) = false := decide_eq_false c4
  clear c4
  replace H := Option.bind_eq_some_iff.mp H
  obtain ⟨t196, A70, H⟩ := H
  have A7 := aS_ A70
  clear A70
  by_cases c8 : t196 < 0
  ·rw [if_pos c8] at H
   have c8b0 : decide (t196 < 0) = true := decide_eq_true c8
   clear c8
   obtain rfl := Option.some.inj H
   go_enter Try.func11, Try.ntmps11
   go_wp2_with (first | ((with_reducible refine gate_dst (N := 2) rfl ?_); refine box_event ?hg (N := 2) ?hd (cs := #[.slice A0_0 l0_0.length c0_0, .slice A0_1 l0_1.length c0_1]) (t := 24) ?hr ?_; (case hd => rfl); (case hg => rfl); (case hr => first | (go_simp; done) | (go_simp; rfl)); intro gb194 hg w9 hbox hb; have n0_ := aS_ (below_step (by repeat (first | (with_reducible first | exact HB.out | apply bA_ | apply pN_ | apply bD_) | exact HB.out)) hb); have n1_ := aS_ (hbox); have n2_ := aS_ ((by rw [hg]; exact (below_size (by repeat (first | (with_reducible first | exact HB.out | apply bA_ | apply pN_ | apply bD_) | exact HB.out))) : w.heap.size ≤ gb194)); have n3_ := aS_ ((by rw [hg]; exact (below_size (by repeat (first | (with_reducible first | exact HB.out | apply bA_ | apply pN_ | apply bD_) | exact HB.out))) : w.heap.size ≤ gb194)); clear HB; have HB := n0_; have BK194 := n1_; have GW194 := n2_; have GE194 := n3_; clear n0_ n1_ n2_ n3_; clear hb hbox hg; have hcz10_0 : w9.cell? ⟨gb194, 0, none⟩ = some (.slice A0_0 l0_0.length c0_0) := (blk_cell BK194.out 0).trans rfl; have hcz10_1 : w9.cell? ⟨gb194, 1, none⟩ = some (.slice A0_1 l0_1.length c0_1) := (blk_cell BK194.out 1).trans rfl; have hfz10_0 := blk_frozen BK194.out 0; have hfz10_1 := blk_frozen BK194.out 1) | ((with_reducible refine gate_callee (f := 17) rfl ?_); refine goesL_ (some 8) rfl rfl Try.func17 (by kernel_rfl) rfl #[.slice A0_0 l0_0.length c0_0, .int .i64 a1] rfl (by (try simp only [List.map_toArray, List.map_cons, List.map_nil]); first | done | rfl | (simp only [List.length_drop, List.length_take]; rfl)) ?_; (with_reducible refine (laws_heldIntS.calls k _ _ l0_0 a1 t195 _ ?side1 ?side2 A3.out).mono ?_); (case side1 => repeat (first | exact (Kd.C_below HR0_0.out HB.out) | (with_reducible refine Kd.C_alloc ?_ _) | (with_reducible refine Kd.C_drewN ?_ _) | (with_reducible refine Kd.C_drew ?_))); (case side2 => exact HC0_0.out); rintro e w' ⟨rfl, ⟨nd, rfl⟩⟩; refine ⟨_, rfl, ?_⟩) | ((with_reducible refine gate_callee (f := 17) rfl ?_); refine goesL_ (some 14) rfl rfl Try.func17 (by kernel_rfl) rfl #[.slice A0_1 l0_1.length c0_1, .int .i64 t195] rfl (by (try simp only [List.map_toArray, List.map_cons, List.map_nil]); first | done | rfl | (simp only [List.length_drop, List.length_take]; rfl)) ?_; (with_reducible refine (laws_heldIntS.calls k _ _ l0_1 t195 t196 _ ?side1 ?side2 A7.out).mono ?_); (case side1 => repeat (first | exact (Kd.C_below HR0_1.out (by repeat (first | (with_reducible first | exact HB.out | apply bA_ | apply pN_ | apply bD_ | refine bS_ ?_ GE194.out) | exact HB.out))) | (with_reducible refine Kd.C_alloc ?_ _) | (with_reducible refine Kd.C_drewN ?_ _) | (with_reducible refine Kd.C_drew ?_))); (case side2 => exact HC0_1.out); rintro e w' ⟨rfl, ⟨nd, rfl⟩⟩; refine ⟨_, rfl, ?_⟩))
   go_ret
   exact ⟨by first | rfl | (simp [errW_none, errW_some] <;> rfl) | (simp [*, errW_none, errW_some] <;> rfl), by repeat (first | (with_reducible first | exact HB.out | apply bA_ | apply pN_ | apply bD_ | refine bS_ ?_ GE194.out) | exact HB.out)⟩
  ·rw [if_neg c8] at H
   have c8b0 : decide (t196 < 0) = false := decide_eq_false c8
   clear c8
   obtain rfl := Option.some.inj H
   go_enter Try.func11, Try.ntmps11
   go_wp2_with (first | ((with_reducible refine gate_dst (N := 2) rfl ?_); refine box_event ?hg (N := 2) ?hd (cs := #[.slice A0_0 l0_0.length c0_0, .slice A0_1 l0_1.length c0_1]) (t := 24) ?hr ?_; (case hd => rfl); (case hg => rfl); (case hr => first | (go_simp; done) | (go_simp; rfl)); intro gb194 hg w11 hbox hb; have n0_ := aS_ (below_step (by repeat (first | (with_reducible first | exact HB.out | apply bA_ | apply pN_ | apply bD_) | exact HB.out)) hb); have n1_ := aS_ (hbox); have n2_ := aS_ ((by rw [hg]; exact (below_size (by repeat (first | (with_reducible first | exact HB.out | apply bA_ | apply pN_ | apply bD_) | exact HB.out))) : w.heap.size ≤ gb194)); have n3_ := aS_ ((by rw [hg]; exact (below_size (by repeat (first | (with_reducible first | exact HB.out | apply bA_ | apply pN_ | apply bD_) | exact HB.out))) : w.heap.size ≤ gb194)); clear HB; have HB := n0_; have BK194 := n1_; have GW194 := n2_; have GE194 := n3_; clear n0_ n1_ n2_ n3_; clear hb hbox hg; have hcz12_0 : w11.cell? ⟨gb194, 0, none⟩ = some (.slice A0_0 l0_0.length c0_0) := (blk_cell BK194.out 0).trans rfl; have hcz12_1 : w11.cell? ⟨gb194, 1, none⟩ = some (.slice A0_1 l0_1.length c0_1) := (blk_cell BK194.out 1).trans rfl; have hfz12_0 := blk_frozen BK194.out 0; have hfz12_1 := blk_frozen BK194.out 1) | ((with_reducible refine gate_callee (f := 17) rfl ?_); refine goesL_ (some 8) rfl rfl Try.func17 (by kernel_rfl) rfl #[.slice A0_0 l0_0.length c0_0, .int .i64 a1] rfl (by (try simp only [List.map_toArray, List.map_cons, List.map_nil]); first | done | rfl | (simp only [List.length_drop, List.length_take]; rfl)) ?_; (with_reducible refine (laws_heldIntS.calls k _ _ l0_0 a1 t195 _ ?side1 ?side2 A3.out).mono ?_); (case side1 => repeat (first | exact (Kd.C_below HR0_0.out HB.out) | (with_reducible refine Kd.C_alloc ?_ _) | (with_reducible refine Kd.C_drewN ?_ _) | (with_reducible refine Kd.C_drew ?_))); (case side2 => exact HC0_0.out); rintro e w' ⟨rfl, ⟨nd, rfl⟩⟩; refine ⟨_, rfl, ?_⟩) | ((with_reducible refine gate_callee (f := 17) rfl ?_); refine goesL_ (some 14) rfl rfl Try.func17 (by kernel_rfl) rfl #[.slice A0_1 l0_1.length c0_1, .int .i64 t195] rfl (by (try simp only [List.map_toArray, List.map_cons, List.map_nil]); first | done | rfl | (simp only [List.length_drop, List.length_take]; rfl)) ?_; (with_reducible refine (laws_heldIntS.calls k _ _ l0_1 t195 t196 _ ?side1 ?side2 A7.out).mono ?_); (case side1 => repeat (first | exact (Kd.C_below HR0_1.out (by repeat (first | (with_reducible first | exact HB.out | apply bA_ | apply pN_ | apply bD_ | refine bS_ ?_ GE194.out) | exact HB.out))) | (with_reducible refine Kd.C_alloc ?_ _) | (with_reducible refine Kd.C_drewN ?_ _) | (with_reducible refine Kd.C_drew ?_))); (case side2 => exact HC0_1.out); rintro e w' ⟨rfl, ⟨nd, rfl⟩⟩; refine ⟨_, rfl, ?_⟩))
   go_ret
   exact ⟨by first | rfl | (simp [errW_none, errW_some] <;> rfl) | (simp [*, errW_none, errW_some] <;> rfl), by repeat (first | (with_reducible first | exact HB.out | apply bA_ | apply pN_ | apply bD_ | refine bS_ ?_ GE194.out) | exact HB.out)⟩
end Go.Proofs.Ytjpdhdcknoffmaa.G
namespace Go.Proofs.Ytjpdhdcknoffmaa.G
open Go.RowKit Go.Proofs.YtjpdhdcknoffmaaW.PrintWords Go.Proofs.YtjpdhdcknoffmaaW.PrintLast Go.Proofs.YtjpdhdcknoffmaaW.PrintMore
set_option linter.unusedVariables false
set_option linter.unusedSimpArgs false
theorem wrap_id {x : Int} (h1 : -9223372036854775808 ≤ x) (h2 : x ≤ 9223372036854775807) : wrap64 x = x := by unfold wrap64; omega
theorem wrap_next {i n : Nat} (h : i < n) (hn : n ≤ 4611686018427387904) : wrap64 ((i : Int) + 1) = ((i + 1 : Nat) : Int) := by rw [wrap_id (by omega) (by omega)]; rfl
theorem succ_of {d k : Nat} (h : d < k) : ∃ m, k = m + 1 := ⟨k - 1, by omega⟩
theorem rd_nat (l : List Int) (i : Nat) : rd l (i : Int) = l.getD i 0 := by unfold rd; rw [Int.toNat_natCast]
theorem take_succ_getD {l : List Int} {i : Nat} (h : i < l.length) : l.take (i + 1) = l.take i ++ [l.getD i 0] := by
  rw [List.take_succ_eq_append_getElem h, List.getD_eq_getElem?_getD, List.getElem?_eq_getElem h]; rfl
theorem drop_getD {l : List Int} {i : Nat} (h : i < l.length) : l.drop i = l.getD i 0 :: l.drop (i + 1) := by
  rw [List.drop_eq_getElem_cons h, List.getD_eq_getElem?_getD, List.getElem?_eq_getElem h]; rfl
theorem Ev.of_all {α : Type} {g : Nat → Option α} {r : α} (K : Nat) (h : ∀ k, K < k → g k = some r) : Ev g r := ⟨K + 1, fun k hk => h k (by omega)⟩
/-- A round that needs no rounds of others. -/
theorem Ev.one {α : Type} {g f : Nat → Option α} {r : α} (k : Ev f r) (h : ∀ k, g (k + 1) = f k) : Ev g r := Ev.step h k
theorem Ev.end_ {α : Type} {g : Nat → Option α} {r : α} (h : ∀ k, g (k + 1) = some r) : Ev g r := Ev.step h (Ev.now r)
/-- Places that were written one by one: what is new, and what is still old. -/
def mixed (R o : List Int) (i : Nat) : List Int := R.take i ++ o.drop i
theorem toIntS_l0 (x0 : List Int) (hn : x0.length ≤ 4611686018427387904) : ∀ (d k i : Nat) (x3 : List Int), i + d = x0.length → d < k → x3.length = x0.length → x3.take i = x0.take i → laws_toIntS.l0 k x0 x3 i = some x0 := by
  intro d
  induction d with
  | zero =>
    intro k i x3 hd hk hl ht
    obtain ⟨k, rfl⟩ := succ_of hk
    have hi : i = x0.length := by omega
    rw [laws_toIntS.l0, if_neg (by omega)]
    rw [hi, List.take_of_length_le (by omega), List.take_of_length_le (by omega)] at ht
    rw [ht]
  | succ d ih =>
    intro k i x3 hd hk hl ht
    obtain ⟨k, rfl⟩ := succ_of hk
    rw [laws_toIntS.l0, if_pos (by omega), if_pos (by omega), if_pos (by omega), wrap_next (n := x0.length) (by omega) hn, rd_nat, Int.toNat_natCast]
    apply ih k (i + 1) _ (by omega) (by omega) (by simpa using hl)
    rw [take_succ_getD (l := x0) (i := i) (by omega), ← ht]
    apply List.ext_getElem
    · simp; omega
    · intro j h1 h2
      simp only [List.length_take, List.length_set] at h1
      rw [List.getElem_take, List.getElem_set, List.getElem_append]
      by_cases e : i = j
      · subst e; simp; intro h; omega
      · have : j < i := by omega
        simp [e, this]; omega
theorem toIntS_ev (l : List Int) (hn : l.length ≤ 35184372088832) : Ev (fun k => laws_toIntS.f k l) l := by
  refine Ev.of_all l.length fun k hk => ?_
  unfold laws_toIntS.f
  rw [if_pos (by omega), if_pos (by omega)]
  exact toIntS_l0 l (by omega) l.length k 0 _ (by omega) hk (by simp) (by simp)
theorem eqIntS_l0 (a b : List Int) (hl : a.length = b.length) (hn : a.length ≤ 4611686018427387904) : ∀ (d k i : Nat), i + d = a.length → d < k → laws_eqIntS.l0 k a b i = some (decide (a.drop i = b.drop i)) := by
  intro d
  induction d with
  | zero =>
    intro k i hd hk
    obtain ⟨k, rfl⟩ := succ_of hk
    rw [laws_eqIntS.l0, if_neg (by omega), List.drop_of_length_le (by omega), List.drop_of_length_le (by omega)]; simp
  | succ d ih =>
    intro k i hd hk
    obtain ⟨k, rfl⟩ := succ_of hk
    rw [laws_eqIntS.l0, if_pos (by omega), if_pos (by omega), if_pos (by omega), wrap_next (n := a.length) (by omega) hn, rd_nat, rd_nat, ih k (i + 1) (by omega) (by omega), drop_getD (l := a) (i := i) (by omega), drop_getD (l := b) (i := i) (by omega)]
    by_cases e : a.getD i 0 = b.getD i 0
    · rw [if_pos e, e]; simp
    · rw [if_neg e]; simp only [List.cons.injEq, e, false_and, decide_false]
theorem eqIntS_ev (a b : List Int) (hn : a.length ≤ 4611686018427387904) : Ev (fun k => laws_eqIntS.f k a b) (decide (a = b)) := by
  refine Ev.of_all a.length fun k hk => ?_
  unfold laws_eqIntS.f
  by_cases hl : a.length = b.length
  · rw [if_pos (by omega), show (0 : Int) = ((0 : Nat) : Int) from rfl, eqIntS_l0 a b hl hn a.length k 0 (by omega) hk]; rfl
  · rw [if_neg (by omega)]
    have : a ≠ b := fun e => hl (by rw [e])
    simp [this]
/-- Numbers that rise from m on. -/
def rise (n : Nat) (m : Int) : List Int := (List.range n).map fun (j : Nat) => m + j
theorem getD_rise (n : Nat) (m : Int) (j : Nat) (h : j < n) : (rise n m).getD j 0 = m + j := by
  simp [rise, List.getD_eq_getElem?_getD, List.getElem?_map, List.getElem?_range h]
theorem markIntS_l0 (n : Nat) (hn : n ≤ 1152921504606846976) (m : Int) (hm : 0 ≤ m ∧ m ≤ 1152921504606846976) : ∀ (d k i : Nat) (a : List Int), a.length = n → i + d = n → d < k → a.take i = rise i m → laws_markIntS.l0 k a (m + i) i = some (m + n, rise n m) := by
  intro d
  induction d with
  | zero =>
    intro k i a hl hd hk ht
    obtain ⟨k, rfl⟩ := succ_of hk
    obtain rfl : i = n := by omega
    rw [List.take_of_length_le (by omega)] at ht
    rw [laws_markIntS.l0, if_neg (by omega), ht]
  | succ d ih =>
    intro k i a hl hd hk ht
    obtain ⟨k, rfl⟩ := succ_of hk
    rw [laws_markIntS.l0, if_pos (by omega), if_pos (by omega), wrap_next (n := n) (by omega) (by omega), Int.toNat_natCast, wrap_id (x := m + i + 1) (by omega) (by omega)]
    have := ih k (i + 1) (a.set i (m + i)) (by simpa using hl) (by omega) (by omega) (by
      apply List.ext_getElem
      · simp [rise]; omega
      · intro j h1 h2
        simp only [List.length_take, List.length_set] at h1
        simp only [List.getElem_take, List.getElem_set, rise, List.getElem_map, List.getElem_range]
        by_cases e : i = j
        · subst e; simp
        · have hj : j < i := by omega
          have : (a.take i)[j]? = (rise i m)[j]? := by rw [ht]
          rw [List.getElem?_eq_getElem (by simp; omega), List.getElem?_eq_getElem (by simp [rise]; omega)] at this
          simp [rise] at this
          simp [e, this])
    rw [show m + (i : Int) + 1 = m + ((i + 1 : Nat) : Int) by push_cast; omega]
    exact this
theorem markIntS_ev (a : List Int) (m : Int) (hm : 0 ≤ m ∧ m ≤ 1152921504606846976) (hn : a.length ≤ 1152921504606846976) : Ev (fun k => laws_markIntS.f k a m) (m + a.length, rise a.length m) := by
  refine Ev.of_all a.length fun k hk => ?_
  unfold laws_markIntS.f
  have := markIntS_l0 a.length hn m hm a.length k 0 a rfl (by omega) hk (by simp [rise])
  simpa using this
theorem heldIntS_l0 (n : Nat) (hn : n ≤ 1152921504606846976) (m : Int) (hm : 0 ≤ m ∧ m ≤ 1152921504606846976) : ∀ (d k i : Nat), i + d = n → d < k → laws_heldIntS.l0 k (rise n m) (m + i) i = some (m + n) := by
  intro d
  have hl : (rise n m).length = n := by simp [rise]
  induction d with
  | zero =>
    intro k i hd hk
    obtain ⟨k, rfl⟩ := succ_of hk
    obtain rfl : i = n := by omega
    rw [laws_heldIntS.l0, if_neg (by omega)]
  | succ d ih =>
    intro k i hd hk
    obtain ⟨k, rfl⟩ := succ_of hk
    rw [laws_heldIntS.l0, if_pos (by omega), if_pos (by omega), rd_nat, getD_rise _ _ _ (by omega), if_pos rfl, wrap_next (n := n) (by omega) (by omega), wrap_id (x := m + i + 1) (by omega) (by omega)]
    rw [show m + (i : Int) + 1 = m + ((i + 1 : Nat) : Int) by push_cast; omega]
    exact ih k (i + 1) (by omega) (by omega)
theorem heldIntS_ev (n : Nat) (m : Int) (hm : 0 ≤ m ∧ m ≤ 1152921504606846976) (hn : n ≤ 1152921504606846976) : Ev (fun k => laws_heldIntS.f k (rise n m) m) (m + n) := by
  refine Ev.of_all n fun k hk => ?_
  unfold laws_heldIntS.f
  have := heldIntS_l0 n hn m hm n k 0 (by omega) hk
  simpa using this
theorem l1In_eq (a b c : Int) : spec_l1In.f a b c = some (decide (b ≤ a ∧ a ≤ c)) := by
  unfold spec_l1In.f
  split
  · rename_i h; congr 1; rw [Bool.eq_iff_iff]; simp; omega
  · rename_i h; congr 1; rw [Bool.eq_iff_iff]; simp; omega
theorem l1All_l0 (l : List Int) (lo hi : Int) (hn : l.length ≤ 4611686018427387904) : ∀ (d k i : Nat), i + d = l.length → d < k → spec_l1All.l0 k lo hi l (l.length : Int) i = some ((l.drop i).all fun x => decide (lo ≤ x ∧ x ≤ hi)) := by
  intro d
  induction d with
  | zero =>
    intro k i hd hk
    obtain ⟨k, rfl⟩ := succ_of hk
    rw [spec_l1All.l0, if_neg (by omega), List.drop_of_length_le (by omega)]; rfl
  | succ d ih =>
    intro k i hd hk
    obtain ⟨k, rfl⟩ := succ_of hk
    rw [spec_l1All.l0, if_pos (by omega), if_pos (by omega), if_pos (by omega), l1In_eq, Option.bind_some, rd_nat, wrap_next (n := l.length) (by omega) hn, ih k (i + 1) (by omega) (by omega), drop_getD (l := l) (i := i) (by omega), List.all_cons]
    split
    · rename_i h; rw [h, Bool.true_and]
    · rename_i h; rw [Bool.not_eq_true] at h; rw [h, Bool.false_and]
theorem l1All_ev (l : List Int) (lo hi : Int) (hn : l.length ≤ 4611686018427387904) : Ev (fun k => spec_l1All.f k l lo hi) (l.all fun x => decide (lo ≤ x ∧ x ≤ hi)) := by
  refine Ev.of_all l.length fun k hk => ?_
  have := l1All_l0 l lo hi hn l.length k 0 (by omega) hk
  simpa [spec_l1All.f] using this
/-- A function value that is a predicate on ints, in every world in which what lay still lies. -/
def PredB (g : Nat) (lb : Array Value) (p : Int → Bool) (w : World) : Prop :=
  ∀ (W : World) (x : Int), Below w.heap.size w W → Calls Try.prog g (#[.int .i64 x] ++ lb) W fun e w' => e = .returned (.bool (p x)) ∧ ∃ q, w' = W.drewN q
theorem drew_below (w : World) (q : Nat) : Below w.heap.size w (w.drewN q) := pw_below_drewN (Below.refl _ w) q
/-- The place of the first element at which p holds, from place i on; -1 where there is none. -/
def idxF (p : Int → Bool) : List Int → Int → Int
  | [], _ => -1
  | x :: r, i => if p x = true then i else idxF p r (i + 1)
theorem idxF_hit (p : Int → Bool) : ∀ (l : List Int) (k : Nat) (i : Int), k < l.length → (∀ j, j < k → p (l.getD j 0) = false) → p (l.getD k 0) = true → idxF p l i = i + k
  | [], k, i, h, _, _ => by simp at h
  | x :: r, 0, i, h, h1, h2 => by
    have : p x = true := by simpa using h2
    simp [idxF, this]
  | x :: r, k + 1, i, h, h1, h2 => by
    have h0 : p x = false := by simpa using h1 0 (by omega)
    have := idxF_hit p r k (i + 1) (by simpa using h) (fun j hj => by simpa using h1 (j + 1) (by omega)) (by simpa using h2)
    simp only [idxF, h0, Bool.false_eq_true, if_false, this]
    push_cast
    omega
theorem idxF_miss (p : Int → Bool) : ∀ (l : List Int) (i : Int), (∀ j, j < l.length → p (l.getD j 0) = false) → idxF p l i = -1
  | [], i, _ => rfl
  | x :: r, i, h => by
    have h0 : p x = false := by simpa using h 0 (by simp)
    have := idxF_miss p r (i + 1) (fun j hj => by simpa using h (j + 1) (by simpa using hj))
    simp [idxF, h0, this]
theorem idxF_nonneg (p : Int → Bool) : ∀ (l : List Int) (i : Int), 0 ≤ i → decide (0 ≤ idxF p l i) = l.any p
  | [], i, _ => by simp [idxF]
  | x :: r, i, hi => by
    cases hx : p x with
    | true => simp [idxF, hx, hi]
    | false => simp only [idxF, hx, Bool.false_eq_true, if_false, List.any_cons, Bool.false_or]; exact idxF_nonneg p r (i + 1) (by omega)
set_option maxHeartbeats 2000000 in
theorem slices_IndexFunc.callsP (A : Option Addr) (c : Nat) (l : List Int) (g : Nat) (lb : Array Value) (p : Int → Bool) (w : World)
    (eg : ∀ args w, (callFunc g args).run Try.prog w = .ok (.enter g args) w)
    (hp0 : PredB g lb p w) (hr : Kd.C (Kd.int .i64) w A l.length l) (hc : l.length ≤ c) :
    Calls Try.prog 40 #[.slice A l.length c, .func (.func g) #[] lb] w fun e w' => e = .returned (.int .i64 (idxF p l 0)) ∧ ∃ q, w' = w.drewN q := by
  have hbig : l.length ≤ 9223372036854775807 := hr.2.1
  have HR := Aside0.mk hr
  clear hr hc
  have hpAt : ∀ (x : Int) (q : Nat), Calls Try.prog g (#[.int .i64 x] ++ lb) (w.drewN q) fun e w' => e = .returned (.bool (p x)) ∧ ∃ q', w' = (w.drewN q).drewN q' := fun x q => hp0 _ x (drew_below w q)
  clear hp0
  go_enter Try.func40, Try.ntmps40
  go_wp2
  go_loopg [5, 8] l.length (fun gg _ s8 wr => ∃ kk q : Nat, kk ≤ l.length ∧ l.length - kk ≤ gg ∧ s8 = .int .i64 kk ∧ wr = w.drewN q ∧ Aside0 (∀ j, j < kk → p (l.getD j 0) = false))
  case atStart => exact ⟨0, 0, Nat.zero_le _, by omega, rfl, rfl, ⟨fun j hj => absurd hj (Nat.not_lt_zero _)⟩⟩
  case round =>
    obtain ⟨kk, q, hkk, hg, rfl, rfl, AA⟩ := hrel
    by_cases hlt : kk < l.length
    · have hltz : (kk : Int) < (l.length : Int) := by omega
      obtain ⟨ad, rfl, hx⟩ := Kd.at_int HR.out (kk : Int) (by omega) hltz
      rw [Int.toNat_natCast] at hx
      obtain ⟨y, hy⟩ : ∃ y, y = rd l (kk : Int) := ⟨_, rfl⟩
      rw [← hy] at hx
      have B : Aside0 (l.getD kk 0 = y) := ⟨by rw [hy, rd, Int.toNat_natCast]⟩
      clear hy
      have hcall := hpAt y
      cases hq : p y with
      | true =>
        rw [hq] at hcall
        go_wp2_with (go_at_fn g; refine (hcall _).mono ?_; rintro e w' ⟨rfl, q', rfl⟩)
        go_ret
        refine ⟨?_, _, rfl⟩
        rw [idxF_hit p l kk 0 hlt AA.out (by rw [B.out]; exact hq)]
        simp
      | false =>
        rw [hq] at hcall
        go_wp2_with (go_at_fn g; refine (hcall _).mono ?_; rintro e w' ⟨rfl, q', rfl⟩)
        go_roundg (l.length - (kk + 1))
        case measure => omega
        case rel =>
          refine ⟨kk + 1, _, by omega, by omega, by go_num, rfl, ⟨fun j hj => ?_⟩⟩
          by_cases e : j = kk
          · subst e
            rw [B.out]; exact hq
          · exact AA.out j (by omega)
    · have hltz : ¬ (kk : Int) < (l.length : Int) := by omega
      obtain rfl : kk = l.length := by omega
      go_wp2
      go_ret
      refine ⟨?_, q, rfl⟩
      rw [idxF_miss p l 0 AA.out]; rfl
set_option maxHeartbeats 1000000 in
theorem slices_ContainsFunc.callsP (A : Option Addr) (c : Nat) (l : List Int) (g : Nat) (lb : Array Value) (p : Int → Bool) (w : World)
    (eg : ∀ args w, (callFunc g args).run Try.prog w = .ok (.enter g args) w)
    (hp0 : PredB g lb p w) (hr : Kd.C (Kd.int .i64) w A l.length l) (hc : l.length ≤ c) :
    Calls Try.prog 28 #[.slice A l.length c, .func (.func g) #[] lb] w fun e w' => e = .returned (.bool (l.any p)) ∧ ∃ q, w' = w.drewN q := by
  rw [← idxF_nonneg p l 0 (by omega)]
  have HR := Aside0.mk hr
  have HP := Aside0.mk hp0
  clear hr hp0
  go_enter Try.func28, Try.ntmps28
  go_wp2_with (go_at_call 40; refine (slices_IndexFunc.callsP _ _ l g lb p _ eg HP.out HR.out hc).mono ?_; rintro e w' ⟨rfl, q, rfl⟩)
  go_ret
  exact ⟨rfl, q, rfl⟩
def outP (a1 a2 x : Int) : Bool := !(decide (a1 ≤ x) && decide (x ≤ a2))
def impl_areBetween.f (l0 : List Int) (a1 : Int) (a2 : Int) : Option (Bool) := some (l0.all fun x => decide (a1 ≤ x) && decide (x ≤ a2))
set_option maxHeartbeats 2000000 in
theorem areBetween_pred (g1 g2 : Nat) (a1 a2 : Int) (w : World) (h1 : w.cell? ⟨g1, 0, none⟩ = some (.int .i64 a1)) (h2 : w.cell? ⟨g2, 0, none⟩ = some (.int .i64 a2)) :
    PredB 29 #[.pointer (some ⟨g1, 0, none⟩), .pointer (some ⟨g2, 0, none⟩)] (outP a1 a2) w := by
  intro W x hb
  have k1 := pw_cell_below hb h1
  have k2 := pw_cell_below hb h2
  clear h1 h2 hb
  simp only [List.append_toArray, List.cons_append, List.nil_append]
  by_cases c1 : a1 ≤ x
  · have d1 : decide (a1 ≤ x) = true := decide_eq_true c1
    by_cases c2 : x ≤ a2
    · have d2 : decide (x ≤ a2) = true := decide_eq_true c2
      go_enter Try.func29, Try.ntmps29
      go_wp2
      go_ret
      exact ⟨by simp [outP, d1, d2], 0, rfl⟩
    · have d2 : decide (x ≤ a2) = false := decide_eq_false c2
      go_enter Try.func29, Try.ntmps29
      go_wp2
      go_ret
      exact ⟨by simp [outP, d1, d2], 0, rfl⟩
  · have d1 : decide (a1 ≤ x) = false := decide_eq_false c1
    go_enter Try.func29, Try.ntmps29
    go_wp2
    go_ret
    exact ⟨by simp [outP, d1], 0, rfl⟩
theorem any_not (l : List Int) (p : Int → Bool) : (!l.any fun x => !p x) = l.all p := by
  induction l with
  | nil => rfl
  | cons x r ih => simp only [List.any_cons, List.all_cons, Bool.not_or, Bool.not_not, ih]
set_option maxHeartbeats 2000000 in
theorem impl_areBetween.calls (A0 : Option Addr) (c0 : Nat) (l0 : List Int) (a1 : Int) (a2 : Int) (r : Bool) (w : World) (hr0 : Kd.C (Kd.int .i64) w A0 l0.length l0) (hc0 : l0.length ≤ c0) (h : impl_areBetween.f l0 a1 a2 = some r) :
    Calls Try.prog 22 #[.slice A0 l0.length c0, .int .i64 a1, .int .i64 a2] w fun e w' => e = .returned (.bool r) ∧ Below w.heap.size w w' := by
  have e1 : r = !l0.any (outP a1 a2) := by
    have := (Option.some.inj h).symm
    rw [this, ← any_not]; rfl
  subst e1
  have HR := Aside0.mk hr0
  clear hr0 h
  go_enter Try.func22, Try.ntmps22
  go_wp2_with (go_at_call 28; refine (slices_ContainsFunc.callsP _ _ l0 _ _ _ _ (enters_of Try.func29 (by kernel_rfl) rfl) (areBetween_pred _ _ a1 a2 _ ?hc1 ?hc2) (Kd.C_alloc (Kd.C_alloc HR.out _) _) hc0).mono ?_; (case hc1 => simp [go_sem]); (case hc2 => simp [go_sem]); rintro e w' ⟨rfl, q, rfl⟩)
  go_ret
  exact ⟨rfl, pw_below_drewN (below_alloc (below_alloc (Below.refl _ _) _) _) q⟩
/-- Two numbers that a point may not have, the first one earlier. -/
def onPlane (a b : Int) : Bool := decide (a = b) || decide (a = b + 100)
def freeAt (l : List Int) (j : Nat) : Bool := (l.take j).all fun a => !onPlane a (l.getD j 0)
def pointB (l : List Int) : Bool := decide (l.length ≤ 8) && (l.all fun x => decide (-100000 ≤ x) && decide (x ≤ 100000)) && (List.range l.length).all (freeAt l)
def impl_isPoint.f (l0 : List Int) : Option (Bool) := some (pointB l0)
theorem all_take_succ (l : List Int) (p : Int → Bool) (i : Nat) (h : i < l.length) : (l.take (i + 1)).all p = ((l.take i).all p && p (l.getD i 0)) := by
  rw [List.take_succ_eq_append_getElem h, List.all_append, List.getD_eq_getElem?_getD, List.getElem?_eq_getElem h]
  simp
theorem all_range_succ (p : Nat → Bool) (n : Nat) : (List.range (n + 1)).all p = ((List.range n).all p && p n) := by
  rw [List.range_succ, List.all_append]; simp
theorem all_range_false (p : Nat → Bool) (n j : Nat) (hj : j < n) (h : p j = false) : (List.range n).all p = false := by
  rw [List.all_eq_false]; exact ⟨j, by simpa using hj, by simp [h]⟩
theorem all_take_false (l : List Int) (p : Int → Bool) (n i : Nat) (hi : i < n) (hn : n ≤ l.length) (h : p (l.getD i 0) = false) : (l.take n).all p = false := by
  rw [List.all_eq_false]
  refine ⟨l.getD i 0, ?_, by rw [h]; simp⟩
  rw [List.mem_take_iff_getElem]
  refine ⟨i, by omega, ?_⟩
  rw [List.getD_eq_getElem?_getD, List.getElem?_eq_getElem (by omega)]; rfl
set_option maxHeartbeats 4000000 in
set_option maxRecDepth 100000 in
theorem isPoint_loops (A0 : Option Addr) (c0 : Nat) (l0 : List Int) (w : World) (hr0 : Kd.C (Kd.int .i64) w A0 l0.length l0) (hc0 : l0.length ≤ c0) (h8 : l0.length ≤ 8) (hb : ∀ j, j < l0.length → -100000 ≤ l0.getD j 0 ∧ l0.getD j 0 ≤ 100000) (hv : impl_areBetween.f l0 (-100000) 100000 = some true) :
    Calls Try.prog 14 #[.slice A0 l0.length c0] w fun e w' => e = .returned (.bool ((List.range l0.length).all (freeAt l0))) ∧ Below w.heap.size w w' := by
  have HR := Aside0.mk hr0
  have HC := Aside0.mk hc0
  have HV := Aside0.mk hv
  have HBN := Aside0.mk hb
  have z0 : (0 : Int) ≤ (l0.length : Int) := by omega
  have z8 : (l0.length : Int) ≤ 8 := by omega
  clear hr0 hv hb
  go_enter Try.func14, Try.ntmps14
  go_wp2_with (first | (go_at_call 22; (with_reducible refine (impl_areBetween.calls _ _ l0 _ _ true _ HR.out HC.out HV.out).mono ?_); rintro e w1 ⟨rfl, hB⟩) | go_in)
  go_loopg [18] l0.length (fun gg s18 wr => ∃ j : Nat, j ≤ l0.length ∧ l0.length - j ≤ gg ∧ s18 = .int .i64 j ∧ wr = w1 ∧ Aside0 ((List.range j).all (freeAt l0) = true))
  case atStart => exact ⟨0, Nat.zero_le _, by omega, rfl, rfl, ⟨rfl⟩⟩
  case round =>
    obtain ⟨j, hj, hg, rfl, rfl, AJ⟩ := hrel
    by_cases hlt : j < l0.length
    · have hltz : (j : Int) < (l0.length : Int) := by omega
      have hjc : (j : Int) ≤ (c0 : Int) := by omega
      have hj0 : (0 : Int) ≤ (j : Int) := by omega
      have hsj : IntKind.i64.wrap ((j : Int) + 1) = (j : Int) + 1 := IntWalk.i64_in _ (by omega)
      obtain ⟨ad, rfl, hx⟩ := Kd.at_int HR.out (j : Int) hj0 hltz
      rw [Int.toNat_natCast] at hx
      have hxw : wr.cell? (ad.add j) = some (.int .i64 (rd l0 (j : Int))) := pw_cell_below hB hx
      obtain ⟨y, hy⟩ : ∃ y, y = rd l0 (j : Int) := ⟨_, rfl⟩
      rw [← hy] at hxw
      have B : Aside0 (l0.getD j 0 = y) := ⟨by rw [hy, rd, Int.toNat_natCast]⟩
      have hyb : -100000 ≤ y ∧ y ≤ 100000 := by rw [← B.out]; exact HBN.out j hlt
      obtain ⟨hyb1, hyb2⟩ := hyb
      clear hy hx hsj
      go_wp2
      go_loopg [6, 27] j (fun g2 s6 s27 wr2 => ∃ i : Nat, i ≤ j ∧ j - i ≤ g2 ∧ s27 = .int .i64 i ∧ wr2 = wr ∧ Aside0 ((l0.take i).all (fun a => !onPlane a (l0.getD j 0)) = true))
      case atStart => exact ⟨0, Nat.zero_le _, by omega, rfl, rfl, ⟨rfl⟩⟩
      case round =>
        obtain ⟨i, hi, hg2, rfl, rfl, AI⟩ := hrel
        by_cases hlt2 : i < j
        · have hltz2 : (i : Int) < (j : Int) := by omega
          have hi0 : (0 : Int) ≤ (i : Int) := by omega
          obtain ⟨ad', e', hx⟩ := Kd.at_int HR.out (i : Int) hi0 (by omega)
          cases e'
          rw [Int.toNat_natCast] at hx
          have hxi : wr.cell? (ad.add i) = some (.int .i64 (rd l0 (i : Int))) := pw_cell_below hB hx
          obtain ⟨z, hz⟩ : ∃ z, z = rd l0 (i : Int) := ⟨_, rfl⟩
          rw [← hz] at hxi
          have Bz : Aside0 (l0.getD i 0 = z) := ⟨by rw [hz, rd, Int.toNat_natCast]⟩
          have hs := all_take_succ l0 (fun a => !onPlane a (l0.getD j 0)) i (by omega)
          rw [AI.out, Bz.out, B.out, Bool.true_and] at hs
          have HS := Aside0.mk hs
          clear hz hx hs
          by_cases c1 : z = y
          · have d1 : (z == y) = true := by simpa using c1
            have bad : Aside0 ((List.range l0.length).all (freeAt l0) = false) := ⟨all_range_false _ _ j hlt (all_take_false l0 _ j i hlt2 (by omega) (by rw [Bz.out, B.out]; simp [onPlane, c1]))⟩
            clear c1
            go_wp2
            go_ret
            exact ⟨by rw [bad.out]; rfl, hB⟩
          · have d1 : (z == y) = false := by simpa using c1
            by_cases c2 : z = y + 100
            · have d2 : (z == y + 100) = true := by simpa using c2
              have bad : Aside0 ((List.range l0.length).all (freeAt l0) = false) := ⟨all_range_false _ _ j hlt (all_take_false l0 _ j i hlt2 (by omega) (by rw [Bz.out, B.out]; simp [onPlane, c2]))⟩
              clear c1 c2
              go_wp2
              go_ret
              exact ⟨by rw [bad.out]; rfl, hB⟩
            · have d2 : (z == y + 100) = false := by simpa using c2
              have good : Aside0 ((l0.take (i + 1)).all (fun a => !onPlane a (l0.getD j 0)) = true) := ⟨by rw [B.out, HS.out]; simp [onPlane, c1, c2]⟩
              clear c1 c2
              go_wp2
              go_roundg (j - (i + 1))
              case measure => omega
              case rel => exact ⟨i + 1, by omega, by omega, by go_num, rfl, good⟩
        · have hltz2 : ¬ (i : Int) < (j : Int) := by omega
          obtain rfl : i = j := by omega
          have good : Aside0 ((List.range (i + 1)).all (freeAt l0) = true) := ⟨by rw [all_range_succ, AJ.out, freeAt, AI.out]; rfl⟩
          go_wp2
          go_roundg (l0.length - (i + 1))
          case measure => omega
          case rel => exact ⟨i + 1, by omega, by omega, by go_num, rfl, good⟩
    · have hltz : ¬ (j : Int) < (l0.length : Int) := by omega
      obtain rfl : j = l0.length := by omega
      go_wp2
      go_ret
      exact ⟨by rw [AJ.out]; rfl, hB⟩
set_option maxHeartbeats 4000000 in
set_option maxRecDepth 100000 in
theorem impl_isPoint.calls (A0 : Option Addr) (c0 : Nat) (l0 : List Int) (r : Bool) (w : World) (hr0 : Kd.C (Kd.int .i64) w A0 l0.length l0) (hc0 : l0.length ≤ c0) (h : impl_isPoint.f l0 = some r) :
    Calls Try.prog 14 #[.slice A0 l0.length c0] w fun e w' => e = .returned (.bool r) ∧ Below w.heap.size w w' := by
  obtain rfl := Option.some.inj h
  clear h
  have hbig : l0.length ≤ 9223372036854775807 := hr0.2.1
  by_cases h8 : l0.length ≤ 8
  · cases hb : (l0.all fun x => decide (-100000 ≤ x) && decide (x ≤ 100000)) with
    | true =>
      have e : pointB l0 = (List.range l0.length).all (freeAt l0) := by unfold pointB; rw [hb]; simp [h8]
      rw [e]
      refine isPoint_loops A0 c0 l0 w hr0 hc0 h8 (fun j hj => ?_) (by unfold impl_areBetween.f; rw [hb])
      rw [List.all_eq_true] at hb
      have := hb (l0.getD j 0) (by rw [List.getD_eq_getElem?_getD, List.getElem?_eq_getElem hj]; exact List.getElem_mem hj)
      simpa using this
    | false =>
      have e : pointB l0 = false := by unfold pointB; rw [hb]; simp
      rw [e]
      have HR := Aside0.mk hr0
      have HC := Aside0.mk hc0
      have HV : Aside0 (impl_areBetween.f l0 (-100000) 100000 = some false) := ⟨by unfold impl_areBetween.f; rw [hb]⟩
      have z0 : (0 : Int) ≤ (l0.length : Int) := by omega
      have z8 : (l0.length : Int) ≤ 8 := by omega
      clear hr0 hb e
      go_enter Try.func14, Try.ntmps14
      go_wp2_with (first | (go_at_call 22; (with_reducible refine (impl_areBetween.calls _ _ l0 _ _ false _ HR.out HC.out HV.out).mono ?_); rintro e w1 ⟨rfl, hB⟩) | go_in)
      go_ret
      exact ⟨rfl, hB⟩
  · have e : pointB l0 = false := by unfold pointB; simp [h8]
    rw [e]
    have z8 : ¬ (l0.length : Int) ≤ 8 := by omega
    have z9 : decide (l0.length ≤ 8) = false := decide_eq_false h8
    have z0 : (0 : Int) ≤ (l0.length : Int) := by omega
    clear hr0 e
    go_enter Try.func14, Try.ntmps14
    go_wp2_with go_in
    go_ret
    exact ⟨rfl, Below.refl _ _⟩
theorem pointB_iff (l : List Int) : pointB l = true ↔ l.length ≤ 8 ∧ (l.all fun x => decide (-100000 ≤ x ∧ x ≤ 100000)) = true ∧ ∀ i j, i < j → j < l.length → onPlane (l.getD i 0) (l.getD j 0) = false := by
  unfold pointB
  simp only [Bool.and_eq_true, decide_eq_true_eq]
  constructor
  · rintro ⟨⟨h1, h2⟩, h3⟩
    refine ⟨h1, ?_, fun i j hij hj => ?_⟩
    · rw [List.all_eq_true] at h2 ⊢
      intro x hx; simpa using h2 x hx
    · rw [List.all_eq_true] at h3
      have := h3 j (by simpa using hj)
      unfold freeAt at this
      rw [List.all_eq_true] at this
      have := this (l.getD i 0) (by
        rw [List.mem_take_iff_getElem]
        refine ⟨i, by omega, ?_⟩
        rw [List.getD_eq_getElem?_getD, List.getElem?_eq_getElem (by omega)]; rfl)
      simpa using this
  · rintro ⟨h1, h2, h3⟩
    refine ⟨⟨h1, ?_⟩, ?_⟩
    · rw [List.all_eq_true] at h2 ⊢
      intro x hx; simpa using h2 x hx
    · rw [List.all_eq_true]
      intro j hj
      unfold freeAt
      rw [List.all_eq_true]
      intro a ha
      rw [List.mem_take_iff_getElem] at ha
      obtain ⟨i, hi, rfl⟩ := ha
      have := h3 i j (by omega) (by simpa using hj)
      rw [List.getD_eq_getElem?_getD (i := i), List.getElem?_eq_getElem (by omega)] at this
      simpa using this
theorem pointB_get {l : List Int} (h : pointB l = true) (j : Nat) : -100000 ≤ l.getD j 0 ∧ l.getD j 0 ≤ 100000 := by
  have h2 := ((pointB_iff l).1 h).2.1
  rw [List.all_eq_true] at h2
  rcases Nat.lt_or_ge j l.length with hj | hj
  · have := h2 (l.getD j 0) (by rw [List.getD_eq_getElem?_getD, List.getElem?_eq_getElem hj]; exact List.getElem_mem hj)
    simpa using this
  · rw [List.getD_eq_getElem?_getD, List.getElem?_eq_none hj]; simp
theorem pointB_false {l : List Int} {i j : Nat} (hij : i < j) (hj : j < l.length) (h : onPlane (l.getD i 0) (l.getD j 0) = true) : pointB l = false := by
  cases hp : pointB l with
  | false => rfl
  | true => rw [((pointB_iff l).1 hp).2.2 i j hij hj] at h; cases h
theorem onPlane_same {a b : Int} (h : a = b) : onPlane a b = true := by subst h; simp [onPlane]
theorem onPlane_up {a b : Int} (h : a = b + 100) : onPlane a b = true := by subst h; simp [onPlane]
theorem rePoint_loops (l : List Int) (h8 : l.length ≤ 8) (hb : (l.all fun x => decide (-100000 ≤ x ∧ x ≤ 100000)) = true) :
    ∀ (d i : Nat), i + d = l.length → (∀ a b, a < i → a < b → b < l.length → onPlane (l.getD a 0) (l.getD b 0) = false) → Ev (fun k => spec_rePoint.l0 k l (l.length : Int) i) (pointB l) := by
  have hg : ∀ j, -100000 ≤ l.getD j 0 ∧ l.getD j 0 ≤ 100000 := by
    intro j
    rw [List.all_eq_true] at hb
    rcases Nat.lt_or_ge j l.length with hj | hj
    · have := hb (l.getD j 0) (by rw [List.getD_eq_getElem?_getD, List.getElem?_eq_getElem hj]; exact List.getElem_mem hj)
      simpa using this
    · rw [List.getD_eq_getElem?_getD, List.getElem?_eq_none hj]; simp
  intro d
  induction d with
  | zero =>
    intro i hd ha
    refine Ev.end_ fun k => ?_
    rw [spec_rePoint.l0, if_neg (by omega)]
    congr 1
    symm
    rw [pointB_iff]
    exact ⟨h8, hb, fun i' j h1 h2 => ha i' j (by omega) h1 h2⟩
  | succ d ih =>
    intro i hd ha
    refine Ev.step (f := fun k => spec_rePoint.l1 k l (i : Int) ((i + 1 : Nat) : Int) (l.length : Int) (i : Int)) (fun k => by rw [spec_rePoint.l0, if_pos (by omega), wrap_next (n := l.length) (by omega) (by omega)]) ?_
    have inner : ∀ (e j : Nat), j + e = l.length → i < j → (∀ b, i < b → b < j → onPlane (l.getD i 0) (l.getD b 0) = false) → Ev (fun k => spec_rePoint.l1 k l (i : Int) (j : Int) (l.length : Int) (i : Int)) (pointB l) := by
      intro e
      induction e with
      | zero =>
        intro j hj hij hb2
        refine Ev.step (f := fun k => spec_rePoint.l0 k l (l.length : Int) ((i + 1 : Nat) : Int)) (fun k => by rw [spec_rePoint.l1, if_neg (by omega), wrap_next (n := l.length) (by omega) (by omega)]) ?_
        refine ih (i + 1) (by omega) (fun a b h1 h2 h3 => ?_)
        rcases Nat.lt_or_ge a i with h4 | h4
        · exact ha a b h4 h2 h3
        · have : a = i := by omega
          subst this
          exact hb2 b h2 (by omega)
      | succ e ihe =>
        intro j hj hij hb2
        have g1 := hg i
        have g2 := hg j
        by_cases c1 : l.getD i 0 = l.getD j 0
        · refine Ev.end_ fun k => ?_
          rw [spec_rePoint.l1, if_pos (by omega), if_pos (by omega), if_pos (by omega), if_pos (by omega), rd_nat, rd_nat, if_pos c1, pointB_false hij (by omega) (onPlane_same c1)]
        · by_cases c2 : l.getD i 0 - l.getD j 0 = 100
          · refine Ev.end_ fun k => ?_
            rw [spec_rePoint.l1, if_pos (by omega), if_pos (by omega), if_pos (by omega), if_pos (by omega), rd_nat, rd_nat, if_neg c1, wrap_id (by omega) (by omega), if_pos c2, pointB_false hij (by omega) (onPlane_up (by omega))]
          · refine Ev.one (ihe (j + 1) (by omega) (by omega) (fun b h1 h2 => ?_)) fun k => ?_
            · rcases Nat.lt_or_ge b j with h3 | h3
              · exact hb2 b h1 h3
              · have : b = j := by omega
                subst this
                have c3 : ¬ l.getD i 0 = l.getD b 0 + 100 := by omega
                simp only [onPlane, c1, c3, decide_false, Bool.or_self]
            · rw [spec_rePoint.l1, if_pos (by omega), if_pos (by omega), if_pos (by omega), if_pos (by omega), rd_nat, rd_nat, if_neg c1, wrap_id (by omega) (by omega), if_neg c2, wrap_next (n := l.length) (by omega) (by omega)]
    exact inner d (i + 1) (by omega) (by omega) (fun b h1 h2 => by omega)
theorem rePoint_ev (l : List Int) (hn : l.length ≤ 4611686018427387904) : Ev (fun k => spec_rePoint.f k l) (pointB l) := by
  unfold spec_rePoint.f
  by_cases h8 : l.length ≤ 8
  · simp only [show ¬ ((l.length : Int) > 8) from by omega, if_false]
    refine Ev.bind (l1All_ev l _ _ hn) ?_
    cases hb : (l.all fun x => decide (-100000 ≤ x ∧ x ≤ 100000)) with
    | true =>
      refine Ev.step (f := fun k => spec_rePoint.l0 k l (l.length : Int) 0) (fun k => by rw [spec_rePoint.j0, if_neg (by simp)]) ?_
      exact rePoint_loops l h8 hb l.length 0 (by omega) (fun a b h => absurd h (Nat.not_lt_zero _))
    | false =>
      have : pointB l = false := by
        cases hp : pointB l with
        | false => rfl
        | true => rw [((pointB_iff l).1 hp).2.1] at hb; cases hb
      rw [this]
      exact Ev.end_ fun k => by rw [spec_rePoint.j0, if_pos (by simp)]
  · simp only [show ((l.length : Int) > 8) from by omega, if_true]
    have : pointB l = false := by
      cases hp : pointB l with
      | false => rfl
      | true => exact absurd ((pointB_iff l).1 hp).1 h8
    rw [this]
    exact Ev.end_ fun k => by rw [spec_rePoint.j0, if_pos rfl]
def side2 (x y : List Int) (i j : Nat) (u : Int) : Int := if (decide (x.getD i 0 - x.getD j 0 > u) != decide (y.getD i 0 - y.getD j 0 > u)) = true then 1 else 0
end Go.Proofs.Ytjpdhdcknoffmaa.G
namespace Go.Proofs
open Go.Shelf
def Try.laysSlF6_f15_ren : Go.Shelf.Ren := ⟨fun | 6 => 15 | 15 => 24 | 14 => 23 | 28 => 38 | 29 => 39 | 20 => 30 | 21 => 31 | 22 => 32 | 23 => 33 | 24 => 34 | 25 => 35 | 26 => 36 | 27 => 37 | 46 => 41 | 47 => 42 | 48 => 43 | 49 => 44 | 50 => 45 | 57 => 46 | n => n, fun | 22 => 22 | 24 => 3 | 25 => 35 | 3 => 3 | 39 => 40 | 0 => 0 | 53 => 52 | 55 => 54 | 4 => 4 | 46 => 45 | 45 => 44 | 50 => 49 | 5 => 5 | 9 => 9 | 66 => 56 | 70 => 60 | 76 => 62 | 77 => 63 | n => n, fun | n => n⟩
theorem Try.laysSlF6_f15 : Go.Proofs.SlLaysF.n6 Try.prog Try.laysSlF6_f15_ren := {
  mixed := by kernel_rfl
  f6 := ⟨Try.f15.name, by decide, Try.func15.trans (congrArg some (by kernel_rfl))⟩
  f14 := ⟨Try.f23.name, by decide, Try.func23.trans (congrArg some (by kernel_rfl))⟩
  f15 := Try.func24.trans (congrArg some (by kernel_rfl))
  f20 := ⟨Try.f30.name, by decide, Try.func30.trans (congrArg some (by kernel_rfl))⟩
  f21 := ⟨Try.f31.name, by decide, Try.func31.trans (congrArg some (by kernel_rfl))⟩
  f22 := ⟨Try.f32.name, by decide, Try.func32.trans (congrArg some (by kernel_rfl))⟩
  f23 := ⟨Try.f33.name, by decide, Try.func33.trans (congrArg some (by kernel_rfl))⟩
  f24 := ⟨Try.f34.name, by decide, Try.func34.trans (congrArg some (by kernel_rfl))⟩
  f25 := ⟨Try.f35.name, by decide, Try.func35.trans (congrArg some (by kernel_rfl))⟩
  f26 := ⟨Try.f36.name, by decide, Try.func36.trans (congrArg some (by kernel_rfl))⟩
  f27 := ⟨Try.f37.name, by decide, Try.func37.trans (congrArg some (by kernel_rfl))⟩
  f28 := Try.func38.trans (congrArg some (by kernel_rfl))
  f29 := Try.func39.trans (congrArg some (by kernel_rfl))
  f46 := ⟨Try.f41.name, by decide, Try.func41.trans (congrArg some (by kernel_rfl))⟩
  f47 := Try.func42.trans (congrArg some (by kernel_rfl))
  f48 := Try.func43.trans (congrArg some (by kernel_rfl))
  f49 := ⟨Try.f44.name, by decide, Try.func44.trans (congrArg some (by kernel_rfl))⟩
  f50 := ⟨Try.f45.name, by decide, Try.func45.trans (congrArg some (by kernel_rfl))⟩
  f57 := ⟨Try.f46.name, by decide, Try.func46.trans (congrArg some (by kernel_rfl))⟩
  t0 := Try.underlying0
  a0 := Try.isAgg0
  z0 := Try.sizeOf0
  v0 := Try.zeroValue0
  t3 := Try.underlying3
  a3 := Try.isAgg3
  z3 := Try.sizeOf3
  v3 := Try.zeroValue3
  t4 := Try.underlying4
  a4 := Try.isAgg4
  z4 := Try.sizeOf4
  v4 := Try.zeroValue4
  t5 := Try.underlying5
  a5 := Try.isAgg5
  z5 := Try.sizeOf5
  v5 := Try.zeroValue5
  t9 := Try.underlying9
  a9 := Try.isAgg9
  z9 := Try.sizeOf9
  v9 := Try.zeroValue9
  t22 := Try.underlying22
  a22 := Try.isAgg22
  z22 := Try.sizeOf22
  v22 := Try.zeroValue22
  a24 := Try.isAgg3
  z24 := Try.sizeOf3
  t25 := Try.underlying35
  a25 := Try.isAgg35
  z25 := Try.sizeOf35
  v25 := Try.zeroValue35
  t39 := Try.underlying40
  a39 := Try.isAgg40
  z39 := Try.sizeOf40
  v39 := Try.zeroValue40
  t45 := Try.underlying44
  a45 := Try.isAgg44
  z45 := Try.sizeOf44
  v45 := Try.zeroValue44
  t46 := Try.underlying45
  a46 := Try.isAgg45
  z46 := Try.sizeOf45
  v46 := Try.zeroValue45
  t50 := Try.underlying49
  a50 := Try.isAgg49
  z50 := Try.sizeOf49
  v50 := Try.zeroValue49
  t53 := Try.underlying52
  a53 := Try.isAgg52
  z53 := Try.sizeOf52
  v53 := Try.zeroValue52
  t55 := Try.underlying54
  a55 := Try.isAgg54
  z55 := Try.sizeOf54
  v55 := Try.zeroValue54
  t66 := Try.underlying56
  a66 := Try.isAgg56
  z66 := Try.sizeOf56
  v66 := Try.zeroValue56
  t70 := Try.underlying60
  a70 := Try.isAgg60
  z70 := Try.sizeOf60
  v70 := Try.zeroValue60
  t76 := Try.underlying62
  a76 := Try.isAgg62
  z76 := Try.sizeOf62
  v76 := Try.zeroValue62
  t77 := Try.underlying63
  a77 := Try.isAgg63
  z77 := Try.sizeOf63
  v77 := Try.zeroValue63 }
def Try.laysSlF06_f15_ren : Go.Shelf.Ren := ⟨fun | 6 => 15 | 15 => 24 | 14 => 23 | 28 => 38 | 29 => 39 | 20 => 30 | 21 => 31 | 22 => 32 | 23 => 33 | 24 => 34 | 25 => 35 | 26 => 36 | 27 => 37 | 46 => 41 | 47 => 42 | 48 => 43 | 49 => 44 | 50 => 45 | 57 => 46 | n => n, fun | 22 => 22 | 24 => 3 | 25 => 35 | 3 => 3 | 39 => 40 | 0 => 0 | 53 => 52 | 55 => 54 | 4 => 4 | 46 => 45 | 45 => 44 | 50 => 49 | 5 => 5 | 9 => 9 | 66 => 56 | 70 => 60 | 76 => 62 | 77 => 63 | n => n, fun | n => n⟩
theorem Try.laysSlF06_f15 : Go.Proofs.SlLaysF0.n6 Try.prog Try.laysSlF06_f15_ren := {
  mixed := by kernel_rfl
  f6 := ⟨Try.f15.name, by decide, Try.func15.trans (congrArg some (by kernel_rfl))⟩
  f14 := ⟨Try.f23.name, by decide, Try.func23.trans (congrArg some (by kernel_rfl))⟩
  f15 := Try.func24.trans (congrArg some (by kernel_rfl))
  f20 := ⟨Try.f30.name, by decide, Try.func30.trans (congrArg some (by kernel_rfl))⟩
  f21 := ⟨Try.f31.name, by decide, Try.func31.trans (congrArg some (by kernel_rfl))⟩
  f22 := ⟨Try.f32.name, by decide, Try.func32.trans (congrArg some (by kernel_rfl))⟩
  f23 := ⟨Try.f33.name, by decide, Try.func33.trans (congrArg some (by kernel_rfl))⟩
  f24 := ⟨Try.f34.name, by decide, Try.func34.trans (congrArg some (by kernel_rfl))⟩
  f25 := ⟨Try.f35.name, by decide, Try.func35.trans (congrArg some (by kernel_rfl))⟩
  f26 := ⟨Try.f36.name, by decide, Try.func36.trans (congrArg some (by kernel_rfl))⟩
  f27 := ⟨Try.f37.name, by decide, Try.func37.trans (congrArg some (by kernel_rfl))⟩
  f28 := Try.func38.trans (congrArg some (by kernel_rfl))
  f29 := Try.func39.trans (congrArg some (by kernel_rfl))
  f46 := ⟨Try.f41.name, by decide, Try.func41.trans (congrArg some (by kernel_rfl))⟩
  f47 := Try.func42.trans (congrArg some (by kernel_rfl))
  f48 := Try.func43.trans (congrArg some (by kernel_rfl))
  f49 := ⟨Try.f44.name, by decide, Try.func44.trans (congrArg some (by kernel_rfl))⟩
  f50 := ⟨Try.f45.name, by decide, Try.func45.trans (congrArg some (by kernel_rfl))⟩
  f57 := ⟨Try.f46.name, by decide, Try.func46.trans (congrArg some (by kernel_rfl))⟩
  t0 := Try.underlying0
  a0 := Try.isAgg0
  z0 := Try.sizeOf0
  v0 := Try.zeroValue0
  t3 := Try.underlying3
  a3 := Try.isAgg3
  z3 := Try.sizeOf3
  v3 := Try.zeroValue3
  t4 := Try.underlying4
  a4 := Try.isAgg4
  z4 := Try.sizeOf4
  v4 := Try.zeroValue4
  t5 := Try.underlying5
  a5 := Try.isAgg5
  z5 := Try.sizeOf5
  v5 := Try.zeroValue5
  t9 := Try.underlying9
  a9 := Try.isAgg9
  z9 := Try.sizeOf9
  v9 := Try.zeroValue9
  t22 := Try.underlying22
  a22 := Try.isAgg22
  z22 := Try.sizeOf22
  v22 := Try.zeroValue22
  t25 := Try.underlying35
  a25 := Try.isAgg35
  z25 := Try.sizeOf35
  v25 := Try.zeroValue35
  t39 := Try.underlying40
  a39 := Try.isAgg40
  z39 := Try.sizeOf40
  v39 := Try.zeroValue40
  t45 := Try.underlying44
  a45 := Try.isAgg44
  z45 := Try.sizeOf44
  v45 := Try.zeroValue44
  t46 := Try.underlying45
  a46 := Try.isAgg45
  z46 := Try.sizeOf45
  v46 := Try.zeroValue45
  t50 := Try.underlying49
  a50 := Try.isAgg49
  z50 := Try.sizeOf49
  v50 := Try.zeroValue49
  t53 := Try.underlying52
  a53 := Try.isAgg52
  z53 := Try.sizeOf52
  v53 := Try.zeroValue52
  t55 := Try.underlying54
  a55 := Try.isAgg54
  z55 := Try.sizeOf54
  v55 := Try.zeroValue54
  t66 := Try.underlying56
  a66 := Try.isAgg56
  z66 := Try.sizeOf56
  v66 := Try.zeroValue56
  t70 := Try.underlying60
  a70 := Try.isAgg60
  z70 := Try.sizeOf60
  v70 := Try.zeroValue60
  t76 := Try.underlying62
  a76 := Try.isAgg62
  z76 := Try.sizeOf62
  v76 := Try.zeroValue62
  t77 := Try.underlying63
  a77 := Try.isAgg63
  z77 := Try.sizeOf63
  v77 := Try.zeroValue63 }
open Go.RowKit Go.Lib Go.Sort in
theorem Try.slices_SortFunc_none {α : Type} [Inhabited α] (p : Option Addr) (cap : Nat) (fv : Value) (w : World) :
    Calls Try.prog 15 #[.slice p 0 cap, fv] w fun e w' => e = .returned (.tuple #[]) ∧ w' = w := AnyF.slices_SortFunc_none Try.laysSlF06_f15 p cap fv w
open Go.RowKit Go.Lib Go.Sort in
theorem Try.slices_SortFunc_total {α : Type} [Inhabited α] (enc : α → Value) (h1 : OneCell enc) (cf : α → α → Int) (hO : SWO (ltOf cf)) (g : Nat) (cb : Array Value) (blk off cap : Nat) (d : Array α) (w : World) (eg : ∀ args w, (callFunc g args).run Try.prog w = .ok (.enter g args) w) (hcmp : CmpLays1 Try.prog g cb enc cf blk off d.size w) (hH : Holds enc w blk off d) (hblk : blk < w.heap.size) (hsz : d.size < 4611686018427387904) (hT : ∀ x y, (ltOf cf) x y = false → (ltOf cf) y x = false → x = y) :
    Calls Try.prog 15 #[.slice (some ⟨blk, off, none⟩) d.size cap, .func (.func g) #[] cb] w fun e w' =>
      e = .returned (.tuple #[]) ∧ ∃ n os, w' = sortWorld enc w blk off n (d.toList.mergeSort fun x y => !(ltOf cf) y x).toArray os := Any.slices_SortFunc_total Try.laysSlF6_f15 enc h1 cf hO g cb blk off cap d w eg hcmp hH hblk hsz hT
end Go.Proofs
namespace Go.Proofs.Ytjpdhdcknoffmaa.G
open Go.RowKit Go.Sort Go.Proofs.YtjpdhdcknoffmaaW.PrintWords Go.Proofs.YtjpdhdcknoffmaaW.PrintLast Go.Proofs.YtjpdhdcknoffmaaW.PrintMore
set_option linter.unusedVariables false
set_option linter.unusedSimpArgs false
theorem grownBy_sortedE {α : Type} [Inhabited α] (enc : α → Value) {w : World} {g off n : Nat} {os : Array Obj} (d : Array α) : w.grownBy (grow (putRow enc (Sort.ahead w n) g off d) os) (some g) := by
  refine ⟨rfl, rfl, rfl, by simp, fun k hk hne => ?_⟩
  rw [heap_grow_old _ _ (by simpa using hk)]
  have : g ≠ k := fun e => hne (by rw [e])
  simp [putRow, mapBlock, Sort.ahead, Array.getElem?_modify, this]
theorem heap_sortedE {α : Type} [Inhabited α] (enc : α → Value) {w : World} {g n : Nat} {os : Array Obj} {cur : Array Value} {e : TypeId} {fr : Nat × Nat} (d : Array α) (hb : w.heap[g]? = some (.cells cur e fr)) :
    (grow (putRow enc (Sort.ahead w n) g 0 d) os).heap[g]? = some (.cells (putCells enc 0 d cur) e fr) := by
  have hg : g < w.heap.size := (Array.getElem?_eq_some_iff.1 hb).1
  rw [heap_grow_old _ _ (by simpa using hg)]
  simp [putRow, mapBlock, Sort.ahead, Array.getElem?_modify, hb, onCells]
theorem take_putCellsE {α : Type} [Inhabited α] (enc : α → Value) (cur : Array Value) (ts : List α) (h : ts.length ≤ cur.size) : (putCells enc 0 ts.toArray cur).toList.take ts.length = ts.map enc := by
  apply List.ext_getElem?
  intro j
  by_cases hj : j < ts.length
  · rw [List.getElem?_take_of_lt hj, Array.getElem?_toList]
    simp [putCells, hj, show j < cur.size by omega]
  · rw [List.getElem?_take_eq_none (by omega), List.getElem?_eq_none (by simp; omega)]
/-- The comparison of two places: which number is greater. -/
def cfP (l : List Int) (i j : Fin l.length) : Int := l.getD j 0 - l.getD i 0
def encP (n : Nat) (i : Fin n) : Value := .int .i64 ((i : Nat) : Int)
theorem ltP (l : List Int) (i j : Fin l.length) : ltOf (cfP l) i j = decide (l.getD j 0 < l.getD i 0) := by
  unfold ltOf cfP
  by_cases h : l.getD j 0 < l.getD i 0
  · have h' : l.getD j 0 - l.getD i 0 < 0 := by omega
    simp only [h, h', decide_true]
  · have h' : ¬ l.getD j 0 - l.getD i 0 < 0 := by omega
    simp only [h, h', decide_false]
theorem swoP (l : List Int) : SWO (ltOf (cfP l)) where
  irrefl x := by rw [ltP, decide_eq_false_iff_not]; omega
  trans x y z h1 h2 := by rw [ltP, decide_eq_true_eq] at *; omega
  ntrans x y z h1 h2 := by rw [ltP, decide_eq_false_iff_not] at *; omega
/-- The places by their numbers, the greatest first. -/
def byNum (l : List Int) : List (Fin l.length) := (List.finRange l.length).mergeSort fun (x y : Fin l.length) => decide (l.getD y 0 ≤ l.getD x 0)
theorem geP (l : List Int) : (fun x y : Fin l.length => !ltOf (cfP l) y x) = fun (x y : Fin l.length) => decide (l.getD y 0 ≤ l.getD x 0) := by
  funext x y
  rw [ltP]
  by_cases h : l.getD y 0 ≤ l.getD x 0
  · have h' : ¬ l.getD x 0 < l.getD y 0 := by omega
    simp only [h, h', decide_true, decide_false, Bool.not_false]
  · have h' : l.getD x 0 < l.getD y 0 := by omega
    simp only [h, h', decide_true, decide_false, Bool.not_true]
def idxZ (n : Nat) : List Int := (List.range n).map fun (i : Nat) => (i : Int)
def byNumZ (l : List Int) : List Int := (byNum l).map fun (i : Fin l.length) => ((i : Nat) : Int)
theorem byNumZ_len (l : List Int) : (byNumZ l).length = l.length := by
  unfold byNumZ byNum; rw [List.length_map, List.length_mergeSort, List.length_finRange]
theorem pointB_bound {l : List Int} (h : pointB l = true) : l.length ≤ 8 ∧ ∀ j, j < l.length → -100000 ≤ l.getD j 0 ∧ l.getD j 0 ≤ 100000 := by
  unfold pointB at h
  simp only [Bool.and_eq_true, decide_eq_true_eq, List.all_eq_true] at h
  refine ⟨h.1.1, fun j hj => h.1.2 _ ?_⟩
  rw [List.getD_eq_getElem?_getD, List.getElem?_eq_getElem hj]
  exact List.getElem_mem hj
theorem pointB_inj {l : List Int} (h : pointB l = true) (i j : Nat) (hi : i < l.length) (hj : j < l.length) (e : l.getD i 0 = l.getD j 0) : i = j := by
  have key : ∀ a b : Nat, a < b → b < l.length → l.getD a 0 ≠ l.getD b 0 := fun a b hab hb he => by
    unfold pointB at h
    simp only [Bool.and_eq_true, List.all_eq_true] at h
    have h1 := h.2 b (List.mem_range.2 hb)
    unfold freeAt at h1
    rw [List.all_eq_true] at h1
    have h2 := h1 (l.getD a 0) (by
      rw [List.mem_take_iff_getElem]
      refine ⟨a, by omega, ?_⟩
      rw [List.getD_eq_getElem?_getD, List.getElem?_eq_getElem (by omega)]; rfl)
    rw [onPlane, he] at h2
    simp at h2
  rcases Nat.lt_trichotomy i j with h1 | h1 | h1
  · exact absurd e (key i j h1 hj)
  · exact h1
  · exact absurd e.symm (key j i h1 hi)
set_option maxHeartbeats 2000000 in
set_option maxRecDepth 100000 in
/-- The closure: func(i, j int) int { return x[j] - x[i] }, x in a cell of its own. -/
theorem closureP (l0 : List Int) (A0 : Option Addr) (c0 gx : Nat) (W : World) (hx : W.cell? ⟨gx, 0, none⟩ = some (.slice A0 l0.length c0)) (hr : Kd.C (Kd.int .i64) W A0 l0.length l0) (hc : l0.length ≤ c0)
    (h8 : l0.length ≤ 8) (hb : ∀ j, j < l0.length → -100000 ≤ l0.getD j 0 ∧ l0.getD j 0 ≤ 100000) (i j : Nat) (hi : i < l0.length) (hj : j < l0.length) :
    Calls Try.prog 16 #[.int .i64 (i : Int), .int .i64 (j : Int), .pointer (some ⟨gx, 0, none⟩)] W fun e w' => e = .returned (.int .i64 (l0.getD j 0 - l0.getD i 0)) ∧ ∃ q, w' = W.drewN q := by
  obtain ⟨ad, rfl, hx1⟩ := Kd.at_int hr (i : Int) (by omega) (by omega)
  obtain ⟨ad', e', hx2⟩ := Kd.at_int hr (j : Int) (by omega) (by omega)
  cases e'
  rw [Int.toNat_natCast] at hx1 hx2
  have e1 : Go.Proofs.YtjpdhdcknoffmaaW.PrintWords.rd l0 (i : Int) = l0.getD i 0 := by rw [Go.Proofs.YtjpdhdcknoffmaaW.PrintWords.rd, Int.toNat_natCast]
  have e2 : Go.Proofs.YtjpdhdcknoffmaaW.PrintWords.rd l0 (j : Int) = l0.getD j 0 := by rw [Go.Proofs.YtjpdhdcknoffmaaW.PrintWords.rd, Int.toNat_natCast]
  rw [e1] at hx1
  rw [e2] at hx2
  have b1 := hb i hi
  have b2 := hb j hj
  obtain ⟨y, hy⟩ : ∃ y, y = l0.getD i 0 := ⟨_, rfl⟩
  obtain ⟨z, hz⟩ : ∃ z, z = l0.getD j 0 := ⟨_, rfl⟩
  rw [← hy] at hx1 b1 ⊢
  rw [← hz] at hx2 b2 ⊢
  clear hy hz e1 e2 hb
  have p1 : (0 : Int) ≤ (i : Int) := by omega
  have q1 : (i : Int) < (l0.length : Int) := by omega
  have p2 : (0 : Int) ≤ (j : Int) := by omega
  have q2 : (j : Int) < (l0.length : Int) := by omega
  have hwr : IntKind.i64.wrap (z - y) = z - y := IntWalk.i64_in _ (by omega)
  go_enter Try.func16, Try.ntmps16
  go_wp2
  repeat (go_quiet (fail); try go_wp2)
  go_ret
  exact ⟨rfl, _, rfl⟩
set_option maxHeartbeats 2000000 in
set_option maxRecDepth 100000 in
/-- The sort, over the caller's own row of places. -/
theorem sortPlaces (l0 : List Int) (A0 : Option Addr) (c0 gx : Nat) (Ao : Option Addr) (co : Nat) (ok : Nat → Prop) (w0 W : World) (hbk : W.heap[gx]? = some (.cells #[.slice A0 l0.length c0] 22 (0, 0))) (hr : Kd.C (Kd.int .i64) w0 A0 l0.length l0) (hB : Below w0.heap.size w0 W) (hc : l0.length ≤ c0)
    (hp : pointB l0 = true) (ho : Kd.R (Kd.int .i64) 3 W w0.heap.size ok (.slice Ao l0.length co) (idxZ l0.length)) :
    Calls Try.prog 15 #[.slice Ao l0.length co, .func (.func 16) #[] #[.pointer (some ⟨gx, 0, none⟩)]] W fun e w' => e = .returned (.tuple #[]) ∧ Kd.R (Kd.int .i64) 3 w' w0.heap.size ok (.slice Ao l0.length co) (byNumZ l0) ∧ Below w0.heap.size w0 w' ∧
      ∃ row : Option Nat, W.grownBy w' row ∧ (∀ k, row = some k → w0.heap.size ≤ k ∧ (Value.slice Ao l0.length co).ownBlock = some k) := by
  obtain ⟨h8, hb⟩ := pointB_bound hp
  rcases Nat.eq_zero_or_pos l0.length with h0 | hpos
  · have : l0 = [] := List.eq_nil_of_length_eq_zero h0
    subst this
    refine (Try.slices_SortFunc_none (α := Int) Ao co _ W).mono ?_
    rintro e w' ⟨rfl, rfl⟩
    exact ⟨rfl, by simpa [byNumZ, byNum, idxZ] using ho, hB, none, World.grownBy.refl _ _, fun k h => by cases h⟩
  · have how := Kd.own_of_R ho
    have hli : (idxZ l0.length).length = l0.length := by unfold idxZ; simp
    rcases how.2 with ⟨hn, hz⟩ | ⟨gb, cap', cur, hv, hbase, hgb, r1, r2, r3, r4⟩
    · rw [hli] at hz; omega
    rw [hli] at hv
    injection hv with hv1 hv2 hv3
    subst hv1 hv3
    have hgl : gb < W.heap.size := (Array.getElem?_eq_some_iff.1 hgb).1
    have hne : gx ≠ gb := by
      rintro rfl
      rw [hbk] at hgb
      cases hgb
    haveI : Inhabited (Fin l0.length) := ⟨⟨0, hpos⟩⟩
    have hH : Holds (encP l0.length) W gb 0 (List.finRange l0.length).toArray := by
      intro j hj
      have hj' : j < l0.length := by simpa using hj
      refine ⟨?_, by simp [World.frozen?, hgb]⟩
      have h1 : (cur.toList.take (idxZ l0.length).length)[j]? = (encs (Value.int .i64) (idxZ l0.length))[j]? := by rw [← r4, Nat.mul_one]
      rw [hli, List.getElem?_take_of_lt hj'] at h1
      simp only [World.cell?, hgb, Nat.zero_add]
      simp only [Option.isSome_none, Bool.false_eq_true, if_false]
      rw [← Array.getElem?_toList, h1]
      simp [encs, idxZ, encP, hj']
    have hcmp : CmpLays1 Try.prog 16 #[.pointer (some ⟨gx, 0, none⟩)] (encP l0.length) (cfP l0) gb 0 (List.finRange l0.length).toArray.size W := by
      refine CmpReads.lays fun m os dk hs x y => ?_
      have hg := grownBy_sortedE (encP l0.length) (w := W) (g := gb) (off := 0) (n := m) (os := os) dk
      have hbx := blk_grown hbk hg (fun e => hne (Option.some.inj e))
      refine closureP l0 A0 c0 gx _ (blk_cell hbx 0) ?_ hc h8 hb x.val y.val x.isLt y.isLt
      exact Kd.C_below hr (hB.grown hg hB.size (fun j hj => by cases hj; exact hbase))
    have hsz : (List.finRange l0.length).toArray.size < 4611686018427387904 := by simp; omega
    have eg : ∀ args w, (callFunc 16 args).run Try.prog w = .ok (.enter 16 args) w := Go.Proofs.enters_of Try.func16 (by kernel_rfl) rfl
    have hS := Try.slices_SortFunc_total (encP l0.length) (fun _ => rfl) (cfP l0) (swoP l0) 16 #[.pointer (some ⟨gx, 0, none⟩)] gb 0 co (List.finRange l0.length).toArray W eg hcmp hH hgl hsz
      (fun x y h1 h2 => by
        rw [ltP, decide_eq_false_iff_not] at h1 h2
        exact Fin.ext (pointB_inj hp _ _ x.isLt y.isLt (by omega)))
    rw [geP] at hS
    have hsize : (List.finRange l0.length).toArray.size = l0.length := by simp
    rw [hsize] at hS
    refine hS.mono ?_
    rintro e w' ⟨rfl, n, os, rfl⟩
    refine ⟨rfl, ?_, hB.grown (grownBy_sortedE _ _) hB.size (fun j hj => by cases hj; exact hbase), some gb, grownBy_sortedE _ _, fun k hk => by cases hk; exact ⟨hbase, rfl⟩⟩
    refine Kd.R_of_own (enc := Value.int .i64) (h1 := fun _ => rfl) ?_ ho.1
    rw [byNumZ_len]
    rw [hli] at r1
    refine ⟨by simp [encs, byNumZ_len], .inr ⟨gb, co, _, rfl, hbase, heap_sortedE _ _ hgb, r1, r2, by simp [putCells, r3], ?_⟩⟩
    have hl2 : (byNum l0).length = l0.length := by unfold byNum; rw [List.length_mergeSort, List.length_finRange]
    have := take_putCellsE (encP l0.length) cur (byNum l0) (by rw [hl2, r3]; omega)
    rw [hl2] at this
    rw [show (byNumZ l0) = (byNum l0).map fun (i : Fin l0.length) => ((i : Nat) : Int) from rfl]
    rw [show encs (Value.int .i64) ((byNum l0).map fun (i : Fin l0.length) => ((i : Nat) : Int)) = (byNum l0).map (encP l0.length) by simp [encs, encP, Function.comp_def]]
    rw [Nat.mul_one]
    simpa only [byNum, List.toList_toArray] using this
end Go.Proofs.Ytjpdhdcknoffmaa.G
namespace Go.Proofs.Ytjpdhdcknoffmaa.G
open Go.RowKit Go.Proofs.YtjpdhdcknoffmaaW.PrintWords Go.Proofs.YtjpdhdcknoffmaaW.PrintLast Go.Proofs.YtjpdhdcknoffmaaW.PrintMore
attribute [local go_sem] max2_int min2_int max_two min_two max_three min_three max_four min_four   -- for this text's walks alone
set_option linter.unusedVariables false
set_option linter.unusedSimpArgs false
def slices_SortFunc_int_int.f (os l : List Int) : Option (List Int) := if os = idxZ l.length ∧ pointB l = true then some (byNumZ l) else none
theorem sortCall (l0 : List Int) (A0 : Option Addr) (c0 gx : Nat) (Ao : Option Addr) (co : Nat) (w0 W : World) (os t : List Int) (h : slices_SortFunc_int_int.f os l0 = some t) (hbk : W.heap[gx]? = some (.cells #[.slice A0 l0.length c0] 22 (0, 0))) (hr : Kd.C (Kd.int .i64) w0 A0 l0.length l0) (hB : Below w0.heap.size w0 W) (hc : l0.length ≤ c0)
    (ho : Kd.R (Kd.int .i64) 3 W w0.heap.size (fun _ => True) (.slice Ao os.length co) os) :
    Calls Try.prog 15 #[.slice Ao os.length co, .func (.func 16) #[] #[.pointer (some ⟨gx, 0, none⟩)]] W fun e w' => e = .returned (.tuple #[]) ∧ os.length = t.length ∧ Kd.R (Kd.int .i64) 3 w' w0.heap.size (fun _ => True) (.slice Ao t.length co) t ∧ Below w0.heap.size w0 w' ∧
      ∀ (g : Nat) (cells : Array Value) (ty : TypeId), W.heap[g]? = some (.cells cells ty (0, 0)) → 3 ≠ ty → w'.heap[g]? = some (.cells cells ty (0, 0)) := by
  unfold slices_SortFunc_int_int.f at h
  split at h
  case isFalse => cases h
  rename_i hcond
  obtain ⟨hos, hpt⟩ := hcond
  obtain rfl := Option.some.inj h
  have hl : (idxZ l0.length).length = l0.length := by unfold idxZ; simp
  subst hos
  rw [hl] at ho ⊢
  rw [byNumZ_len]
  refine (sortPlaces l0 A0 c0 gx Ao co (fun _ => True) w0 W hbk hr hB hc hpt ho).mono ?_
  rintro e w' ⟨rfl, hR, hb, row, hg, hrow⟩
  refine ⟨rfl, rfl, hR, hb, fun g cells ty hgk hty => ?_⟩
  refine blk_grown hgk hg fun e1 => ?_
  exact Kd.R_ne ho hgk hty (e1.trans (by
    cases row with
    | none => cases e1
    | some k => exact (hrow k rfl).2.symm))
mutual
def impl_RegionOfPointK.l0 : Nat → Int → Int → List Int → List Int → Option (List Int × List Int × Bool)
  | 0, _, _, _, _ => none
  | k + 1, x17, x18, x102000, x105000 => if x18 < x17 then (if x105000.length < 17592186044416 then (impl_RegionOfPointK.l0 k x17 (wrap64 (x18 + 1)) x102000 (x105000 ++ [x18])) else (none)) else ((slices_SortFunc_int_int.f x105000 x102000).bind fun t108 => (impl_RegionOfPointK.l1 k 0 t108 (t108.length : Int) 0 x102000 t108 ([] : List Int)))
def impl_RegionOfPointK.l1 : Nat → Int → List Int → Int → Int → List Int → List Int → List Int → Option (List Int × List Int × Bool)
  | 0, _, _, _, _, _, _, _ => none
  | k + 1, x6, x33, x34, x35, x102000, x105000, x105001 => if x35 < x34 then (if 0 ≤ x35 then (if x35 < (x33.length : Int) then (impl_RegionOfPointK.l2 k x6 x35 (rd x33 x35) x6 x33 x34 x35 x102000 x105000 x105001) else (none)) else (none)) else (some (x105000, x105001, true))
def impl_RegionOfPointK.l2 : Nat → Int → Int → Int → Int → List Int → Int → Int → List Int → List Int → List Int → Option (List Int × List Int × Bool)
  | 0, _, _, _, _, _, _, _, _, _, _ => none
  | k + 1, x6, x7, x8, x9, x33, x34, x35, x102000, x105000, x105001 => if x9 < x7 then (if 0 ≤ x9 then (if x9 < (x105000.length : Int) then (if (rd x105000 x9) < x8 then (if 0 ≤ (rd x105000 x9) then (if (rd x105000 x9) < (x102000.length : Int) then (if 0 ≤ x8 then (if x8 < (x102000.length : Int) then (if (rd x102000 (rd x105000 x9)) > (wrap64 ((rd x102000 x8) + 100)) then (impl_RegionOfPointK.l2 k (wrap64 (x9 + 1)) x7 x8 (wrap64 (x9 + 1)) x33 x34 x35 x102000 x105000 x105001) else (impl_RegionOfPointK.l2 k x6 x7 x8 (wrap64 (x9 + 1)) x33 x34 x35 x102000 x105000 x105001)) else (none)) else (none)) else (none)) else (none)) else (impl_RegionOfPointK.l2 k x6 x7 x8 (wrap64 (x9 + 1)) x33 x34 x35 x102000 x105000 x105001)) else (none)) else (none)) else (if x105001.length < 17592186044416 then (impl_RegionOfPointK.l1 k x6 x33 x34 (wrap64 (x35 + 1)) x102000 x105000 (x105001 ++ [x6])) else (none))
end
def impl_RegionOfPointK.f (k : Nat) (l0_0 : List Int) : Option (List Int × List Int × Bool) := (impl_isPoint.f l0_0).bind fun t103 => (if t103 = true then (impl_RegionOfPointK.l0 k (l0_0.length : Int) 0 l0_0 ([] : List Int)) else (some (([] : List Int), ([] : List Int), false)))
theorem impl_RegionOfPointK.mono_l : ∀ k, (∀ y0 y1 y2 y3, LeO (impl_RegionOfPointK.l0 k y0 y1 y2 y3) (impl_RegionOfPointK.l0 (k + 1) y0 y1 y2 y3)) ∧ (∀ y0 y1 y2 y3 y4 y5 y6, LeO (impl_RegionOfPointK.l1 k y0 y1 y2 y3 y4 y5 y6) (impl_RegionOfPointK.l1 (k + 1) y0 y1 y2 y3 y4 y5 y6)) ∧ (∀ y0 y1 y2 y3 y4 y5 y6 y7 y8 y9, LeO (impl_RegionOfPointK.l2 k y0 y1 y2 y3 y4 y5 y6 y7 y8 y9) (impl_RegionOfPointK.l2 (k + 1) y0 y1 y2 y3 y4 y5 y6 y7 y8 y9))
  | 0 => ⟨fun _ _ _ _ r h => by simp [impl_RegionOfPointK.l0] at h, fun _ _ _ _ _ _ _ r h => by simp [impl_RegionOfPointK.l1] at h, fun _ _ _ _ _ _ _ _ _ _ r h => by simp [impl_RegionOfPointK.l2] at h⟩
  | k + 1 => by
    obtain ⟨ih0, ih1, ih2⟩ := impl_RegionOfPointK.mono_l k
    refine ⟨?_, ?_, ?_⟩
    · intro y0 y1 y2 y3
      unfold impl_RegionOfPointK.l0
      repeat' first
      | (with_reducible exact ih0 _ _ _ _)
      | (with_reducible exact ih1 _ _ _ _ _ _ _)
      | (with_reducible exact ih2 _ _ _ _ _ _ _ _ _ _)
      | (with_reducible exact LeO.refl _)
      | (with_reducible exact LeO.none _)
      | (with_reducible refine LeO.ite ?_ ?_)
      | (with_reducible refine LeO.bind ?_ (fun _ => ?_))
      | exact ih0 _ _ _ _
      | exact ih1 _ _ _ _ _ _ _
      | exact ih2 _ _ _ _ _ _ _ _ _ _
      | exact LeO.none _
      | refine LeO.ite ?_ ?_
      | refine LeO.bind ?_ (fun _ => ?_)
    · intro y0 y1 y2 y3 y4 y5 y6
      unfold impl_RegionOfPointK.l1
      repeat' first
      | (with_reducible exact ih0 _ _ _ _)
      | (with_reducible exact ih1 _ _ _ _ _ _ _)
      | (with_reducible exact ih2 _ _ _ _ _ _ _ _ _ _)
      | (with_reducible exact LeO.refl _)
      | (with_reducible exact LeO.none _)
      | (with_reducible refine LeO.ite ?_ ?_)
      | (with_reducible refine LeO.bind ?_ (fun _ => ?_))
      | exact ih0 _ _ _ _
      | exact ih1 _ _ _ _ _ _ _
      | exact ih2 _ _ _ _ _ _ _ _ _ _
      | exact LeO.none _
      | refine LeO.ite ?_ ?_
      | refine LeO.bind ?_ (fun _ => ?_)
    · intro y0 y1 y2 y3 y4 y5 y6 y7 y8 y9
      unfold impl_RegionOfPointK.l2
      repeat' first
      | (with_reducible exact ih0 _ _ _ _)
      | (with_reducible exact ih1 _ _ _ _ _ _ _)
      | (with_reducible exact ih2 _ _ _ _ _ _ _ _ _ _)
      | (with_reducible exact LeO.refl _)
      | (with_reducible exact LeO.none _)
      | (with_reducible refine LeO.ite ?_ ?_)
      | (with_reducible refine LeO.bind ?_ (fun _ => ?_))
      | exact ih0 _ _ _ _
      | exact ih1 _ _ _ _ _ _ _
      | exact ih2 _ _ _ _ _ _ _ _ _ _
      | exact LeO.none _
      | refine LeO.ite ?_ ?_
      | refine LeO.bind ?_ (fun _ => ?_)
theorem impl_RegionOfPointK.mono : ∀ a0 k, LeO (impl_RegionOfPointK.f k a0) (impl_RegionOfPointK.f (k + 1) a0) := by
  intro a0 k
  obtain ⟨ih0, ih1, ih2⟩ := impl_RegionOfPointK.mono_l k
  unfold impl_RegionOfPointK.f
  repeat' first
      | (with_reducible exact ih0 _ _ _ _)
      | (with_reducible exact ih1 _ _ _ _ _ _ _)
      | (with_reducible exact ih2 _ _ _ _ _ _ _ _ _ _)
      | (with_reducible exact LeO.refl _)
      | (with_reducible exact LeO.none _)
      | (with_reducible refine LeO.ite ?_ ?_)
      | (with_reducible refine LeO.bind ?_ (fun _ => ?_))
      | exact ih0 _ _ _ _
      | exact ih1 _ _ _ _ _ _ _
      | exact ih2 _ _ _ _ _ _ _ _ _ _
      | exact LeO.none _
      | refine LeO.ite ?_ ?_
      | refine LeO.bind ?_ (fun _ => ?_)
end Go.Proofs.Ytjpdhdcknoffmaa.G
