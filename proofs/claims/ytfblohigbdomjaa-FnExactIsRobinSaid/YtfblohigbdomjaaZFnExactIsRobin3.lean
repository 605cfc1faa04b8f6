/- The law FnExactIsRobin: part 3 of the printed functions and the facts on them that its row leans on (merged by this session's slim.py). -/
import Derived.Test.YtfblohigbdomjaaZFnExactIsRobin2
namespace Go.Proofs.Ytfblohigbdomjaa.G
open Go.RowKit Go.Proofs.YtfblohigbdomjaaW.PrintWords Go.Proofs.YtfblohigbdomjaaW.PrintLast Go.Proofs.YtfblohigbdomjaaW.PrintMore
attribute [local go_sem] max2_int min2_int max_two min_two max_three min_three max_four min_four   -- for this text's walks alone
set_option linter.unusedVariables false
set_option linter.unusedSimpArgs false
/-! ### laws_FnExactIsRobin: function 6 -/
def laws_FnExactIsRobin.j0 : Nat → Bool → List Int → List Int → Option (Bool)
  | 0, _, _, _ => none
  | k + 1, x34, x462000, x472000 => if x34 = true then (some false) else ((laws_toTable.f k x462000).bind fun t474 => ((laws_eqTable.f k x472000 t474).bind fun t477 => (if t477 = true then (some true) else (some false))))
def laws_FnExactIsRobin.f (k : Nat) (l0_0 : List Int) : Option (Bool) := (laws_szTable.f l0_0 1048576).bind fun t462 => (if t462 < 0 then (some true) else ((laws_toTable.f k l0_0).bind fun t463 => ((spec_IsRobin.f k t463).bind fun bt466 => ((laws_toTable.f k l0_0).bind fun t468 => ((impl_IsRobin.f k t468).bind fun bt472 => (if (bt472.1 != bt466.1) = true then (laws_FnExactIsRobin.j0 k true l0_0 t468) else (laws_FnExactIsRobin.j0 k (bt472.2 != bt466.2) l0_0 t468)))))))
theorem laws_FnExactIsRobin.mono_l : ∀ k, (∀ y0 y1 y2, LeO (laws_FnExactIsRobin.j0 k y0 y1 y2) (laws_FnExactIsRobin.j0 (k + 1) y0 y1 y2))
  | 0 => fun _ _ _ r h => by simp [laws_FnExactIsRobin.j0] at h
  | k + 1 => by
    have ih0 := laws_FnExactIsRobin.mono_l k
    · intro y0 y1 y2
      unfold laws_FnExactIsRobin.j0
      repeat' first
      | (with_reducible exact ih0 _ _ _)
      | (with_reducible exact impl_IsRobin.mono _ _)
      | (with_reducible exact laws_eqTable.mono _ _ _)
      | (with_reducible exact laws_toTable.mono _ _)
      | (with_reducible exact spec_IsRobin.mono _ _)
      | (with_reducible exact LeO.refl _)
      | (with_reducible exact LeO.none _)
      | (with_reducible refine LeO.ite ?_ ?_)
      | (with_reducible refine LeO.bind ?_ (fun _ => ?_))
      | exact ih0 _ _ _
      | exact impl_IsRobin.mono _ _
      | exact laws_eqTable.mono _ _ _
      | exact laws_toTable.mono _ _
      | exact spec_IsRobin.mono _ _
      | exact LeO.none _
      | refine LeO.ite ?_ ?_
      | refine LeO.bind ?_ (fun _ => ?_)
theorem laws_FnExactIsRobin.mono : ∀ a0 k, LeO (laws_FnExactIsRobin.f k a0) (laws_FnExactIsRobin.f (k + 1) a0) := by
  intro a0 k
  have ih0 := laws_FnExactIsRobin.mono_l k
  unfold laws_FnExactIsRobin.f
  repeat' first
      | (with_reducible exact ih0 _ _ _)
      | (with_reducible exact impl_IsRobin.mono _ _)
      | (with_reducible exact laws_eqTable.mono _ _ _)
      | (with_reducible exact laws_toTable.mono _ _)
      | (with_reducible exact spec_IsRobin.mono _ _)
      | (with_reducible exact LeO.refl _)
      | (with_reducible exact LeO.none _)
      | (with_reducible refine LeO.ite ?_ ?_)
      | (with_reducible refine LeO.bind ?_ (fun _ => ?_))
      | exact ih0 _ _ _
      | exact impl_IsRobin.mono _ _
      | exact laws_eqTable.mono _ _ _
      | exact laws_toTable.mono _ _
      | exact spec_IsRobin.mono _ _
      | exact LeO.none _
      | refine LeO.ite ?_ ?_
      | refine LeO.bind ?_ (fun _ => ?_)
set_option maxHeartbeats 8000000 in
set_option maxRecDepth 100000 in
theorem laws_FnExactIsRobin.calls (k : Nat) (A0_0 : Option Addr) (c0_0 : Nat) (l0_0 : List Int) (r : Bool) (w : World) (hr0_0 : Kd.C (Kd.int .i64) w A0_0 l0_0.length l0_0) (hc0_0 : l0_0.length ≤ c0_0) (h : laws_FnExactIsRobin.f k l0_0 = some r) :
    Calls Try.prog 6 #[.agg #[.slice A0_0 l0_0.length c0_0]] w fun e w' => e = .returned (.bool r) ∧ Below w.heap.size w w' := by
  have hu33 := Try.underlying33
  have hu24 := Try.underlying24
  have HR0_0 := Aside0.mk hr0_0
  have HC0_0 := Aside0.mk hc0_0
  clear hr0_0 hc0_0
  have HB := Aside0.mk (Below.refl w.heap.size w)
  have H : ((laws_szTable.f l0_0 1048576).bind fun t462 => (if t462 < 0 then (some true) else ((laws_toTable.f k l0_0).bind fun t463 => ((spec_IsRobin.f k t463).bind fun bt466 => ((laws_toTable.f k l0_0).bind fun t468 => ((impl_IsRobin.f k t468).bind fun bt472 => (if (bt472.1 != bt466.1) = true then (laws_FnExactIsRobin.j0 k true l0_0 t468) else (laws_FnExactIsRobin.j0 k (bt472.2 != bt466.2) l0_0 t468)))))))) = some r := h
  clear h
  replace H := Option.bind_eq_some_iff.mp H
  obtain ⟨t462, A20, H⟩ := H
  replace H : (if t462 < 0 then (some true) else ((laws_toTable.f k l0_0).bind fun t463 => ((spec_IsRobin.f k t463).bind fun bt466 => ((laws_toTable.f k l0_0).bind fun t468 => ((impl_IsRobin.f k t468).bind fun bt472 => (if (bt472.1 != bt466.1) = true then (laws_FnExactIsRobin.j0 k true l0_0 t468) else (laws_FnExactIsRobin.j0 k (bt472.2 != bt466.2) l0_0 t468))))))) = some r := H
  have A2 := Aside0.mk A20
  clear A20
  by_cases c3 : t462 < 0
  · rw [if_pos c3] at H
    have c3b0 : decide (t462 < 0) = true := decide_eq_true c3
    clear c3
    obtain rfl := Option.some.inj H
    go_enter Try.func6, Try.ntmps6
    go_wp2_with (first | ((with_reducible refine gate_dst (N := 1) rfl ?_); refine box_event ?hg (N := 1) ?hd (cs := #[.slice A0_0 l0_0.length c0_0]) (t := 33) ?hr ?_; (case hd => rfl); (case hg => rfl); (case hr => first | (go_simp; done) | (go_simp; rfl)); intro gb461 hg w4 hbox hb; have n0_ := Aside0.mk (below_step (by repeat (first | (with_reducible first | exact HB.out | apply below_alloc | apply pw_below_drewN | apply below_drew1) | exact HB.out)) hb); have n1_ := Aside0.mk (hbox); have n2_ := Aside0.mk ((by rw [hg]; exact (below_size (by repeat (first | (with_reducible first | exact HB.out | apply below_alloc | apply pw_below_drewN | apply below_drew1) | exact HB.out))) : w.heap.size ≤ gb461)); have n3_ := Aside0.mk ((by rw [hg]; exact (below_size (by repeat (first | (with_reducible first | exact HB.out | apply below_alloc | apply pw_below_drewN | apply below_drew1) | exact HB.out))) : w.heap.size ≤ gb461)); clear HB; have HB := n0_; have BK461 := n1_; have GW461 := n2_; have GE461 := n3_; clear n0_ n1_ n2_ n3_; clear hb hbox hg; have hcz5_0 : w4.cell? ⟨gb461, 0, none⟩ = some (.slice A0_0 l0_0.length c0_0) := (blk_cell BK461.out 0).trans rfl; have hfz5_0 := blk_frozen BK461.out 0) | ((with_reducible refine gate_callee (f := 21) rfl ?_); refine goesL_ (some 11) rfl rfl Try.func21 (by kernel_rfl) rfl #[.agg #[.slice A0_0 l0_0.length c0_0], .int .i64 1048576] rfl (by (try simp only [List.map_toArray, List.map_cons, List.map_nil]); first | done | rfl | (simp only [List.length_drop, List.length_take]; rfl)) ?_; (with_reducible refine (laws_szTable.calls _ _ l0_0 1048576 t462 _ ?side1 ?side2 A2.out).mono ?_); (case side1 => repeat (first | exact (Kd.C_below HR0_0.out HB.out) | (with_reducible refine Kd.C_alloc ?_ _) | (with_reducible refine Kd.C_drewN ?_ _) | (with_reducible refine Kd.C_drew ?_))); (case side2 => exact HC0_0.out); rintro e w6 ⟨rfl, hb⟩; refine ⟨_, rfl, ?_⟩; have n0_ := Aside0.mk (blk_below (g := gb461) (o := .cells #[.slice A0_0 l0_0.length c0_0] 33 (0, 0)) (by (with_reducible repeat (first | refine blk_drewN ?_ _ | refine blk_drew ?_ | refine blk_alloc ?_ _)); exact BK461.out) hb); have n1_ := Aside0.mk (below_step (by repeat (first | (with_reducible first | exact HB.out | apply below_alloc | apply pw_below_drewN | apply below_drew1 | refine below_set ?_ GE461.out) | exact HB.out)) hb); clear BK461; clear HB; have BK461 := n0_; have HB := n1_; clear n0_ n1_; (try clear hb); (try clear hb2); (try clear hk); (try clear hi)))
    go_ret
    exact ⟨by first | rfl | (simp [errW_none, errW_some] <;> rfl) | (simp [*, errW_none, errW_some] <;> rfl), by repeat (first | (with_reducible first | exact HB.out | apply below_alloc | apply pw_below_drewN | apply below_drew1 | refine below_set ?_ GE461.out) | exact HB.out)⟩
  · rw [if_neg c3] at H
    have c3b0 : decide (t462 < 0) = false := decide_eq_false c3
    clear c3
    replace H := Option.bind_eq_some_iff.mp H
    obtain ⟨t463, A70, H⟩ := H
    replace H : ((spec_IsRobin.f k t463).bind fun bt466 => ((laws_toTable.f k l0_0).bind fun t468 => ((impl_IsRobin.f k t468).bind fun bt472 => (if (bt472.1 != bt466.1) = true then (laws_FnExactIsRobin.j0 k true l0_0 t468) else (laws_FnExactIsRobin.j0 k (bt472.2 != bt466.2) l0_0 t468))))) = some r := H
    have A7 := Aside0.mk A70
    clear A70
    replace H := Option.bind_eq_some_iff.mp H
    obtain ⟨⟨t466, t467⟩, A80, H⟩ := H
    replace H : ((laws_toTable.f k l0_0).bind fun t468 => ((impl_IsRobin.f k t468).bind fun bt472 => (if (bt472.1 != t466) = true then (laws_FnExactIsRobin.j0 k true l0_0 t468) else (laws_FnExactIsRobin.j0 k (bt472.2 != t467) l0_0 t468)))) = some r := H
    have A8 := Aside0.mk A80
    clear A80
    replace H := Option.bind_eq_some_iff.mp H
    obtain ⟨t468, A90, H⟩ := H
    replace H : ((impl_IsRobin.f k t468).bind fun bt472 => (if (bt472.1 != t466) = true then (laws_FnExactIsRobin.j0 k true l0_0 t468) else (laws_FnExactIsRobin.j0 k (bt472.2 != t467) l0_0 t468))) = some r := H
    have A9 := Aside0.mk A90
    clear A90
    replace H := Option.bind_eq_some_iff.mp H
    obtain ⟨⟨t472, t473⟩, A100, H⟩ := H
    replace H : (if (t472 != t466) = true then (laws_FnExactIsRobin.j0 k true l0_0 t468) else (laws_FnExactIsRobin.j0 k (t473 != t467) l0_0 t468)) = some r := H
    have A10 := Aside0.mk A100
    clear A100
    have HC11 := Aside0.mk H
    clear H
    go_enter Try.func6, Try.ntmps6
    go_upto_region 8 with (first | ((with_reducible refine gate_dst (N := 1) rfl ?_); refine box_event ?hg (N := 1) ?hd (cs := #[.slice A0_0 l0_0.length c0_0]) (t := 33) ?hr ?_; (case hd => rfl); (case hg => rfl); (case hr => first | (go_simp; done) | (go_simp; rfl)); intro gb461 hg w12 hbox hb; have n0_ := Aside0.mk (below_step (by repeat (first | (with_reducible first | exact HB.out | apply below_alloc | apply pw_below_drewN | apply below_drew1) | exact HB.out)) hb); have n1_ := Aside0.mk (hbox); have n2_ := Aside0.mk ((by rw [hg]; exact (below_size (by repeat (first | (with_reducible first | exact HB.out | apply below_alloc | apply pw_below_drewN | apply below_drew1) | exact HB.out))) : w.heap.size ≤ gb461)); have n3_ := Aside0.mk ((by rw [hg]; exact (below_size (by repeat (first | (with_reducible first | exact HB.out | apply below_alloc | apply pw_below_drewN | apply below_drew1) | exact HB.out))) : w.heap.size ≤ gb461)); clear HB; have HB := n0_; have BK461 := n1_; have GW461 := n2_; have GE461 := n3_; clear n0_ n1_ n2_ n3_; clear hb hbox hg; have hcz13_0 : w12.cell? ⟨gb461, 0, none⟩ = some (.slice A0_0 l0_0.length c0_0) := (blk_cell BK461.out 0).trans rfl; have hfz13_0 := blk_frozen BK461.out 0) | ((with_reducible refine gate_callee (f := 21) rfl ?_); refine goesL_ (some 11) rfl rfl Try.func21 (by kernel_rfl) rfl #[.agg #[.slice A0_0 l0_0.length c0_0], .int .i64 1048576] rfl (by (try simp only [List.map_toArray, List.map_cons, List.map_nil]); first | done | rfl | (simp only [List.length_drop, List.length_take]; rfl)) ?_; (with_reducible refine (laws_szTable.calls _ _ l0_0 1048576 t462 _ ?side1 ?side2 A2.out).mono ?_); (case side1 => repeat (first | exact (Kd.C_below HR0_0.out HB.out) | (with_reducible refine Kd.C_alloc ?_ _) | (with_reducible refine Kd.C_drewN ?_ _) | (with_reducible refine Kd.C_drew ?_))); (case side2 => exact HC0_0.out); rintro e w14 ⟨rfl, hb⟩; refine ⟨_, rfl, ?_⟩; have n0_ := Aside0.mk (blk_below (g := gb461) (o := .cells #[.slice A0_0 l0_0.length c0_0] 33 (0, 0)) (by (with_reducible repeat (first | refine blk_drewN ?_ _ | refine blk_drew ?_ | refine blk_alloc ?_ _)); exact BK461.out) hb); have n1_ := Aside0.mk (below_step (by repeat (first | (with_reducible first | exact HB.out | apply below_alloc | apply pw_below_drewN | apply below_drew1 | refine below_set ?_ GE461.out) | exact HB.out)) hb); clear BK461; clear HB; have BK461 := n0_; have HB := n1_; clear n0_ n1_; (try clear hb); (try clear hb2); (try clear hk); (try clear hi); have hcz15_0 : w14.cell? ⟨gb461, 0, none⟩ = some (.slice A0_0 l0_0.length c0_0) := (blk_cell BK461.out 0).trans rfl; have hfz15_0 := blk_frozen BK461.out 0) | ((with_reducible refine gate_callee (f := 23) rfl ?_); refine goesL_ (some 16) rfl rfl Try.func23 (by kernel_rfl) rfl #[.agg #[.slice A0_0 l0_0.length c0_0]] rfl (by (try simp only [List.map_toArray, List.map_cons, List.map_nil]); first | done | rfl | (simp only [List.length_drop, List.length_take]; rfl)) ?_; (with_reducible refine (laws_toTable.calls k _ _ l0_0 t463 _ ?side1 ?side2 A7.out).mono ?_); (case side1 => repeat (first | exact (Kd.C_below HR0_0.out HB.out) | (with_reducible refine Kd.C_alloc ?_ _) | (with_reducible refine Kd.C_drewN ?_ _) | (with_reducible refine Kd.C_drew ?_))); (case side2 => exact HC0_0.out); rintro e w16 ⟨v464, rfl, ho0, hb⟩; refine ⟨_, rfl, ?_⟩; have n0_ := Aside0.mk (Kd.R_lower ho0 (below_size (by repeat (first | (with_reducible first | exact HB.out | apply below_alloc | apply pw_below_drewN | apply below_drew1 | refine below_set ?_ GE461.out) | exact HB.out)))); have n1_ := Aside0.mk (blk_below (g := gb461) (o := .cells #[.slice A0_0 l0_0.length c0_0] 33 (0, 0)) (by (with_reducible repeat (first | refine blk_drewN ?_ _ | refine blk_drew ?_ | refine blk_alloc ?_ _)); exact BK461.out) hb); have n2_ := Aside0.mk (below_step (by repeat (first | (with_reducible first | exact HB.out | apply below_alloc | apply pw_below_drewN | apply below_drew1 | refine below_set ?_ GE461.out) | exact HB.out)) hb); clear BK461; clear HB; have HO465 := n0_; have BK461 := n1_; have HB := n2_; clear n0_ n1_ n2_; (try clear hb); (try clear hb2); (try clear hk); (try clear hi); (try clear ho0); obtain ⟨Ao17, co17, eo17⟩ := Kd.R_slice HO465.out; subst eo17) | ((with_reducible refine gate_callee (f := 25) rfl ?_); refine goesL_ (some 17) rfl rfl Try.func25 (by kernel_rfl) rfl #[.agg #[.slice Ao17 t463.length co17]] rfl (by (try simp only [List.map_toArray, List.map_cons, List.map_nil]); first | done | rfl | (simp only [List.length_drop, List.length_take]; rfl)) ?_; (with_reducible refine (spec_IsRobin.calls k _ _ t463 t466 t467 _ ?side1 ?side2 A8.out).mono ?_); (case side1 => repeat (first | exact (Kd.R_reads' HO465.out).2.2 | (with_reducible refine Kd.C_alloc ?_ _) | (with_reducible refine Kd.C_drewN ?_ _) | (with_reducible refine Kd.C_drew ?_))); (case side2 => exact (Kd.R_reads' HO465.out).2.1); rintro e w18 ⟨rfl, hb⟩; refine ⟨_, rfl, ?_⟩; have n0_ := Aside0.mk (Kd.R_below (by (with_reducible repeat (first | apply Kd.R_alloc | apply Kd.R_drewN | apply Kd.R_drew)); exact HO465.out) hb); have n1_ := Aside0.mk (blk_below (g := gb461) (o := .cells #[.slice A0_0 l0_0.length c0_0] 33 (0, 0)) (by (with_reducible repeat (first | refine blk_drewN ?_ _ | refine blk_drew ?_ | refine blk_alloc ?_ _)); exact BK461.out) hb); have n2_ := Aside0.mk (below_step (by repeat (first | (with_reducible first | exact HB.out | apply below_alloc | apply pw_below_drewN | apply below_drew1 | refine below_set ?_ GE461.out) | exact HB.out)) hb); clear HO465; clear BK461; clear HB; have HO465 := n0_; have BK461 := n1_; have HB := n2_; clear n0_ n1_ n2_; (try clear hb); (try clear hb2); (try clear hk); (try clear hi); have hcz19_0 : w18.cell? ⟨gb461, 0, none⟩ = some (.slice A0_0 l0_0.length c0_0) := (blk_cell BK461.out 0).trans rfl; have hfz19_0 := blk_frozen BK461.out 0) | ((with_reducible refine gate_callee (f := 23) rfl ?_); refine goesL_ (some 21) rfl rfl Try.func23 (by kernel_rfl) rfl #[.agg #[.slice A0_0 l0_0.length c0_0]] rfl (by (try simp only [List.map_toArray, List.map_cons, List.map_nil]); first | done | rfl | (simp only [List.length_drop, List.length_take]; rfl)) ?_; (with_reducible refine (laws_toTable.calls k _ _ l0_0 t468 _ ?side1 ?side2 A9.out).mono ?_); (case side1 => repeat (first | exact (Kd.C_below HR0_0.out HB.out) | (with_reducible refine Kd.C_alloc ?_ _) | (with_reducible refine Kd.C_drewN ?_ _) | (with_reducible refine Kd.C_drew ?_))); (case side2 => exact HC0_0.out); rintro e w20 ⟨v469, rfl, ho0, hb⟩; refine ⟨_, rfl, ?_⟩; have n0_ := Aside0.mk (Kd.R_elder' (by (with_reducible repeat (first | apply Kd.R_alloc | apply Kd.R_drewN | apply Kd.R_drew)); exact HO465.out) (Kd.R_base ho0) hb); have n1_ := Aside0.mk (Kd.R_lower (Kd.R_new' ho0 (Kd.R_lt (by (with_reducible repeat (first | apply Kd.R_alloc | apply Kd.R_drewN | apply Kd.R_drew)); exact HO465.out))) (below_size (by repeat (first | (with_reducible first | exact HB.out | apply below_alloc | apply pw_below_drewN | apply below_drew1 | refine below_set ?_ GE461.out) | exact HB.out)))); have n2_ := Aside0.mk (blk_below (g := gb461) (o := .cells #[.slice A0_0 l0_0.length c0_0] 33 (0, 0)) (by (with_reducible repeat (first | refine blk_drewN ?_ _ | refine blk_drew ?_ | refine blk_alloc ?_ _)); exact BK461.out) hb); have n3_ := Aside0.mk (below_step (by repeat (first | (with_reducible first | exact HB.out | apply below_alloc | apply pw_below_drewN | apply below_drew1 | refine below_set ?_ GE461.out) | exact HB.out)) hb); clear HO465; clear BK461; clear HB; have HO465 := n0_; have HO470 := n1_; have BK461 := n2_; have HB := n3_; clear n0_ n1_ n2_ n3_; (try clear hb); (try clear hb2); (try clear hk); (try clear hi); (try clear ho0)) | ((with_reducible refine gate_dst (N := 6) rfl ?_); refine box_event ?hg (N := 6) ?hd (cs := #[.slice none 0 0]) (t := 24) ?hr ?_; (case hd => rfl); (case hg => rfl); (case hr => first | (go_simp; done) | (go_simp; rfl)); intro gb471 hg w21 hbox hb; have n0_ := Aside0.mk (Kd.R_below (by (with_reducible repeat (first | apply Kd.R_alloc | apply Kd.R_drewN | apply Kd.R_drew)); exact HO465.out) hb); have n1_ := Aside0.mk (Kd.R_below (by (with_reducible repeat (first | apply Kd.R_alloc | apply Kd.R_drewN | apply Kd.R_drew)); exact HO470.out) hb); have n2_ := Aside0.mk (blk_below (g := gb461) (o := .cells #[.slice A0_0 l0_0.length c0_0] 33 (0, 0)) (by (with_reducible repeat (first | refine blk_drewN ?_ _ | refine blk_drew ?_ | refine blk_alloc ?_ _)); exact BK461.out) hb); have n3_ := Aside0.mk (below_step (by repeat (first | (with_reducible first | exact HB.out | apply below_alloc | apply pw_below_drewN | apply below_drew1 | refine below_set ?_ GE461.out) | exact HB.out)) hb); have n4_ := Aside0.mk (hbox); have n5_ := Aside0.mk ((by rw [hg]; exact (below_size (by repeat (first | (with_reducible first | exact HB.out | apply below_alloc | apply pw_below_drewN | apply below_drew1 | refine below_set ?_ GE461.out) | exact HB.out))) : w.heap.size ≤ gb471)); have n6_ := Aside0.mk ((by rw [hg]; exact (below_size (by repeat (first | (with_reducible first | exact HB.out | apply below_alloc | apply pw_below_drewN | apply below_drew1 | refine below_set ?_ GE461.out) | exact HB.out))) : w.heap.size ≤ gb471)); have n7_ := Aside0.mk ((by rw [hg]; exact Nat.ne_of_lt (blk_lt (g := gb461) (o := .cells #[.slice A0_0 l0_0.length c0_0] 33 (0, 0)) (by (with_reducible repeat (first | refine blk_drewN ?_ _ | refine blk_drew ?_ | refine blk_alloc ?_ _)); exact BK461.out)) : gb461 ≠ gb471)); have n8_ := Aside0.mk ((by rw [hg]; exact Nat.ne_of_gt (blk_lt (g := gb461) (o := .cells #[.slice A0_0 l0_0.length c0_0] 33 (0, 0)) (by (with_reducible repeat (first | refine blk_drewN ?_ _ | refine blk_drew ?_ | refine blk_alloc ?_ _)); exact BK461.out)) : gb471 ≠ gb461)); clear HO465; clear HO470; clear BK461; clear HB; have HO465 := n0_; have HO470 := n1_; have BK461 := n2_; have HB := n3_; have BK471 := n4_; have GW471 := n5_; have GE471 := n6_; have NB461_471 := n7_; have NB471_461 := n8_; clear n0_ n1_ n2_ n3_ n4_ n5_ n6_ n7_ n8_; clear hb hbox hg; obtain ⟨Ao22, co22, eo22⟩ := Kd.R_slice HO470.out; subst eo22; have hnb23 := NB471_461.out; have hnc23 := NB461_471.out; have hcz24_0 : w21.cell? ⟨gb471, 0, none⟩ = some (.slice none 0 0) := (blk_cell BK471.out 0).trans rfl; have hfz24_0 := blk_frozen BK471.out 0) | ((with_reducible refine gate_callee (f := 26) rfl ?_); refine goesL_ (some 24) rfl rfl Try.func26 (by kernel_rfl) rfl #[.agg #[.slice Ao22 t468.length co22]] rfl (by (try simp only [List.map_toArray, List.map_cons, List.map_nil]); first | done | rfl | (simp only [List.length_drop, List.length_take]; rfl)) ?_; (with_reducible refine (impl_IsRobin.calls k _ _ t468 t472 t473 _ ?side1 ?side2 A10.out).mono ?_); (case side1 => refine (Kd.R_reads' (e := 3) (base := w.heap.size) (ok := fun k_ => (True ∧ some k_ ≠ (.slice Ao17 t463.length co17 : Value).ownBlock)) (n := t468.length) (c := co22) ?_).2.2; exact (by (with_reducible repeat (first | apply Kd.R_alloc | apply Kd.R_drewN | apply Kd.R_drew)); exact (Kd.R_mono (Kd.R_far (p := ⟨gb471, 0, none⟩) (Kd.R_types HO470.out BK471.out (by decide)) (fun _ hk => hk.2) (.slice Ao22 t468.length co22)) (fun _ h_ => h_.1)))); (case side2 => exact (Kd.R_reads' HO470.out).2.1); rintro e w25 ⟨rfl, hb⟩; refine ⟨_, rfl, ?_⟩; have n0_ := Aside0.mk (Kd.R_below (by (with_reducible repeat (first | apply Kd.R_alloc | apply Kd.R_drewN | apply Kd.R_drew)); exact (Kd.R_mono (Kd.R_far (p := ⟨gb471, 0, none⟩) (Kd.R_types HO465.out BK471.out (by decide)) (fun _ hk => hk.2) (.slice Ao22 t468.length co22)) (fun _ h_ => h_.1))) hb); have n1_ := Aside0.mk (Kd.R_below (by (with_reducible repeat (first | apply Kd.R_alloc | apply Kd.R_drewN | apply Kd.R_drew)); exact (Kd.R_mono (Kd.R_far (p := ⟨gb471, 0, none⟩) (Kd.R_types HO470.out BK471.out (by decide)) (fun _ hk => hk.2) (.slice Ao22 t468.length co22)) (fun _ h_ => h_.1))) hb); have n2_ := Aside0.mk (blk_below (g := gb461) (o := .cells #[.slice A0_0 l0_0.length c0_0] 33 (0, 0)) (by (with_reducible repeat (first | refine blk_drewN ?_ _ | refine blk_drew ?_ | refine blk_alloc ?_ _)); refine blk_far ?_ NB461_471.out _; (with_reducible repeat (first | refine blk_drewN ?_ _ | refine blk_drew ?_ | refine blk_alloc ?_ _)); exact BK461.out) hb); have n3_ := Aside0.mk (blk_below (g := gb471) (o := .cells #[.slice Ao22 t468.length co22] 24 (0, 0)) (by (with_reducible repeat (first | refine blk_drewN ?_ _ | refine blk_drew ?_ | refine blk_alloc ?_ _)); refine blk_put (cs := #[.slice none 0 0]) ?_ 0 _ rfl; (with_reducible repeat (first | refine blk_drewN ?_ _ | refine blk_drew ?_ | refine blk_alloc ?_ _)); exact BK471.out) hb); have n4_ := Aside0.mk (below_step (by repeat (first | (with_reducible first | exact HB.out | apply below_alloc | apply pw_below_drewN | apply below_drew1 | refine below_set ?_ GE461.out | refine below_set ?_ GE471.out) | exact HB.out)) hb); clear HO465; clear HO470; clear BK461; clear BK471; clear HB; have HO465 := n0_; have HO470 := n1_; have BK461 := n2_; have BK471 := n3_; have HB := n4_; clear n0_ n1_ n2_ n3_ n4_; (try clear hb); (try clear hb2); (try clear hk); (try clear hi)))
    (try simp only [Act.put, List.setIfInBounds_toArray, List.set_cons_zero, List.set_cons_succ])
    go_cut [34] (fun v34 wc => ∃ (kq : Nat) (x34_10 : Bool), v34 = .bool x34_10 ∧ Aside0 (laws_FnExactIsRobin.j0 kq x34_10 l0_0 t468 = some r) ∧ Aside0 (kq ≤ k) ∧ Aside0 (Kd.R (Kd.int .i64) 3 wc w.heap.size (fun _ => True) (.slice Ao22 t468.length co22) t468) ∧ Aside0 (wc.heap[gb461]? = some (.cells #[(.slice A0_0 l0_0.length c0_0)] 33 (0, 0))) ∧ Aside0 (wc.heap[gb471]? = some (.cells #[(.slice Ao22 t468.length co22)] 24 (0, 0))) ∧ Aside0 (Below w.heap.size w wc))
    case first =>
      have H := HC11.out
      clear HC11
      by_cases c26 : (t472 != t466) = true
      · rw [if_pos c26] at H
        have c26b0 : (t472 != t466) = true := c26
        (try (have c26b1 : decide (t472 = t466) = false := by simpa using c26))
        (try (have c26b2 : (t472 == t466) = false := by simpa using c26))
        (try (have c26b3 : ¬ (t472 = t466) := by simpa using c26))
        clear c26
        (first | rw [c26b0] | (simp only [i64_w, i32_w]; rw [c26b0]) | skip)
        have H' := Aside0.mk H
        clear H
        go_wp2
        go_meet
        case rel => exact ⟨_, (true), (by first | rfl | (simp; done) | (simp [*]; done)), H', ⟨by first | omega | exact Nat.le_refl _⟩, ⟨by (with_reducible repeat (first | apply Kd.R_alloc | apply Kd.R_drewN | apply Kd.R_drew)); exact Kd.R_mono HO470.out (fun _ hk => trivial)⟩, ⟨by (with_reducible repeat (first | refine blk_drewN ?_ _ | refine blk_drew ?_ | refine blk_alloc ?_ _)); exact BK461.out⟩, ⟨by (with_reducible repeat (first | refine blk_drewN ?_ _ | refine blk_drew ?_ | refine blk_alloc ?_ _)); exact BK471.out⟩, ⟨by repeat (first | (with_reducible first | exact HB.out | apply below_alloc | apply pw_below_drewN | apply below_drew1 | refine below_set ?_ GE461.out | refine below_set ?_ GE471.out) | exact HB.out)⟩⟩
      · rw [if_neg c26] at H
        have c26b0 : (t472 != t466) = false := by simpa using c26
        (try (have c26b1 : decide (t472 = t466) = true := by simpa using c26))
        (try (have c26b2 : (t472 == t466) = true := by simpa using c26))
        clear c26
        (first | rw [c26b0] | (simp only [i64_w, i32_w]; rw [c26b0]) | skip)
        have H' := Aside0.mk H
        clear H
        go_wp2
        go_meet
        case rel => exact ⟨_, ((t473 != t467)), (by first | rfl | (simp; done) | (simp [*]; done)), H', ⟨by first | omega | exact Nat.le_refl _⟩, ⟨by (with_reducible repeat (first | apply Kd.R_alloc | apply Kd.R_drewN | apply Kd.R_drew)); exact Kd.R_mono HO470.out (fun _ hk => trivial)⟩, ⟨by (with_reducible repeat (first | refine blk_drewN ?_ _ | refine blk_drew ?_ | refine blk_alloc ?_ _)); exact BK461.out⟩, ⟨by (with_reducible repeat (first | refine blk_drewN ?_ _ | refine blk_drew ?_ | refine blk_alloc ?_ _)); exact BK471.out⟩, ⟨by repeat (first | (with_reducible first | exact HB.out | apply below_alloc | apply pw_below_drewN | apply below_drew1 | refine below_set ?_ GE461.out | refine below_set ?_ GE471.out) | exact HB.out)⟩⟩
    case rest =>
      clear HC11
      try clear c2
      try clear p2
      try clear c3
      try clear c3b0
      try clear c6
      try clear c21
      try clear c23
      try clear c25
      try clear c26
      try clear c26b0
      try clear c26b1
      try clear c26b2
      try clear hcz13_0
      try clear hcz15_0
      try clear hcz19_0
      try clear hcz24_0
      try clear hcz5_0
      try clear hfz13_0
      try clear hfz15_0
      try clear hfz19_0
      try clear hfz24_0
      try clear hfz5_0
      obtain ⟨kq, x34_10, rfl, HA, HJ10, HO_472000, BK461, BK471, HB⟩ := hcut
      cases kq with
      | zero => exact absurd HA.out (by simp [laws_FnExactIsRobin.j0])
      | succ kj10 =>
        have H := HA.out
        clear HA
        simp only [laws_FnExactIsRobin.j0] at H
        by_cases c27 : x34_10 = true
        · subst c27
          have H1 : (some false) = some r := by rw [if_pos rfl] at H; exact H
          clear H
          have H := H1
          clear H1
          obtain rfl := Option.some.inj H
          go_wp2
          go_ret
          exact ⟨by first | rfl | (simp [errW_none, errW_some] <;> rfl) | (simp [*, errW_none, errW_some] <;> rfl), by repeat (first | (with_reducible first | exact HB.out | apply below_alloc | apply pw_below_drewN | apply below_drew1 | refine below_set ?_ GE461.out | refine below_set ?_ GE471.out) | exact HB.out)⟩
        · replace c27 := Bool.eq_false_iff.mpr c27
          subst c27
          have H1 : ((laws_toTable.f kj10 l0_0).bind fun t474 => ((laws_eqTable.f kj10 t468 t474).bind fun t477 => (if t477 = true then (some true) else (some false)))) = some r := by rw [if_neg (show ¬ (false = true) by decide)] at H; exact H
          clear H
          have H := H1
          clear H1
          replace H := Option.bind_eq_some_iff.mp H
          obtain ⟨t474, A280, H⟩ := H
          replace H : ((laws_eqTable.f kj10 t468 t474).bind fun t477 => (if t477 = true then (some true) else (some false))) = some r := H
          have A28 := Aside0.mk A280
          clear A280
          replace H := Option.bind_eq_some_iff.mp H
          obtain ⟨t477, A290, H⟩ := H
          replace H : (if t477 = true then (some true) else (some false)) = some r := H
          have A29 := Aside0.mk A290
          clear A290
          by_cases c30 : t477 = true
          · subst c30
            have H1 : (some true) = some r := by rw [if_pos rfl] at H; exact H
            clear H
            have H := H1
            clear H1
            obtain rfl := Option.some.inj H
            try go_wp2
            have n0_ := Aside0.mk (Kd.R_drew HO_472000.out)
            have n1_ := Aside0.mk (blk_drew BK461.out)
            have n2_ := Aside0.mk (blk_drew BK471.out)
            have n3_ := Aside0.mk (below_drew1 HB.out)
            clear HO_472000
            clear BK461
            clear BK471
            clear HB
            have HO_472000 := n0_
            have BK461 := n1_
            have BK471 := n2_
            have HB := n3_
            clear n0_ n1_ n2_ n3_
            refine start_ (n := 5) (S := fun w' => w'.cell? ⟨gb471, 0, none⟩ = some (.slice Ao22 t468.length co22) ∧ w'.cell? ⟨gb461, 0, none⟩ = some (.slice A0_0 l0_0.length c0_0)) (ds := []) #[false, false, false, false, false] (by kernel_rfl) rfl rfl ⟨(blk_cell BK471.out 0).trans rfl, (blk_cell BK461.out 0).trans rfl⟩ (fun hHeld => ?_)
            generalize wc.drew = w31 at HO_472000 BK461 BK471 HB hHeld ⊢
            refine take_ (i := 0) (N := some 35) (v := ?_) (a' := ?_) #[true, false, false, false, false] rfl rfl (by kernel_rfl) (fun _ _ _ h => h) (Or.inl ⟨by rfl, ?_⟩) hHeld ?_ ?_
            rotate_left
            · rintro w' ⟨s0, s1⟩
              go_simp
              (try simp only [fld_24, Result.andThen])
              with_reducible rfl
            rotate_left
            · simp only [Act.put, List.setIfInBounds_toArray, List.set_cons_zero, List.set_cons_succ, i64_w, i32_w]
              rfl
            refine take_ (i := 1) (N := some 36) (v := ?_) (a' := ?_) #[true, true, false, false, false] rfl rfl (by kernel_rfl) (fun _ _ _ h => h) (Or.inl ⟨by rfl, ?_⟩) hHeld ?_ ?_
            rotate_left
            · rintro w' ⟨s0, s1⟩
              go_simp
              (try simp only [fld_24, Result.andThen])
              with_reducible rfl
            rotate_left
            · simp only [Act.put, List.setIfInBounds_toArray, List.set_cons_zero, List.set_cons_succ, i64_w, i32_w]
              rfl
            refine one_ (i := 2) (N := some 37) #[true, true, true, false, false] rfl rfl (by kernel_rfl) (by decide) (fun K hK => ?_)
            refine goes_ Try.func23 (by kernel_rfl) rfl #[.agg #[.slice A0_0 l0_0.length c0_0]] (by rfl) rfl rfl (by (try simp only [List.map_toArray, List.map_cons, List.map_nil]); first | done | rfl | (simp only [List.length_drop, List.length_take]; rfl)) ?_
            with_reducible refine (laws_toTable.calls kj10 _ _ l0_0 t474 _ ?side1 ?side2 A28.out).mono ?_
            (case side1 => repeat (first | exact (Kd.C_below HR0_0.out HB.out) | (with_reducible refine Kd.C_alloc ?_ _) | (with_reducible refine Kd.C_drewN ?_ _) | (with_reducible refine Kd.C_drew ?_)))
            (case side2 => exact HC0_0.out)
            rintro e w32 ⟨v475, rfl, ho0, hb⟩
            refine ⟨_, rfl, ?_⟩
            have n0_ := Aside0.mk (Kd.R_elder' (by (with_reducible repeat (first | apply Kd.R_alloc | apply Kd.R_drewN | apply Kd.R_drew)); exact HO_472000.out) (Kd.R_base ho0) hb)
            have n1_ := Aside0.mk (Kd.R_lower (Kd.R_new' ho0 (Kd.R_lt (by (with_reducible repeat (first | apply Kd.R_alloc | apply Kd.R_drewN | apply Kd.R_drew)); exact HO_472000.out))) (below_size (by repeat (first | (with_reducible first | exact HB.out | apply below_alloc | apply pw_below_drewN | apply below_drew1 | refine below_set ?_ GE461.out | refine below_set ?_ GE471.out) | exact HB.out))))
            have n2_ := Aside0.mk (blk_below (g := gb461) (o := .cells #[.slice A0_0 l0_0.length c0_0] 33 (0, 0)) (by (with_reducible repeat (first | refine blk_drewN ?_ _ | refine blk_drew ?_ | refine blk_alloc ?_ _)); exact BK461.out) hb)
            have n3_ := Aside0.mk (blk_below (g := gb471) (o := .cells #[.slice Ao22 t468.length co22] 24 (0, 0)) (by (with_reducible repeat (first | refine blk_drewN ?_ _ | refine blk_drew ?_ | refine blk_alloc ?_ _)); exact BK471.out) hb)
            have n4_ := Aside0.mk (below_step (by repeat (first | (with_reducible first | exact HB.out | apply below_alloc | apply pw_below_drewN | apply below_drew1 | refine below_set ?_ GE461.out | refine below_set ?_ GE471.out) | exact HB.out)) hb)
            clear HO_472000
            clear BK461
            clear BK471
            clear HB
            have HO_472000 := n0_
            have HO476 := n1_
            have BK461 := n2_
            have BK471 := n3_
            have HB := n4_
            clear n0_ n1_ n2_ n3_ n4_
            (try clear hb)
            (try clear hb2)
            (try clear hk)
            (try clear hi)
            (try clear ho0)
            obtain ⟨Ao33, co33, eo33⟩ := Kd.R_slice HO476.out
            (first | subst eo33 | (injection eo33 with f1_ f2_ f3_; have f4_ := f1_.symm; have f5_ := f3_.symm; clear f1_ f2_ f3_; subst f4_; subst f5_))
            refine hK.out _ _ ⟨(blk_cell BK471.out 0).trans rfl, (blk_cell BK461.out 0).trans rfl⟩ (fun hHeld => ?_)
            clear hK K
            refine norm_ (a' := ?_) ?_ ?_
            rotate_left
            · show Act.put _ (some 37) _ = _
              simp only [Act.put, List.setIfInBounds_toArray, List.set_cons_zero, List.set_cons_succ, i64_w, i32_w]
              rfl
            refine one_ (i := 3) (N := some 38) #[true, true, true, true, false] rfl rfl (by kernel_rfl) (by decide) (fun K hK => ?_)
            refine goes_ Try.func14 (by kernel_rfl) rfl #[.agg #[.slice Ao22 t468.length co22], .agg #[.slice Ao33 t474.length co33]] (by rfl) rfl rfl (by (try simp only [List.map_toArray, List.map_cons, List.map_nil]); first | done | rfl | (simp only [List.length_drop, List.length_take]; rfl)) ?_
            with_reducible refine (laws_eqTable.calls kj10 _ _ t468 _ _ t474 true _ ?side1 ?side2 ?side3 ?side4 A29.out).mono ?_
            (case side1 => repeat (first | exact (Kd.R_reads' HO_472000.out).2.2 | (with_reducible refine Kd.C_alloc ?_ _) | (with_reducible refine Kd.C_drewN ?_ _) | (with_reducible refine Kd.C_drew ?_)))
            (case side2 => exact (Kd.R_reads' HO_472000.out).2.1)
            (case side3 => repeat (first | exact (Kd.R_reads' HO476.out).2.2 | (with_reducible refine Kd.C_alloc ?_ _) | (with_reducible refine Kd.C_drewN ?_ _) | (with_reducible refine Kd.C_drew ?_)))
            (case side4 => exact (Kd.R_reads' HO476.out).2.1)
            rintro e w34 ⟨rfl, hb⟩
            refine ⟨_, rfl, ?_⟩
            have n0_ := Aside0.mk (Kd.R_below (by (with_reducible repeat (first | apply Kd.R_alloc | apply Kd.R_drewN | apply Kd.R_drew)); exact HO_472000.out) hb)
            have n1_ := Aside0.mk (Kd.R_below (by (with_reducible repeat (first | apply Kd.R_alloc | apply Kd.R_drewN | apply Kd.R_drew)); exact HO476.out) hb)
            have n2_ := Aside0.mk (blk_below (g := gb461) (o := .cells #[.slice A0_0 l0_0.length c0_0] 33 (0, 0)) (by (with_reducible repeat (first | refine blk_drewN ?_ _ | refine blk_drew ?_ | refine blk_alloc ?_ _)); exact BK461.out) hb)
            have n3_ := Aside0.mk (blk_below (g := gb471) (o := .cells #[.slice Ao22 t468.length co22] 24 (0, 0)) (by (with_reducible repeat (first | refine blk_drewN ?_ _ | refine blk_drew ?_ | refine blk_alloc ?_ _)); exact BK471.out) hb)
            have n4_ := Aside0.mk (below_step (by repeat (first | (with_reducible first | exact HB.out | apply below_alloc | apply pw_below_drewN | apply below_drew1 | refine below_set ?_ GE461.out | refine below_set ?_ GE471.out) | exact HB.out)) hb)
            clear HO_472000
            clear HO476
            clear BK461
            clear BK471
            clear HB
            have HO_472000 := n0_
            have HO476 := n1_
            have BK461 := n2_
            have BK471 := n3_
            have HB := n4_
            clear n0_ n1_ n2_ n3_ n4_
            (try clear hb)
            (try clear hb2)
            (try clear hk)
            (try clear hi)
            refine hK.out _ _ ⟨(blk_cell BK471.out 0).trans rfl, (blk_cell BK461.out 0).trans rfl⟩ (fun hHeld => ?_)
            clear hK K
            refine norm_ (a' := ?_) ?_ ?_
            rotate_left
            · show Act.put _ (some 38) _ = _
              simp only [Act.put, List.setIfInBounds_toArray, List.set_cons_zero, List.set_cons_succ, i64_w, i32_w]
              rfl
            refine pure_ (i := 4) (N := some 39) (v := ?_) (a' := ?_) #[true, true, true, true, true] rfl rfl (by kernel_rfl) (fun _ _ _ h => h) (Or.inl ⟨by rfl, ?_⟩) ?_ ?_
            rotate_left
            · intro w'
              go_simp
              (try simp only [fld_24, Result.andThen])
              with_reducible rfl
            rotate_left
            · simp only [Act.put, List.setIfInBounds_toArray, List.set_cons_zero, List.set_cons_succ, i64_w, i32_w]
              rfl
            refine done_ (by kernel_rfl) ?_
            try go_wp2
            go_ret
            exact ⟨by first | rfl | (simp [errW_none, errW_some] <;> rfl) | (simp [*, errW_none, errW_some] <;> rfl), by repeat (first | (with_reducible first | exact HB.out | apply below_alloc | apply pw_below_drewN | apply below_drew1 | refine below_set ?_ GE461.out | refine below_set ?_ GE471.out) | exact HB.out)⟩
          · replace c30 := Bool.eq_false_iff.mpr c30
            subst c30
            have H1 : (some false) = some r := by rw [if_neg (show ¬ (false = true) by decide)] at H; exact H
            clear H
            have H := H1
            clear H1
            obtain rfl := Option.some.inj H
            try go_wp2
            have n0_ := Aside0.mk (Kd.R_drew HO_472000.out)
            have n1_ := Aside0.mk (blk_drew BK461.out)
            have n2_ := Aside0.mk (blk_drew BK471.out)
            have n3_ := Aside0.mk (below_drew1 HB.out)
            clear HO_472000
            clear BK461
            clear BK471
            clear HB
            have HO_472000 := n0_
            have BK461 := n1_
            have BK471 := n2_
            have HB := n3_
            clear n0_ n1_ n2_ n3_
            refine start_ (n := 5) (S := fun w' => w'.cell? ⟨gb471, 0, none⟩ = some (.slice Ao22 t468.length co22) ∧ w'.cell? ⟨gb461, 0, none⟩ = some (.slice A0_0 l0_0.length c0_0)) (ds := []) #[false, false, false, false, false] (by kernel_rfl) rfl rfl ⟨(blk_cell BK471.out 0).trans rfl, (blk_cell BK461.out 0).trans rfl⟩ (fun hHeld => ?_)
            generalize wc.drew = w35 at HO_472000 BK461 BK471 HB hHeld ⊢
            refine take_ (i := 0) (N := some 35) (v := ?_) (a' := ?_) #[true, false, false, false, false] rfl rfl (by kernel_rfl) (fun _ _ _ h => h) (Or.inl ⟨by rfl, ?_⟩) hHeld ?_ ?_
            rotate_left
            · rintro w' ⟨s0, s1⟩
              go_simp
              (try simp only [fld_24, Result.andThen])
              with_reducible rfl
            rotate_left
            · simp only [Act.put, List.setIfInBounds_toArray, List.set_cons_zero, List.set_cons_succ, i64_w, i32_w]
              rfl
            refine take_ (i := 1) (N := some 36) (v := ?_) (a' := ?_) #[true, true, false, false, false] rfl rfl (by kernel_rfl) (fun _ _ _ h => h) (Or.inl ⟨by rfl, ?_⟩) hHeld ?_ ?_
            rotate_left
            · rintro w' ⟨s0, s1⟩
              go_simp
              (try simp only [fld_24, Result.andThen])
              with_reducible rfl
            rotate_left
            · simp only [Act.put, List.setIfInBounds_toArray, List.set_cons_zero, List.set_cons_succ, i64_w, i32_w]
              rfl
            refine one_ (i := 2) (N := some 37) #[true, true, true, false, false] rfl rfl (by kernel_rfl) (by decide) (fun K hK => ?_)
            refine goes_ Try.func23 (by kernel_rfl) rfl #[.agg #[.slice A0_0 l0_0.length c0_0]] (by rfl) rfl rfl (by (try simp only [List.map_toArray, List.map_cons, List.map_nil]); first | done | rfl | (simp only [List.length_drop, List.length_take]; rfl)) ?_
            with_reducible refine (laws_toTable.calls kj10 _ _ l0_0 t474 _ ?side1 ?side2 A28.out).mono ?_
            (case side1 => repeat (first | exact (Kd.C_below HR0_0.out HB.out) | (with_reducible refine Kd.C_alloc ?_ _) | (with_reducible refine Kd.C_drewN ?_ _) | (with_reducible refine Kd.C_drew ?_)))
            (case side2 => exact HC0_0.out)
            rintro e w36 ⟨v475, rfl, ho0, hb⟩
            refine ⟨_, rfl, ?_⟩
            have n0_ := Aside0.mk (Kd.R_elder' (by (with_reducible repeat (first | apply Kd.R_alloc | apply Kd.R_drewN | apply Kd.R_drew)); exact HO_472000.out) (Kd.R_base ho0) hb)
            have n1_ := Aside0.mk (Kd.R_lower (Kd.R_new' ho0 (Kd.R_lt (by (with_reducible repeat (first | apply Kd.R_alloc | apply Kd.R_drewN | apply Kd.R_drew)); exact HO_472000.out))) (below_size (by repeat (first | (with_reducible first | exact HB.out | apply below_alloc | apply pw_below_drewN | apply below_drew1 | refine below_set ?_ GE461.out | refine below_set ?_ GE471.out) | exact HB.out))))
            have n2_ := Aside0.mk (blk_below (g := gb461) (o := .cells #[.slice A0_0 l0_0.length c0_0] 33 (0, 0)) (by (with_reducible repeat (first | refine blk_drewN ?_ _ | refine blk_drew ?_ | refine blk_alloc ?_ _)); exact BK461.out) hb)
            have n3_ := Aside0.mk (blk_below (g := gb471) (o := .cells #[.slice Ao22 t468.length co22] 24 (0, 0)) (by (with_reducible repeat (first | refine blk_drewN ?_ _ | refine blk_drew ?_ | refine blk_alloc ?_ _)); exact BK471.out) hb)
            have n4_ := Aside0.mk (below_step (by repeat (first | (with_reducible first | exact HB.out | apply below_alloc | apply pw_below_drewN | apply below_drew1 | refine below_set ?_ GE461.out | refine below_set ?_ GE471.out) | exact HB.out)) hb)
            clear HO_472000
            clear BK461
            clear BK471
            clear HB
            have HO_472000 := n0_
            have HO476 := n1_
            have BK461 := n2_
            have BK471 := n3_
            have HB := n4_
            clear n0_ n1_ n2_ n3_ n4_
            (try clear hb)
            (try clear hb2)
            (try clear hk)
            (try clear hi)
            (try clear ho0)
            obtain ⟨Ao37, co37, eo37⟩ := Kd.R_slice HO476.out
            (first | subst eo37 | (injection eo37 with f1_ f2_ f3_; have f4_ := f1_.symm; have f5_ := f3_.symm; clear f1_ f2_ f3_; subst f4_; subst f5_))
            refine hK.out _ _ ⟨(blk_cell BK471.out 0).trans rfl, (blk_cell BK461.out 0).trans rfl⟩ (fun hHeld => ?_)
            clear hK K
            refine norm_ (a' := ?_) ?_ ?_
            rotate_left
            · show Act.put _ (some 37) _ = _
              simp only [Act.put, List.setIfInBounds_toArray, List.set_cons_zero, List.set_cons_succ, i64_w, i32_w]
              rfl
            refine one_ (i := 3) (N := some 38) #[true, true, true, true, false] rfl rfl (by kernel_rfl) (by decide) (fun K hK => ?_)
            refine goes_ Try.func14 (by kernel_rfl) rfl #[.agg #[.slice Ao22 t468.length co22], .agg #[.slice Ao37 t474.length co37]] (by rfl) rfl rfl (by (try simp only [List.map_toArray, List.map_cons, List.map_nil]); first | done | rfl | (simp only [List.length_drop, List.length_take]; rfl)) ?_
            with_reducible refine (laws_eqTable.calls kj10 _ _ t468 _ _ t474 false _ ?side1 ?side2 ?side3 ?side4 A29.out).mono ?_
            (case side1 => repeat (first | exact (Kd.R_reads' HO_472000.out).2.2 | (with_reducible refine Kd.C_alloc ?_ _) | (with_reducible refine Kd.C_drewN ?_ _) | (with_reducible refine Kd.C_drew ?_)))
            (case side2 => exact (Kd.R_reads' HO_472000.out).2.1)
            (case side3 => repeat (first | exact (Kd.R_reads' HO476.out).2.2 | (with_reducible refine Kd.C_alloc ?_ _) | (with_reducible refine Kd.C_drewN ?_ _) | (with_reducible refine Kd.C_drew ?_)))
            (case side4 => exact (Kd.R_reads' HO476.out).2.1)
            rintro e w38 ⟨rfl, hb⟩
            refine ⟨_, rfl, ?_⟩
            have n0_ := Aside0.mk (Kd.R_below (by (with_reducible repeat (first | apply Kd.R_alloc | apply Kd.R_drewN | apply Kd.R_drew)); exact HO_472000.out) hb)
            have n1_ := Aside0.mk (Kd.R_below (by (with_reducible repeat (first | apply Kd.R_alloc | apply Kd.R_drewN | apply Kd.R_drew)); exact HO476.out) hb)
            have n2_ := Aside0.mk (blk_below (g := gb461) (o := .cells #[.slice A0_0 l0_0.length c0_0] 33 (0, 0)) (by (with_reducible repeat (first | refine blk_drewN ?_ _ | refine blk_drew ?_ | refine blk_alloc ?_ _)); exact BK461.out) hb)
            have n3_ := Aside0.mk (blk_below (g := gb471) (o := .cells #[.slice Ao22 t468.length co22] 24 (0, 0)) (by (with_reducible repeat (first | refine blk_drewN ?_ _ | refine blk_drew ?_ | refine blk_alloc ?_ _)); exact BK471.out) hb)
            have n4_ := Aside0.mk (below_step (by repeat (first | (with_reducible first | exact HB.out | apply below_alloc | apply pw_below_drewN | apply below_drew1 | refine below_set ?_ GE461.out | refine below_set ?_ GE471.out) | exact HB.out)) hb)
            clear HO_472000
            clear HO476
            clear BK461
            clear BK471
            clear HB
            have HO_472000 := n0_
            have HO476 := n1_
            have BK461 := n2_
            have BK471 := n3_
            have HB := n4_
            clear n0_ n1_ n2_ n3_ n4_
            (try clear hb)
            (try clear hb2)
            (try clear hk)
            (try clear hi)
            refine hK.out _ _ ⟨(blk_cell BK471.out 0).trans rfl, (blk_cell BK461.out 0).trans rfl⟩ (fun hHeld => ?_)
            clear hK K
            refine norm_ (a' := ?_) ?_ ?_
            rotate_left
            · show Act.put _ (some 38) _ = _
              simp only [Act.put, List.setIfInBounds_toArray, List.set_cons_zero, List.set_cons_succ, i64_w, i32_w]
              rfl
            refine pure_ (i := 4) (N := some 39) (v := ?_) (a' := ?_) #[true, true, true, true, true] rfl rfl (by kernel_rfl) (fun _ _ _ h => h) (Or.inl ⟨by rfl, ?_⟩) ?_ ?_
            rotate_left
            · intro w'
              go_simp
              (try simp only [fld_24, Result.andThen])
              with_reducible rfl
            rotate_left
            · simp only [Act.put, List.setIfInBounds_toArray, List.set_cons_zero, List.set_cons_succ, i64_w, i32_w]
              rfl
            refine done_ (by kernel_rfl) ?_
            try go_wp2
            go_ret
            exact ⟨by first | rfl | (simp [errW_none, errW_some] <;> rfl) | (simp [*, errW_none, errW_some] <;> rfl), by repeat (first | (with_reducible first | exact HB.out | apply below_alloc | apply pw_below_drewN | apply below_drew1 | refine below_set ?_ GE461.out | refine below_set ?_ GE471.out) | exact HB.out)⟩
end Go.Proofs.Ytfblohigbdomjaa.G
namespace Go.Proofs.Ytfblohigbdomjaa.G
open Go.RowKit Go.Proofs.YtfblohigbdomjaaW.PrintWords Go.Proofs.YtfblohigbdomjaaW.PrintLast Go.Proofs.YtfblohigbdomjaaW.PrintMore
set_option linter.unusedVariables false
set_option linter.unusedSimpArgs false
/-- The places below q at which p holds. -/
def idxsTo (p : Int → Bool) (l : List Int) : Nat → List Int
  | 0 => []
  | q + 1 => idxsTo p l q ++ (if p (l.getD q 0) = true then [(q : Int)] else [])
theorem idxsTo_len (p : Int → Bool) (l : List Int) : ∀ q, (idxsTo p l q).length ≤ q
  | 0 => by simp [idxsTo]
  | q + 1 => by
    have := idxsTo_len p l q
    rw [idxsTo, List.length_append]
    split <;> simp <;> omega
set_option maxHeartbeats 4000000 in
set_option maxRecDepth 100000 in
theorem impl_indices.callsP (A : Option Addr) (c : Nat) (l : List Int) (g : Nat) (lb : Array Value) (p : Int → Bool) (w : World)
    (eg : ∀ args w, (callFunc g args).run Try.prog w = .ok (.enter g args) w) (hl : l.length ≤ 1000000)
    (hp0 : PredB g lb p w) (hr : Kd.C (Kd.int .i64) w A l.length l) (hc : l.length ≤ c) :
    Calls Try.prog 110 #[.slice A l.length c, .func (.func g) #[] lb] w fun e w' => ∃ v : Value, e = .returned v ∧ Kd.R (Kd.int .i64) 3 w' w.heap.size (fun _ => True) v (idxsTo p l l.length) ∧ Below w.heap.size w w' := by
  have HR := Aside0.mk hr
  have HP := Aside0.mk hp0
  have HB := Aside0.mk (Below.refl w.heap.size w)
  have HLL := Aside0.mk hl
  clear hr hp0 hl
  go_enter Try.func110, Try.ntmps110
  go_wp2_with ((with_reducible refine gate_dst (N := 8) rfl ?_); refine Kd.R_lit (Kd.int .i64) _ 3 ?hg (N := 8) ?hd (xs := ([] : List Int)) (inner := []) (ok := fun _ => True) (okp := fun _ => True) ?hr ?hp (fun _ hk => hk) trivial (Below.refl _ _) (Nat.le_refl _) (by simp) ?_; (case hd => rfl); (case hg => rfl); (case hr => first | (go_simp; done) | (go_simp; rfl)); (case hp => exact (Reps.none _ _)); intro v8 w7 ho8 hb hg_ hnew_; clear hg_ hnew_; have HO := Aside0.mk ho8; have nB_ := Aside0.mk (show Below w.heap.size w w7 from hb); clear HB; have HB := nB_; clear nB_ ho8 hb)
  go_loopg [5, 11] l.length (fun gg v5 v11 w' => ∃ q : Nat, Aside0 (q ≤ l.length) ∧ Aside0 (l.length - q ≤ gg) ∧ v11 = .int .i64 (q : Int) ∧ Aside0 (Kd.R (Kd.int .i64) 3 w' w.heap.size (fun _ => True) v5 (idxsTo p l q)) ∧ Aside0 (Below w.heap.size w w'))
  case atStart => exact ⟨0, ⟨Nat.zero_le _⟩, ⟨by omega⟩, rfl, HO, HB⟩
  case round =>
    clear HO HB
    obtain ⟨q, HQ, HG, rfl, HO, HB⟩ := hrel
    obtain ⟨z, hz⟩ : ∃ z : Int, z = (q : Int) := ⟨_, rfl⟩
    rw [← hz]
    by_cases hlt : q < l.length
    · have c1 : decide (z < (l.length : Int)) = true := decide_eq_true (by omega)
      have p1 : 0 ≤ z := by omega
      have p2 : z < (l.length : Int) := by omega
      obtain ⟨ad, rfl, hx⟩ := Kd.at_int HR.out z p1 p2
      have hxr := pw_cell_below HB.out hx
      obtain ⟨y, hy⟩ : ∃ y, y = rd l z := ⟨_, rfl⟩
      rw [← hy] at hxr
      have hcall := HP.out wr y HB.out
      have HY := Aside0.mk (show l.getD q 0 = y by rw [hy, hz, rd, Int.toNat_natCast])
      have HZ := Aside0.mk hz
      have HIL := Aside0.mk (idxsTo_len p l q)
      have q1 := eq_true p1
      have q2 := eq_true p2
      clear hz hy hx
      cases hq : p y with
      | true =>
        have HN := Aside0.mk (show idxsTo p l q ++ [z] = idxsTo p l (q + 1) by rw [idxsTo, HY.out, if_pos hq, HZ.out])
        rw [hq] at hcall
        go_wp2_with (first | (go_at_fn g; refine hcall.mono ?_; rintro e w' ⟨rfl, q', rfl⟩) | ((with_reducible refine gate_builtin (b := .append) (xs := #[.tmp 19, .tmp 21]) rfl ?_); at_builtin; refine Kd.R_append (Kd.int .i64) (w0 := w) w.heap.size rfl (.tmp 19) (.tmp 21) 22 3 (.int .i64 0) 8 rfl Try.underlying22 gv_info3 rfl (by decide) (by omega) u5 (idxsTo p l q) z [.int .i64 z] (fun _ => True) (fun _ => False) rfl rfl ?aP (fun _ hk => hk.elim) ?aF ?aO ?aB ?aS ?aL ?_; (case aP => exact rfl); (case aB => exact (by repeat (first | (with_reducible first | exact HB.out | apply below_alloc | apply pw_below_drewN | apply below_drew1) | exact HB.out))); (case aF => exact (fun _ _ => trivial)); (case aO => exact (by (with_reducible repeat (first | apply Kd.R_alloc | apply Kd.R_drewN | apply Kd.R_drew)); exact HO.out)); (case aS => exact (below_size (by repeat (first | (with_reducible first | exact HB.out | apply below_alloc | apply pw_below_drewN | apply below_drew1) | exact HB.out)))); (case aL => have := HIL.out; have := HLL.out; omega); intro v22 w13 ho hb hg hat; rw [HN.out] at ho; have n1_ := Aside0.mk hb; have n2_ := Aside0.mk ho; clear HB HO; have HB := n1_; have HO := n2_; clear n1_ n2_ ho hb hg hat))
        go_roundg (gk - 1)
        case measure => have := HG.out; omega
        case rel => exact ⟨q + 1, ⟨by omega⟩, ⟨by have := HG.out; omega⟩, by congr 1; have := HZ.out; first | omega | (unfold wrap64; have := HLL.out; omega), HO, HB⟩
      | false =>
        have HN := Aside0.mk (show idxsTo p l q = idxsTo p l (q + 1) by rw [idxsTo, HY.out, if_neg (by rw [hq]; decide), List.append_nil])
        rw [hq] at hcall
        go_wp2_with (go_at_fn g; refine hcall.mono ?_; rintro e w' ⟨rfl, q', rfl⟩)
        go_roundg (gk - 1)
        case measure => have := HG.out; omega
        case rel => exact ⟨q + 1, ⟨by omega⟩, ⟨by have := HG.out; omega⟩, by congr 1; have := HZ.out; first | omega | (unfold wrap64; have := HLL.out; omega), ⟨by rw [← HN.out]; exact Kd.R_drewN HO.out _⟩, ⟨pw_below_drewN HB.out _⟩⟩
    · have c1 : decide (z < (l.length : Int)) = false := decide_eq_false (by omega)
      have e : q = l.length := by have := HQ.out; omega
      subst e
      clear hz
      go_wp2
      go_ret
      exact ⟨_, rfl, HO.out, HB.out⟩
def posP (x : Int) : Bool := decide (0 ≤ x)
def impl_Table_used.f (l0_0 : List Int) : Option (List Int) := if l0_0.length ≤ 1000000 then some (idxsTo posP l0_0 l0_0.length) else none
theorem used_pred (w : World) : PredB 111 #[] posP w := by
  intro W x hb
  clear hb
  simp only [List.append_toArray, List.append_nil]
  go_enter Try.func111, Try.ntmps111
  go_wp2
  go_ret
  exact ⟨rfl, 0, rfl⟩
set_option maxHeartbeats 4000000 in
theorem impl_Table_used.calls (A0_0 : Option Addr) (c0_0 : Nat) (l0_0 : List Int) (r : List Int) (w : World) (hr0_0 : Kd.C (Kd.int .i64) w A0_0 l0_0.length l0_0) (hc0_0 : l0_0.length ≤ c0_0) (h : impl_Table_used.f l0_0 = some r) :
    Calls Try.prog 80 #[.agg #[.slice A0_0 l0_0.length c0_0]] w fun e w' => ∃ v0_ : Value, e = .returned (v0_) ∧ Kd.R (Kd.int .i64) 3 w' w.heap.size (fun _ => True) v0_ r ∧ Below w.heap.size w w' := by
  unfold impl_Table_used.f at h
  split at h
  case isFalse => cases h
  rename_i hl
  obtain rfl := Option.some.inj h
  have HR := Aside0.mk hr0_0
  have HB := Aside0.mk (Below.refl w.heap.size w)
  clear hr0_0 h
  go_enter Try.func80, Try.ntmps80
  go_wp2_with (go_at_call 110; refine (impl_indices.callsP _ _ l0_0 _ _ posP _ (enters_of Try.func111 (by kernel_rfl) rfl) hl (used_pred _) (Kd.C_alloc HR.out _) hc0_0).mono ?_; rintro e w5 ⟨v5, rfl, ho, hb⟩; have HO := Aside0.mk (Kd.R_lower ho (below_size (below_alloc (Below.refl w.heap.size w) _))); have nB_ := Aside0.mk (below_step (below_alloc (Below.refl w.heap.size w) _) hb); clear HB ho hb; have HB := nB_; clear nB_)
  go_ret
  exact ⟨_, rfl, HO.out, HB.out⟩
end Go.Proofs.Ytfblohigbdomjaa.G
namespace Go.Proofs.Ytfblohigbdomjaa.G
open Go.RowKit Go.Proofs.YtfblohigbdomjaaW.PrintWords Go.Proofs.YtfblohigbdomjaaW.PrintLast Go.Proofs.YtfblohigbdomjaaW.PrintMore
attribute [local go_sem] max2_int min2_int max_two min_two max_three min_three max_four min_four   -- for this text's walks alone
set_option linter.unusedVariables false
set_option linter.unusedSimpArgs false
def slices_Max_int_int.f (l0 : List Int) : Option Int := match l0 with
  | [] => none
  | a :: r => some (r.foldl max a)
def maxTo (l : List Int) : Nat → Int
  | 0 => l.getD 0 0
  | i + 1 => max (maxTo l i) (l.getD (i + 1) 0)
theorem maxTo_fold (a : Int) : ∀ (r : List Int) (b : Int) (l : List Int) (i : Nat), l.drop (i + 1) = r → maxTo l i = b → i + 1 + r.length = l.length → maxTo l (l.length - 1) = r.foldl max b
  | [], b, l, i, h, hb, hl => by
    have : l.length - 1 = i := by simp at hl; omega
    rw [this, hb]; rfl
  | x :: r, b, l, i, h, hb, hl => by
    simp only [List.length_cons] at hl
    have hx : l.getD (i + 1) 0 = x := by
      rw [List.drop_eq_getElem_cons (by omega)] at h
      injection h with h1 h2
      rw [List.getD_eq_getElem?_getD, List.getElem?_eq_getElem (by omega)]
      exact h1
    have hd : l.drop (i + 1 + 1) = r := by
      have := congrArg (List.drop 1) h
      rwa [List.drop_drop, List.drop_one, List.tail_cons] at this
    rw [List.foldl_cons]
    exact maxTo_fold a r (max b x) l (i + 1) hd (by rw [maxTo, hb, hx]) (by omega)
set_option maxHeartbeats 2000000 in
theorem slices_Max_int_int.calls (A0 : Option Addr) (c0 : Nat) (l0 : List Int) (r : Int) (w : World) (hr0 : Kd.C (Kd.int .i64) w A0 l0.length l0) (hc0 : l0.length ≤ c0) (h : slices_Max_int_int.f l0 = some r) :
    Calls Try.prog 83 #[.slice A0 l0.length c0] w fun e w' => e = .returned (.int .i64 r) ∧ Drawn0 w w' := by
  have hpos : 0 < l0.length := by
    cases l0 with
    | nil => simp [slices_Max_int_int.f] at h
    | cons a s => simp
  have hres : r = maxTo l0 (l0.length - 1) := by
    cases l0 with
    | nil => simp at hpos
    | cons a s =>
      rw [maxTo_fold a s a (a :: s) 0 (by simp) (by simp [maxTo]) (by simp; omega)]
      exact (Option.some.inj h).symm
  subst hres
  have hbig : l0.length ≤ 9223372036854775807 := hr0.2.1
  have HR := Aside0.mk hr0
  clear hr0 h
  have c0b : decide ((l0.length : Int) < 1) = false := decide_eq_false (by omega)
  have c0c : decide (l0.length < 1) = false := decide_eq_false (by omega)
  obtain ⟨ad, rfl, hx0⟩ := Kd.at_int HR.out (0 : Int) (by omega) (by omega)
  have e0 : rd l0 (0 : Int) = maxTo l0 0 := rfl
  rw [e0] at hx0
  have q0 : (0 : Int) < (l0.length : Int) := by omega
  have hx1 : w.cell? ad = some (.int .i64 (maxTo l0 0)) := by
    have e : ad.add (Int.toNat 0) = ad := by cases ad; simp [Addr.add]
    rw [e] at hx0; exact hx0
  clear hx0 e0
  go_enter Try.func83, Try.ntmps83
  go_wp2
  go_loopg [3, 4] l0.length (fun gg v3 v4 wr => ∃ i q : Nat, Aside0 (i + 1 ≤ l0.length) ∧ Aside0 (l0.length - i ≤ gg) ∧ v3 = .int .i64 (maxTo l0 i) ∧ v4 = .int .i64 ((i + 1 : Nat) : Int) ∧ wr = w.drewN q)
  case atStart => exact ⟨0, 0, ⟨by omega⟩, ⟨by omega⟩, rfl, rfl, rfl⟩
  case round =>
    obtain ⟨i, q, HI, HG, rfl, rfl, rfl⟩ := hrel
    obtain ⟨z, hz⟩ : ∃ z : Int, z = ((i + 1 : Nat) : Int) := ⟨_, rfl⟩
    rw [← hz]
    by_cases hlt : i + 1 < l0.length
    · have c1 : decide (z < (l0.length : Int)) = true := decide_eq_true (by omega)
      have p1 : 0 ≤ z := by omega
      have p2 : z < (l0.length : Int) := by omega
      obtain ⟨ad', e', hx⟩ := Kd.at_int HR.out z p1 p2
      cases e'
      obtain ⟨y, hy⟩ : ∃ y, y = rd l0 z := ⟨_, rfl⟩
      rw [← hy] at hx
      obtain ⟨m0, hm0⟩ : ∃ m0, m0 = maxTo l0 i := ⟨_, rfl⟩
      rw [← hm0]
      have HM := Aside0.mk (show max m0 y = maxTo l0 (i + 1) by rw [hm0, hy, hz, maxTo, rd, Int.toNat_natCast])
      have HZ := Aside0.mk hz
      clear hz hy hm0
      go_wp2
      all_goals (
        go_roundg (gk - 1)
        case measure => have := HG.out; have := HI.out; omega
        case rel => exact ⟨i + 1, q, ⟨by omega⟩, ⟨by have := HG.out; omega⟩, by rw [← HM.out]; congr 1; omega, by congr 1; have := HZ.out; first | omega | (unfold wrap64; omega), rfl⟩)
    · have c1 : decide (z < (l0.length : Int)) = false := decide_eq_false (by omega)
      have HZ := Aside0.mk hz
      clear hz
      go_wp2
      go_ret
      have e : l0.length - 1 = i := by have := HI.out; omega
      exact ⟨by rw [e]; rfl, q, rfl⟩
end Go.Proofs.Ytfblohigbdomjaa.G
namespace Go.Proofs.Ytfblohigbdomjaa.G
open Go.RowKit Go.Proofs.YtfblohigbdomjaaW.PrintWords Go.Proofs.YtfblohigbdomjaaW.PrintLast Go.Proofs.YtfblohigbdomjaaW.PrintMore
set_option linter.unusedVariables false
set_option linter.unusedSimpArgs false
theorem wrap_id {x : Int} (h1 : -9223372036854775808 ≤ x) (h2 : x ≤ 9223372036854775807) : wrap64 x = x := by unfold wrap64; omega
theorem wrap_next {i n : Nat} (h : i < n) (hn : n ≤ 4611686018427387904) : wrap64 ((i : Int) + 1) = ((i + 1 : Nat) : Int) := by rw [wrap_id (by omega) (by omega)]; rfl
theorem succ_of {d k : Nat} (h : d < k) : ∃ m, k = m + 1 := ⟨k - 1, by omega⟩
theorem rd_nat (l : List Int) (i : Nat) : rd l (i : Int) = l.getD i 0 := by unfold rd; rw [Int.toNat_natCast]
theorem take_succ_getD {l : List Int} {i : Nat} (h : i < l.length) : l.take (i + 1) = l.take i ++ [l.getD i 0] := by
  rw [List.take_succ_eq_append_getElem h, List.getD_eq_getElem?_getD, List.getElem?_eq_getElem h]; rfl
theorem drop_getD {l : List Int} {i : Nat} (h : i < l.length) : l.drop i = l.getD i 0 :: l.drop (i + 1) := by
  rw [List.drop_eq_getElem_cons h, List.getD_eq_getElem?_getD, List.getElem?_eq_getElem h]; rfl
theorem Ev.of_all {α : Type} {g : Nat → Option α} {r : α} (K : Nat) (h : ∀ k, K < k → g k = some r) : Ev g r := ⟨K + 1, fun k hk => h k (by omega)⟩
/-- A loop that counts up: its state at each count, what is left behind the last one. -/
theorem Ev.up {σ ρ : Type} (n : Nat) (S : Nat → σ) (L : Nat → σ → Int → Option ρ) (r : ρ)
    (hstep : ∀ i, i < n → Ev (fun k => L k (S (i + 1)) ((i + 1 : Nat) : Int)) r → Ev (fun k => L k (S i) (i : Int)) r)
    (hend : Ev (fun k => L k (S n) (n : Int)) r) : ∀ m, m ≤ n → Ev (fun k => L k (S m) (m : Int)) r := by
  intro m hm
  have key : ∀ d m, m + d = n → Ev (fun k => L k (S m) (m : Int)) r := by
    intro d
    induction d with
    | zero => intro m hd; obtain rfl : m = n := by omega
              exact hend
    | succ d ih => intro m hd; exact hstep m (by omega) (ih (m + 1) (by omega))
  exact key (n - m) m (by omega)
theorem Ev.up0 {σ ρ : Type} (n : Nat) (S : Nat → σ) (L : Nat → σ → Int → Option ρ) (r : ρ)
    (hstep : ∀ i, i < n → Ev (fun k => L k (S (i + 1)) ((i + 1 : Nat) : Int)) r → Ev (fun k => L k (S i) (i : Int)) r)
    (hend : Ev (fun k => L k (S n) (n : Int)) r) : Ev (fun k => L k (S 0) 0) r := Ev.up n S L r hstep hend 0 (Nat.zero_le _)
/-- A round that needs no rounds of others. -/
theorem Ev.one {α : Type} {g f : Nat → Option α} {r : α} (k : Ev f r) (h : ∀ k, g (k + 1) = f k) : Ev g r := Ev.step h k
theorem Ev.end_ {α : Type} {g : Nat → Option α} {r : α} (h : ∀ k, g (k + 1) = some r) : Ev g r := Ev.step h (Ev.now r)
/-- Places that were written one by one: what is new, and what is still old. -/
def mixed (R o : List Int) (i : Nat) : List Int := R.take i ++ o.drop i
theorem toIntS_l0 (x0 : List Int) (hn : x0.length ≤ 4611686018427387904) : ∀ (d k i : Nat) (x3 : List Int), i + d = x0.length → d < k → x3.length = x0.length → x3.take i = x0.take i → laws_toIntS.l0 k x0 x3 i = some x0 := by
  intro d
  induction d with
  | zero =>
    intro k i x3 hd hk hl ht
    obtain ⟨k, rfl⟩ := succ_of hk
    have hi : i = x0.length := by omega
    rw [laws_toIntS.l0, if_neg (by omega)]
    rw [hi, List.take_of_length_le (by omega), List.take_of_length_le (by omega)] at ht
    rw [ht]
  | succ d ih =>
    intro k i x3 hd hk hl ht
    obtain ⟨k, rfl⟩ := succ_of hk
    rw [laws_toIntS.l0, if_pos (by omega), if_pos (by omega), if_pos (by omega), wrap_next (n := x0.length) (by omega) hn, rd_nat, Int.toNat_natCast]
    apply ih k (i + 1) _ (by omega) (by omega) (by simpa using hl)
    rw [take_succ_getD (l := x0) (i := i) (by omega), ← ht]
    apply List.ext_getElem
    · simp; omega
    · intro j h1 h2
      simp only [List.length_take, List.length_set] at h1
      rw [List.getElem_take, List.getElem_set, List.getElem_append]
      by_cases e : i = j
      · subst e; simp; intro h; omega
      · have : j < i := by omega
        simp [e, this]; omega
theorem toIntS_ev (l : List Int) (hn : l.length ≤ 35184372088832) : Ev (fun k => laws_toIntS.f k l) l := by
  refine Ev.of_all l.length fun k hk => ?_
  unfold laws_toIntS.f
  rw [if_pos (by omega), if_pos (by omega)]
  exact toIntS_l0 l (by omega) l.length k 0 _ (by omega) hk (by simp) (by simp)
theorem eqIntS_l0 (a b : List Int) (hl : a.length = b.length) (hn : a.length ≤ 4611686018427387904) : ∀ (d k i : Nat), i + d = a.length → d < k → laws_eqIntS.l0 k a b i = some (decide (a.drop i = b.drop i)) := by
  intro d
  induction d with
  | zero =>
    intro k i hd hk
    obtain ⟨k, rfl⟩ := succ_of hk
    rw [laws_eqIntS.l0, if_neg (by omega), List.drop_of_length_le (by omega), List.drop_of_length_le (by omega)]; simp
  | succ d ih =>
    intro k i hd hk
    obtain ⟨k, rfl⟩ := succ_of hk
    rw [laws_eqIntS.l0, if_pos (by omega), if_pos (by omega), if_pos (by omega), wrap_next (n := a.length) (by omega) hn, rd_nat, rd_nat, ih k (i + 1) (by omega) (by omega), drop_getD (l := a) (i := i) (by omega), drop_getD (l := b) (i := i) (by omega)]
    by_cases e : a.getD i 0 = b.getD i 0
    · rw [if_pos e, e]; simp
    · rw [if_neg e]; simp only [List.cons.injEq, e, false_and, decide_false]
theorem eqIntS_ev (a b : List Int) (hn : a.length ≤ 4611686018427387904) : Ev (fun k => laws_eqIntS.f k a b) (decide (a = b)) := by
  refine Ev.of_all a.length fun k hk => ?_
  unfold laws_eqIntS.f
  by_cases hl : a.length = b.length
  · rw [if_pos (by omega), show (0 : Int) = ((0 : Nat) : Int) from rfl, eqIntS_l0 a b hl hn a.length k 0 (by omega) hk]; rfl
  · rw [if_neg (by omega)]
    have : a ≠ b := fun e => hl (by rw [e])
    simp [this]
theorem l1In_eq (a b c : Int) : spec_l1In.f a b c = some (decide (b ≤ a ∧ a ≤ c)) := by
  unfold spec_l1In.f
  split
  · rename_i h; congr 1; rw [Bool.eq_iff_iff]; simp; omega
  · rename_i h; congr 1; rw [Bool.eq_iff_iff]; simp; omega
theorem l1All_l0 (l : List Int) (lo hi : Int) (hn : l.length ≤ 4611686018427387904) : ∀ (d k i : Nat), i + d = l.length → d < k → spec_l1All.l0 k lo hi l (l.length : Int) i = some ((l.drop i).all fun x => decide (lo ≤ x ∧ x ≤ hi)) := by
  intro d
  induction d with
  | zero =>
    intro k i hd hk
    obtain ⟨k, rfl⟩ := succ_of hk
    rw [spec_l1All.l0, if_neg (by omega), List.drop_of_length_le (by omega)]; rfl
  | succ d ih =>
    intro k i hd hk
    obtain ⟨k, rfl⟩ := succ_of hk
    rw [spec_l1All.l0, if_pos (by omega), if_pos (by omega), if_pos (by omega), l1In_eq, Option.bind_some, rd_nat, wrap_next (n := l.length) (by omega) hn, ih k (i + 1) (by omega) (by omega), drop_getD (l := l) (i := i) (by omega), List.all_cons]
    split
    · rename_i h; rw [h, Bool.true_and]
    · rename_i h; rw [Bool.not_eq_true] at h; rw [h, Bool.false_and]
theorem l1All_ev (l : List Int) (lo hi : Int) (hn : l.length ≤ 4611686018427387904) : Ev (fun k => spec_l1All.f k l lo hi) (l.all fun x => decide (lo ≤ x ∧ x ≤ hi)) := by
  refine Ev.of_all l.length fun k hk => ?_
  have := l1All_l0 l lo hi hn l.length k 0 (by omega) hk
  simpa [spec_l1All.f] using this
theorem eqTable_ev (a b : List Int) (hn : a.length ≤ 4611686018427387904) : Ev (fun k => laws_eqTable.f k a b) (decide (a = b)) := by
  unfold laws_eqTable.f
  refine Ev.bind (eqIntS_ev a b hn) ?_
  cases decide (a = b) with
  | true => simp only [if_true]; exact Ev.now _
  | false => simp only [Bool.false_eq_true, if_false]; exact Ev.now _
theorem toTable_ev (l : List Int) (hn : l.length ≤ 35184372088832) : Ev (fun k => laws_toTable.f k l) l := by
  unfold laws_toTable.f
  exact Ev.bind (toIntS_ev l hn) (Ev.now _)
theorem between_eq (a b c : Int) : impl_between.f a b c = some (decide (b ≤ a ∧ a ≤ c)) := by
  unfold impl_between.f
  by_cases h : a ≥ b
  · rw [if_pos h]; congr 1; simp; omega
  · rw [if_neg h]; congr 1; simp; omega
theorem isSize_eq (a : Int) : impl_isSize.f a = some (decide (2 ≤ a ∧ a ≤ 12)) := by unfold impl_isSize.f; rw [between_eq]; rfl
theorem szTable_eq (l : List Int) (hn : l.length ≤ 4611686018427387904) : laws_szTable.f l 1048576 = some (if (l.length : Int) > 1048576 then -1 else 1048576 - (l.length : Int)) := by
  unfold laws_szTable.f laws_szIntS.f
  rw [wrap_id (x := 1048576 - (l.length : Int)) (by omega) (by omega)]
  by_cases h : (l.length : Int) > 1048576
  · rw [if_pos (by omega), if_pos h]; rfl
  · rw [if_neg (by omega), if_neg h, Option.bind_some, if_neg (by omega)]
theorem l1Has_l0 (x : List Int) (a : Int) (hn : x.length ≤ 4611686018427387904) : ∀ (d i : Nat), i + d = x.length → Ev (fun k => spec_l1Has.l0 k a x (x.length : Int) i) (decide (a ∈ x.drop i)) := by
  intro d
  induction d with
  | zero =>
    intro i hd
    refine Ev.end_ fun k => ?_
    rw [spec_l1Has.l0, if_neg (by omega), List.drop_eq_nil_of_le (by omega)]
    simp
  | succ d ih =>
    intro i hd
    have e1 := drop_getD (l := x) (i := i) (by omega)
    by_cases h : x.getD i 0 = a
    · refine Ev.end_ fun k => ?_
      rw [spec_l1Has.l0, if_pos (by omega), if_pos (by omega), if_pos (by omega), rd_nat, if_pos h, e1, h, decide_eq_true (List.mem_cons_self)]
    · refine Ev.one (f := fun k => spec_l1Has.l0 k a x (x.length : Int) ((i + 1 : Nat) : Int)) ?_ fun k => ?_
      · have := ih (i + 1) (by omega)
        have e : decide (a ∈ x.drop i) = decide (a ∈ x.drop (i + 1)) := by
          rw [e1]
          have : ¬ a = x.getD i 0 := fun e => h e.symm
          simp only [List.mem_cons, this, false_or]
        rw [e]; exact this
      · rw [spec_l1Has.l0, if_pos (by omega), if_pos (by omega), if_pos (by omega), rd_nat, if_neg h, wrap_next (n := x.length) (by omega) hn]
theorem l1Has_ev (x : List Int) (a : Int) (hn : x.length ≤ 4611686018427387904) : Ev (fun k => spec_l1Has.f k x a) (decide (a ∈ x)) := by
  unfold spec_l1Has.f
  have := l1Has_l0 x a hn x.length 0 (by omega)
  simpa using this
/-- The first place of a number, -1 where it is not. -/
def ixF (l : List Int) (a : Int) : Nat → Nat → Int
  | 0, _ => -1
  | d + 1, i => if l.getD i 0 = a then (i : Int) else ixF l a d (i + 1)
theorem ixF_spec (l : List Int) (a : Int) : ∀ (d i : Nat), i + d = l.length → (ixF l a d i = -1 ∧ a ∉ l.drop i) ∨ (∃ j : Nat, ixF l a d i = j ∧ j < l.length ∧ l.getD j 0 = a ∧ a ∈ l.drop i)
  | 0, i, h => by left; rw [List.drop_of_length_le (by omega)]; exact ⟨rfl, by simp⟩
  | d + 1, i, h => by
    rw [ixF, drop_getD (by omega)]
    by_cases c : l.getD i 0 = a
    · right; rw [if_pos c]; exact ⟨i, rfl, by omega, c, by rw [c]; simp⟩
    · rw [if_neg c]
      rcases ixF_spec l a d (i + 1) (by omega) with ⟨h1, h2⟩ | ⟨j, h1, h2, h3, h4⟩
      · left; exact ⟨h1, by simp only [List.mem_cons, not_or]; exact ⟨fun e => c e.symm, h2⟩⟩
      · right; exact ⟨j, h1, h2, h3, by simp [h4]⟩
theorem index_l0 (l : List Int) (a : Int) (hn : l.length ≤ 4611686018427387904) : ∀ (d i : Nat), i + d = l.length → Ev (fun k => slices_Index_int_int.l0 k l a (l.length : Int) i) (ixF l a d i) := by
  intro d
  induction d with
  | zero =>
    intro i hd
    exact Ev.end_ fun k => by rw [slices_Index_int_int.l0, if_neg (by omega)]; rfl
  | succ d ih =>
    intro i hd
    rw [ixF]
    by_cases c : l.getD i 0 = a
    · rw [if_pos c]
      refine Ev.end_ fun k => ?_
      rw [slices_Index_int_int.l0, if_pos (by omega), if_pos (by omega), if_pos (by omega), rd_nat, if_pos c.symm]
    · rw [if_neg c]
      refine Ev.one (ih (i + 1) (by omega)) fun k => ?_
      rw [slices_Index_int_int.l0, if_pos (by omega), if_pos (by omega), if_pos (by omega), rd_nat, if_neg (fun e => c e.symm), wrap_next (n := l.length) (by omega) hn]
theorem index_ev (l : List Int) (a : Int) (hn : l.length ≤ 4611686018427387904) : Ev (fun k => slices_Index_int_int.f k l a) (ixF l a l.length 0) := by
  unfold slices_Index_int_int.f
  exact index_l0 l a hn l.length 0 (by omega)
theorem containsI_ev (l : List Int) (a : Int) (hn : l.length ≤ 4611686018427387904) : Ev (fun k => slices_Contains_int_int.f k l a) (decide (a ∈ l)) := by
  unfold slices_Contains_int_int.f
  refine Ev.bind (index_ev l a hn) ?_
  have e : decide (ixF l a l.length 0 ≥ 0) = decide (a ∈ l) := by
    rcases ixF_spec l a l.length 0 (by omega) with ⟨h1, h2⟩ | ⟨j, h1, h2, h3, h4⟩
    · rw [List.drop_zero] at h2
      rw [h1, decide_eq_false h2]; decide
    · rw [List.drop_zero] at h4
      rw [h1, decide_eq_true h4]; exact decide_eq_true (by omega)
  rw [e]
  exact Ev.now _
def costN (n key at_ : Nat) : Nat := (at_ + n - key % n) % n
theorem cost_arith {n key at_ : Nat} (hn : 0 < n) (hn2 : n ≤ 1000) (hk : key ≤ 1000) (ha : at_ < n) : Int.tmod (wrap64 ((wrap64 ((at_ : Int) - (Int.tmod (key : Int) (n : Int)))) + (n : Int))) (n : Int) = (costN n key at_ : Nat) := by
  have e1 : Int.tmod (key : Int) (n : Int) = ((key % n : Nat) : Int) := rfl
  have hlt := Nat.mod_lt key hn
  rw [e1, wrap_id (x := (at_ : Int) - ((key % n : Nat) : Int)) (by omega) (by omega), wrap_id (by omega) (by omega)]
  rw [show (at_ : Int) - ((key % n : Nat) : Int) + (n : Int) = ((at_ + n - key % n : Nat) : Int) by omega]
  rfl
theorem costN_lt {n key at_ : Nat} (hn : 0 < n) : costN n key at_ < n := Nat.mod_lt _ hn
theorem prCost_eq {n key at_ : Nat} (hn : 0 < n) (hn2 : n ≤ 1000) (hk : key ≤ 1000) (ha : at_ < n) : spec_prCost.f (key : Int) (at_ : Int) (n : Int) = some ((costN n key at_ : Nat) : Int) := by
  unfold spec_prCost.f
  rw [if_neg (by omega), cost_arith hn hn2 hk ha]
theorem tcost_eq {l : List Int} {key at_ : Nat} (hn2 : l.length ≤ 1000) (hk : key ≤ 1000) (ha : at_ < l.length) (hg : l.getD at_ 0 = (key : Int)) : impl_Table_cost.f l (at_ : Int) = some ((costN l.length key at_ : Nat) : Int) := by
  unfold impl_Table_cost.f
  rw [if_pos (by omega), if_pos (by omega), if_neg (by omega), rd_nat, hg, cost_arith (by omega) hn2 hk ha]
/-- No free cell among the key's c cells from the s-th on. -/
def wayF (l : List Int) (key : Nat) : Nat → Nat → Bool
  | _, 0 => true
  | s, c + 1 => decide (0 ≤ l.getD ((key + s) % l.length) 0) && wayF l key (s + 1) c
def okCell (l : List Int) (i : Nat) : Bool := decide (l.getD i 0 < 0) || (!decide (l.getD i 0 ∈ l.take i) && wayF l (l.getD i 0).toNat 0 (costN l.length (l.getD i 0).toNat i))
def okFrom (l : List Int) : Nat → Nat → Bool
  | 0, _ => true
  | d + 1, i => okCell l i && okFrom l d (i + 1)
def tblB (l : List Int) : Bool := decide (2 ≤ (l.length : Int) ∧ (l.length : Int) ≤ 12) && (l.all fun x => decide (-1 ≤ x ∧ x ≤ 999)) && decide ((-1 : Int) ∈ l) && okFrom l l.length 0
/-- The cell that lies so far back is the key's own one, so far on. -/
theorem back_cell {n key at_ c j : Nat} (hn : 0 < n) (ha : at_ < n) (hc : costN n key at_ = c) (hj : j ≤ c) (h1 : 1 ≤ j) : (at_ + n - j) % n = (key + (c - j)) % n := by
  have hk := Nat.mod_lt key hn
  have hcn : c < n := by rw [← hc]; exact costN_lt hn
  have e : (key + (c - j)) % n = (key % n + (c - j)) % n := (Nat.mod_add_mod key n (c - j)).symm
  rw [e]
  unfold costN at hc
  rcases Nat.lt_or_ge at_ (key % n) with h | h
  · rw [Nat.mod_eq_of_lt (show at_ + n - key % n < n by omega)] at hc
    rw [show key % n + (c - j) = at_ + n - j by omega]
  · have : (at_ + n - key % n) % n = at_ - key % n := by
      rw [show at_ + n - key % n = (at_ - key % n) + n by omega, Nat.add_mod_right, Nat.mod_eq_of_lt (by omega)]
    rw [this] at hc
    rw [show at_ + n - j = (key % n + (c - j)) + n by omega, Nat.add_mod_right]
end Go.Proofs.Ytfblohigbdomjaa.G
namespace Go.Proofs.Ytfblohigbdomjaa.G
open Go.RowKit Go.Proofs.YtfblohigbdomjaaW.PrintWords Go.Proofs.YtfblohigbdomjaaW.PrintLast Go.Proofs.YtfblohigbdomjaaW.PrintMore
set_option linter.unusedVariables false
set_option linter.unusedSimpArgs false
section
variable (l : List Int) (hn : 2 ≤ l.length) (hn2 : l.length ≤ 12) (hr : ∀ j, j < l.length → -1 ≤ l.getD j 0 ∧ l.getD j 0 ≤ 999)
include hn hn2 hr
theorem sp_way (key i c : Nat) (hk : key ≤ 1000) (hi : i < l.length) (hc : costN l.length key i = c) (r : Bool) (h : Ev (fun k => spec_prGood.l0 k (l.length : Int) l (l.length : Int) (wrap64 ((i : Int) + 1)) l) r) : ∀ (j : Nat), j ≤ c →
    Ev (fun k => spec_prGood.l1 k (l.length : Int) (i : Int) (j : Int) l (l.length : Int) (i : Int) l) (if wayF l key (c - j) j = true then r else false) := by
  have hcn : c < l.length := by rw [← hc]; exact costN_lt (by omega)
  intro j
  induction j with
  | zero =>
    intro _
    rw [wayF, if_pos rfl]
    exact Ev.one h fun k => by rw [spec_prGood.l1, if_neg (by omega)]
  | succ j ih =>
    intro hj
    have hcell := back_cell (n := l.length) (by omega) hi hc hj (by omega)
    have e1 : Int.tmod (wrap64 ((wrap64 ((i : Int) - ((j + 1 : Nat) : Int))) + (l.length : Int))) (l.length : Int) = (((key + (c - (j + 1))) % l.length : Nat) : Int) := by
      rw [wrap_id (x := (i : Int) - ((j + 1 : Nat) : Int)) (by omega) (by omega), wrap_id (by omega) (by omega), ← hcell, show (i : Int) - ((j + 1 : Nat) : Int) + (l.length : Int) = ((i + l.length - (j + 1) : Nat) : Int) by omega]
      rfl
    have hm := Nat.mod_lt (key + (c - (j + 1))) (show 0 < l.length by omega)
    have hv := hr _ hm
    rw [wayF, show c - (j + 1) + 1 = c - j by omega]
    by_cases hf : l.getD ((key + (c - (j + 1))) % l.length) 0 = -1
    · rw [show decide (0 ≤ l.getD ((key + (c - (j + 1))) % l.length) 0) = false from decide_eq_false (by omega), Bool.false_and, if_neg (by decide)]
      refine Ev.end_ fun k => ?_
      rw [spec_prGood.l1, if_pos (by omega), if_neg (by omega), e1, if_pos (by omega), if_pos (by omega), rd_nat, if_pos hf]
    · rw [show decide (0 ≤ l.getD ((key + (c - (j + 1))) % l.length) 0) = true from decide_eq_true (by omega), Bool.true_and]
      refine Ev.one (ih (by omega)) fun k => ?_
      rw [spec_prGood.l1, if_pos (by omega), if_neg (by omega), e1, if_pos (by omega), if_pos (by omega), rd_nat, if_neg hf, wrap_id (x := ((j + 1 : Nat) : Int) - 1) (by omega) (by omega), show ((j + 1 : Nat) : Int) - 1 = (j : Int) by omega]
theorem im_way (key i c : Nat) (hk : key ≤ 1000) (hi : i < l.length) (hc : c < l.length) (r : Bool) (h : Ev (fun k => impl_isTable.l0 k l (l.length : Int) (wrap64 ((i : Int) + 1)) l) r) : ∀ (d s : Nat), s + d = c →
    Ev (fun k => impl_isTable.l1 k (key : Int) l (l.length : Int) (i : Int) (c : Int) (s : Int) l) (if wayF l key s d = true then r else false) := by
  have hr0 := hr
  intro d
  induction d with
  | zero =>
    intro s hs
    rw [wayF, if_pos rfl]
    exact Ev.one h fun k => by rw [impl_isTable.l1, if_neg (by omega)]
  | succ d ih =>
    intro s hs
    have e1 : Int.tmod (wrap64 ((key : Int) + (s : Int))) (l.length : Int) = (((key + s) % l.length : Nat) : Int) := by
      rw [wrap_id (by omega) (by omega), show (key : Int) + (s : Int) = ((key + s : Nat) : Int) by omega]
      rfl
    have hm := Nat.mod_lt (key + s) (show 0 < l.length by omega)
    rw [wayF]
    by_cases hf : l.getD ((key + s) % l.length) 0 < 0
    · rw [show decide (0 ≤ l.getD ((key + s) % l.length) 0) = false from decide_eq_false (by omega), Bool.false_and, if_neg (by decide)]
      refine Ev.end_ fun k => ?_
      rw [impl_isTable.l1, if_pos (by omega), if_neg (by omega), e1, if_pos (by omega), if_pos (by omega), rd_nat, if_pos hf]
    · rw [show decide (0 ≤ l.getD ((key + s) % l.length) 0) = true from decide_eq_true (by omega), Bool.true_and]
      refine Ev.one (ih (s + 1) (by omega)) fun k => ?_
      rw [impl_isTable.l1, if_pos (by omega), if_neg (by omega), e1, if_pos (by omega), if_pos (by omega), rd_nat, if_neg hf, wrap_next (n := 1000) (by omega) (by omega)]
theorem sp_good_l0 : ∀ (d i : Nat), i + d = l.length → Ev (fun k => spec_prGood.l0 k (l.length : Int) l (l.length : Int) (i : Int) l) (okFrom l d i) := by
  intro d
  induction d with
  | zero =>
    intro i hd
    exact Ev.end_ fun k => by rw [spec_prGood.l0, if_neg (by omega)]; rfl
  | succ d ih =>
    intro i hd
    have hi : i < l.length := by omega
    have hv := hr i hi
    rw [okFrom, okCell]
    by_cases hf : l.getD i 0 = -1
    · rw [show decide (l.getD i 0 < 0) = true from decide_eq_true (by omega), Bool.true_or, Bool.true_and]
      refine Ev.one (ih (i + 1) (by omega)) fun k => ?_
      rw [spec_prGood.l0, if_pos (by omega), if_pos (by omega), if_pos (by omega), rd_nat, if_pos hf, wrap_next (n := l.length) hi (by omega)]
    · rw [show decide (l.getD i 0 < 0) = false from decide_eq_false (by omega), Bool.false_or]
      obtain ⟨key, hkey⟩ : ∃ key : Nat, l.getD i 0 = key := ⟨(l.getD i 0).toNat, by omega⟩
      rw [hkey, Int.toNat_natCast]
      refine Ev.step (f := fun k => (spec_l1Has.f k (l.take i) (key : Int)).bind fun t169 => (if t169 = true then (some false) else (spec_prGood.l1 k (l.length : Int) (i : Int) ((costN l.length key i : Nat) : Int) l (l.length : Int) (i : Int) l))) (fun k => by
        rw [spec_prGood.l0, if_pos (by omega), if_pos (by omega), if_pos (by omega), rd_nat, if_neg hf, if_pos (by omega), Int.toNat_natCast, hkey, prCost_eq (by omega) (by omega) (by omega) hi]; rfl) ?_
      refine Ev.bind (l1Has_ev _ _ (by simp; omega)) ?_
      cases hh : decide ((key : Int) ∈ l.take i) with
      | true => simp only [if_true, Bool.not_true, Bool.false_and]; exact Ev.now _
      | false =>
        simp only [Bool.false_eq_true, if_false, Bool.not_false, Bool.true_and]
        have h0 := ih (i + 1) (by omega)
        have hw := sp_way l hn hn2 hr key i (costN l.length key i) (by omega) hi rfl _ (by rw [wrap_next (n := l.length) hi (by omega)]; exact h0) (costN l.length key i) (Nat.le_refl _)
        rw [Nat.sub_self] at hw
        cases hww : wayF l key 0 (costN l.length key i) with
        | true => rw [hww, if_pos rfl] at hw; rw [Bool.true_and]; exact hw
        | false => rw [hww, if_neg (by decide)] at hw; rw [Bool.false_and]; exact hw
theorem im_good_l0 : ∀ (d i : Nat), i + d = l.length → Ev (fun k => impl_isTable.l0 k l (l.length : Int) (i : Int) l) (okFrom l d i) := by
  intro d
  induction d with
  | zero =>
    intro i hd
    exact Ev.end_ fun k => by rw [impl_isTable.l0, if_neg (by omega)]; rfl
  | succ d ih =>
    intro i hd
    have hi : i < l.length := by omega
    have hv := hr i hi
    rw [okFrom, okCell]
    by_cases hf : l.getD i 0 < 0
    · rw [decide_eq_true hf, Bool.true_or, Bool.true_and]
      refine Ev.one (ih (i + 1) (by omega)) fun k => ?_
      rw [impl_isTable.l0, if_pos (by omega), if_pos (by omega), if_pos (by omega), rd_nat, if_pos hf, wrap_next (n := l.length) hi (by omega)]
    · rw [decide_eq_false hf, Bool.false_or]
      obtain ⟨key, hkey⟩ : ∃ key : Nat, l.getD i 0 = key := ⟨(l.getD i 0).toNat, by omega⟩
      have htc := tcost_eq (l := l) (key := key) (at_ := i) (by omega) (by omega) hi hkey
      rw [hkey, Int.toNat_natCast]
      refine Ev.step (f := fun k => (slices_Contains_int_int.f k (l.take i) (key : Int)).bind fun t195 => (if t195 = true then (some false) else (impl_isTable.l1 k (key : Int) l (l.length : Int) (i : Int) ((costN l.length key i : Nat) : Int) 0 l))) (fun k => by
        rw [impl_isTable.l0, if_pos (by omega), if_pos (by omega), if_pos (by omega), rd_nat, if_neg hf, if_pos (by omega), Int.toNat_natCast, hkey, htc]; rfl) ?_
      refine Ev.bind (containsI_ev _ _ (by simp; omega)) ?_
      cases hh : decide ((key : Int) ∈ l.take i) with
      | true => simp only [if_true, Bool.not_true, Bool.false_and]; exact Ev.now _
      | false =>
        simp only [Bool.false_eq_true, if_false, Bool.not_false, Bool.true_and]
        have h0 := ih (i + 1) (by omega)
        have hw := im_way l hn hn2 hr key i (costN l.length key i) (by omega) hi (costN_lt (by omega)) _ (by rw [wrap_next (n := l.length) hi (by omega)]; exact h0) (costN l.length key i) 0 (by omega)
        cases hww : wayF l key 0 (costN l.length key i) with
        | true => rw [hww, if_pos rfl] at hw; rw [Bool.true_and]; exact hw
        | false => rw [hww, if_neg (by decide)] at hw; rw [Bool.false_and]; exact hw
end
end Go.Proofs.Ytfblohigbdomjaa.G
namespace Go.Proofs.Ytfblohigbdomjaa.G
open Go.RowKit Go.Proofs.YtfblohigbdomjaaW.PrintWords Go.Proofs.YtfblohigbdomjaaW.PrintLast Go.Proofs.YtfblohigbdomjaaW.PrintMore
set_option linter.unusedVariables false
set_option linter.unusedSimpArgs false
theorem allT_get {l : List Int} {lo hi : Int} (h : (l.all fun x => decide (lo ≤ x ∧ x ≤ hi)) = true) {j : Nat} (hj : j < l.length) : lo ≤ l.getD j 0 ∧ l.getD j 0 ≤ hi := by
  rw [List.all_eq_true] at h
  have := h l[j] (List.getElem_mem hj)
  rw [List.getD_eq_getElem?_getD, List.getElem?_eq_getElem hj]
  simpa using this
theorem areBetween_eq (l : List Int) (lo hi : Int) : impl_areBetween.f l lo hi = some (l.all fun x => decide (lo ≤ x ∧ x ≤ hi)) := by
  unfold impl_areBetween.f
  congr 2
  funext x
  rw [Bool.eq_iff_iff]; simp
theorem prGood_ev (l : List Int) (hn : l.length ≤ 4611686018427387904) : Ev (fun k => spec_prGood.f k l) (tblB l) := by
  unfold spec_prGood.f tblB
  simp only [l1In_eq, Option.bind_some]
  have stop : Ev (fun k => spec_prGood.j0 k (l.length : Int) true l) false := Ev.end_ fun k => by rw [spec_prGood.j0, if_pos rfl]
  by_cases h1 : 2 ≤ (l.length : Int) ∧ (l.length : Int) ≤ 12
  · rw [decide_eq_true h1]
    simp only [if_true, Bool.true_and]
    refine Ev.bind (l1All_ev l (-1) 999 hn) ?_
    cases h2 : (l.all fun x => decide (-1 ≤ x ∧ x ≤ 999)) with
    | false => simp only [Bool.false_eq_true, if_false, Bool.false_and]; exact stop
    | true =>
      simp only [if_true, Bool.true_and]
      refine Ev.bind (l1Has_ev l (-1) hn) ?_
      cases h3 : decide ((-1 : Int) ∈ l) with
      | false => simp only [Bool.not_false, Bool.false_and]; exact stop
      | true =>
        simp only [Bool.not_true, Bool.true_and]
        exact Ev.one (sp_good_l0 l (by omega) (by omega) (fun j hj => allT_get h2 hj) l.length 0 (by omega)) fun k => by rw [spec_prGood.j0, if_neg (by decide)]; rfl
  · rw [decide_eq_false h1]
    simp only [Bool.false_eq_true, if_false, Bool.false_and]
    exact stop
theorem isTable_ev (l : List Int) (hn : l.length ≤ 4611686018427387904) : Ev (fun k => impl_isTable.f k l) (tblB l) := by
  unfold impl_isTable.f tblB
  simp only [isSize_eq, areBetween_eq, Option.bind_some]
  have stop : Ev (fun k => impl_isTable.j0 k true l) false := Ev.end_ fun k => by rw [impl_isTable.j0, if_pos rfl]
  by_cases h1 : 2 ≤ (l.length : Int) ∧ (l.length : Int) ≤ 12
  · rw [decide_eq_true h1]
    simp only [if_true, Bool.true_and]
    cases h2 : (l.all fun x => decide (-1 ≤ x ∧ x ≤ 999)) with
    | false => simp only [Bool.false_eq_true, if_false, Bool.false_and]; exact stop
    | true =>
      simp only [if_true, Bool.true_and]
      refine Ev.bind (containsI_ev l (-1) hn) ?_
      cases h3 : decide ((-1 : Int) ∈ l) with
      | false => simp only [Bool.not_false, Bool.false_and]; exact stop
      | true =>
        simp only [Bool.not_true, Bool.true_and]
        exact Ev.one (im_good_l0 l (by omega) (by omega) (fun j hj => allT_get h2 hj) l.length 0 (by omega)) fun k => by rw [impl_isTable.j0, if_neg (by decide)]; rfl
  · rw [decide_eq_false h1]
    simp only [Bool.false_eq_true, if_false, Bool.false_and]
    exact stop
theorem tblB_parts {l : List Int} (h : tblB l = true) : 2 ≤ l.length ∧ l.length ≤ 12 ∧ (∀ j, j < l.length → -1 ≤ l.getD j 0 ∧ l.getD j 0 ≤ 999) ∧ (-1 : Int) ∈ l := by
  unfold tblB at h
  simp only [Bool.and_eq_true, decide_eq_true_eq] at h
  exact ⟨by omega, by omega, fun j hj => allT_get h.1.1.2 hj, h.1.2⟩
theorem getD_mem {l : List Int} {i : Nat} (h : i < l.length) : l.getD i 0 ∈ l := by
  rw [List.getD_eq_getElem?_getD, List.getElem?_eq_getElem h]; exact List.getElem_mem h
theorem getD_get {l : List Int} {i : Nat} (h : i < l.length) : l.getD i 0 = l[i] := by
  rw [List.getD_eq_getElem?_getD, List.getElem?_eq_getElem h]; rfl
def putZ (n : Int) : List Int → List Int
  | [] => [n]
  | y :: r => if y < n then y :: putZ n r else if y = n then y :: r else n :: y :: r
theorem putZ_split (n : Int) : ∀ (i : Nat) (L : List Int), i ≤ L.length → (∀ j, j < i → L.getD j 0 < n) → putZ n L = L.take i ++ putZ n (L.drop i)
  | 0, L, _, _ => by simp
  | i + 1, [], h, _ => by simp at h
  | i + 1, y :: r, h, hl => by
    have h0 : y < n := hl 0 (by omega)
    rw [putZ, if_pos h0, List.take_succ_cons, List.drop_succ_cons, List.cons_append, ← putZ_split n i r (by simpa using h) (fun j hj => by have := hl (j + 1) (by omega); simpa using this)]
theorem putZ_mem (n x : Int) : ∀ L : List Int, x ∈ putZ n L ↔ x = n ∨ x ∈ L
  | [] => by simp [putZ]
  | y :: r => by
    rw [putZ]
    split
    · rw [List.mem_cons, putZ_mem n x r, List.mem_cons]
      constructor
      · rintro (h | h | h)
        · exact Or.inr (Or.inl h)
        · exact Or.inl h
        · exact Or.inr (Or.inr h)
      · rintro (h | h | h)
        · exact Or.inr (Or.inl h)
        · exact Or.inl h
        · exact Or.inr (Or.inr h)
    · split
      · rename_i h; subst h; simp
      · simp
theorem putZ_strict (n : Int) : ∀ L : List Int, L.Pairwise (· < ·) → (putZ n L).Pairwise (· < ·)
  | [], _ => by simp [putZ]
  | y :: r, h => by
    rw [List.pairwise_cons] at h
    rw [putZ]
    split
    · rename_i hy
      rw [List.pairwise_cons]
      refine ⟨fun x hx => ?_, putZ_strict n r h.2⟩
      rcases (putZ_mem n x r).mp hx with e | e
      · omega
      · exact h.1 x e
    · split
      · exact List.pairwise_cons.mpr h
      · rw [List.pairwise_cons]
        refine ⟨fun x hx => ?_, List.pairwise_cons.mpr h⟩
        rcases List.mem_cons.mp hx with e | e
        · omega
        · have := h.1 x e; omega
theorem putZ_len (n : Int) : ∀ L : List Int, (putZ n L).length ≤ L.length + 1
  | [] => by simp [putZ]
  | y :: r => by
    have := putZ_len n r
    rw [putZ]
    split
    · simp; omega
    · split <;> simp
theorem l1Put_l0 (L : List Int) (n : Int) (hl : L.length ≤ 1000000) : ∀ (d i : Nat), i + d = L.length → (∀ j, j < i → L.getD j 0 < n) → Ev (fun k => spec_l1Put.l0 k L n (i : Int)) (putZ n L) := by
  intro d
  induction d with
  | zero =>
    intro i hd hlt
    refine Ev.end_ fun k => ?_
    rw [spec_l1Put.l0, if_neg (by omega)]
    simp only [Option.bind_some, List.nil_append, List.length_nil, Int.toNat_natCast]
    rw [if_pos (by omega), if_pos (by omega), if_pos (by simp; omega), if_pos (by simp; omega), if_pos (by simp; omega), putZ_split n i L (by omega) hlt, List.drop_of_length_le (by omega), List.append_nil]
    rfl
  | succ d ih =>
    intro i hd hlt
    have hi : i < L.length := by omega
    by_cases h1 : L.getD i 0 < n
    · refine Ev.one (ih (i + 1) (by omega) (fun j hj => ?_)) fun k => ?_
      · by_cases e : j = i
        · rw [e]; exact h1
        · exact hlt j (by omega)
      · rw [spec_l1Put.l0, if_pos (by omega), if_pos (by omega), rd_nat, if_pos h1, wrap_next (n := L.length) hi (by omega)]
    · by_cases h2 : L.getD i 0 = n
      · refine Ev.end_ fun k => ?_
        rw [spec_l1Put.l0, if_pos (by omega), if_pos (by omega), rd_nat, if_neg h1, if_pos h2, putZ_split n i L (by omega) hlt, drop_getD hi, putZ, if_neg h1, if_pos h2, ← drop_getD hi, List.take_append_drop]
      · refine Ev.end_ fun k => ?_
        rw [spec_l1Put.l0, if_pos (by omega), if_pos (by omega), rd_nat, if_neg h1, if_neg h2]
        simp only [Option.bind_some, List.nil_append, List.length_nil, Int.toNat_natCast]
        rw [if_pos (by omega), if_pos (by simp; omega), if_pos (by simp; omega), if_pos (by simp; omega), putZ_split n i L (by omega) hlt, drop_getD hi, putZ, if_neg h1, if_neg h2, List.append_assoc]
        rfl
theorem l1Put_ev (L : List Int) (n : Int) (hl : L.length ≤ 1000000) : Ev (fun k => spec_l1Put.f k L n) (putZ n L) := by
  unfold spec_l1Put.f
  exact l1Put_l0 L n hl L.length 0 (by omega) (fun j hj => by omega)
def prsTo (l : List Int) : Nat → List Int
  | 0 => []
  | q + 1 => if l.getD q 0 = -1 then prsTo l q else putZ (l.getD q 0) (prsTo l q)
theorem prsTo_len (l : List Int) : ∀ q, (prsTo l q).length ≤ q
  | 0 => by simp [prsTo]
  | q + 1 => by
    have := prsTo_len l q
    have := putZ_len (l.getD q 0) (prsTo l q)
    rw [prsTo]
    split <;> omega
theorem prsTo_mem (l : List Int) (x : Int) : ∀ q, x ∈ prsTo l q ↔ ∃ j, j < q ∧ l.getD j 0 = x ∧ x ≠ -1
  | 0 => by simp [prsTo]
  | q + 1 => by
    rw [prsTo]
    split
    · rename_i h
      rw [prsTo_mem l x q]
      constructor
      · rintro ⟨j, h1, h2, h3⟩; exact ⟨j, by omega, h2, h3⟩
      · rintro ⟨j, h1, h2, h3⟩
        by_cases e : j = q
        · subst e; omega
        · exact ⟨j, by omega, h2, h3⟩
    · rename_i h
      rw [putZ_mem, prsTo_mem l x q]
      constructor
      · rintro (e | ⟨j, h1, h2, h3⟩)
        · exact ⟨q, by omega, e.symm, by omega⟩
        · exact ⟨j, by omega, h2, h3⟩
      · rintro ⟨j, h1, h2, h3⟩
        by_cases e : j = q
        · subst e; exact Or.inl h2.symm
        · exact Or.inr ⟨j, by omega, h2, h3⟩
theorem prsTo_strict (l : List Int) : ∀ q, (prsTo l q).Pairwise (· < ·)
  | 0 => by simp [prsTo]
  | q + 1 => by
    rw [prsTo]
    split
    · exact prsTo_strict l q
    · exact putZ_strict _ _ (prsTo_strict l q)
theorem prSorted_ev (l : List Int) (hn : l.length ≤ 1000000) : Ev (fun k => spec_prSorted.f k l) (prsTo l l.length) := by
  unfold spec_prSorted.f
  have := Ev.up0 l.length (fun q => prsTo l q) (fun k s q => spec_prSorted.l0 k s l (l.length : Int) q) (prsTo l l.length) (fun q hq h => ?_) (Ev.end_ fun k => ?_)
  · simpa [prsTo] using this
  · rw [prsTo] at h
    by_cases hf : l.getD q 0 = -1
    · rw [if_pos hf] at h
      refine Ev.one h fun k => ?_
      rw [spec_prSorted.l0, if_pos (by omega), if_pos (by omega), if_pos (by omega), rd_nat, if_pos hf, wrap_next (n := l.length) hq (by omega)]
    · rw [if_neg hf] at h
      refine Ev.step (f := fun k => (spec_l1Put.f k (prsTo l q) (l.getD q 0)).bind fun t313 => (spec_prSorted.l0 k t313 l (l.length : Int) ((q + 1 : Nat) : Int))) (fun k => by
        rw [spec_prSorted.l0, if_pos (by omega), if_pos (by omega), if_pos (by omega), rd_nat, if_neg hf, wrap_next (n := l.length) hq (by omega)]) ?_
      exact Ev.bind (l1Put_ev _ _ (by have := prsTo_len l q; omega)) h
  · rw [spec_prSorted.l0, if_neg (by omega)]
theorem strict_ext : ∀ (a b : List Int), a.Pairwise (· < ·) → b.Pairwise (· < ·) → (∀ x, x ∈ a ↔ x ∈ b) → a = b
  | [], [], _, _, _ => rfl
  | [], y :: b, _, _, h => by have := (h y).mpr (List.mem_cons_self); cases this
  | x :: a, [], _, _, h => by have := (h x).mp (List.mem_cons_self); cases this
  | x :: a, y :: b, ha, hb, h => by
    rw [List.pairwise_cons] at ha hb
    have e : x = y := by
      rcases List.mem_cons.mp ((h x).mp (List.mem_cons_self)) with e | e
      · exact e
      · rcases List.mem_cons.mp ((h y).mpr (List.mem_cons_self)) with e2 | e2
        · exact e2.symm
        · have := hb.1 x e; have := ha.1 y e2; omega
    subst e
    congr 1
    refine strict_ext a b ha.2 hb.2 (fun z => ?_)
    constructor
    · intro hz
      rcases List.mem_cons.mp ((h z).mp (List.mem_cons_of_mem _ hz)) with e | e
      · have := ha.1 z hz; omega
      · exact e
    · intro hz
      rcases List.mem_cons.mp ((h z).mpr (List.mem_cons_of_mem _ hz)) with e | e
      · have := hb.1 z hz; omega
      · exact e
theorem sortZ_perm (l : List Int) : (sortZ l).Perm l := List.mergeSort_perm l _
theorem sortZ_le (l : List Int) : (sortZ l).Pairwise (· ≤ ·) := by
  have h := List.pairwise_mergeSort (le := fun x y : Int => decide (x ≤ y)) (fun a b c => by simp; omega) (fun a b => by simp; omega) l
  exact h.imp (fun h => by simpa using h)
theorem strict_of {l : List Int} (h : l.Pairwise (· ≤ ·)) (hn : l.Nodup) : l.Pairwise (· < ·) := by
  refine (h.and hn).imp ?_
  rintro a b ⟨h1, h2⟩
  omega
theorem filter_nodup {l : List Int} (h : ∀ i j, i < j → j < l.length → 0 ≤ l.getD i 0 → l.getD i 0 ≠ l.getD j 0) : (l.filter fun x => decide (0 ≤ x)).Nodup := by
  have h1 : l.Pairwise (fun a b => 0 ≤ a → a ≠ b) := by
    rw [List.pairwise_iff_getElem]
    intro i j hi hj hij h0
    have := h i j hij hj
    rw [getD_get hi, getD_get hj] at this
    exact this h0
  have h2 := h1.filter (fun x => decide (0 ≤ x))
  refine List.Pairwise.imp_of_mem ?_ h2
  intro a b ha hb hab
  rw [List.mem_filter] at ha
  exact hab (by simpa using ha.2)
theorem tbl_dist {l : List Int} (h : tblB l = true) : ∀ i j, i < j → j < l.length → 0 ≤ l.getD i 0 → l.getD i 0 ≠ l.getD j 0 := by
  have hok : okFrom l l.length 0 = true := by
    unfold tblB at h
    simp only [Bool.and_eq_true] at h
    exact h.2
  have hall : ∀ (d i : Nat), i + d = l.length → okFrom l d i = true → ∀ j, i ≤ j → j < l.length → okCell l j = true := by
    intro d
    induction d with
    | zero => intro i hd _ j h1 h2; omega
    | succ d ih =>
      intro i hd hk j h1 h2
      rw [okFrom, Bool.and_eq_true] at hk
      by_cases e : j = i
      · rw [e]; exact hk.1
      · exact ih (i + 1) (by omega) hk.2 j (by omega) h2
  intro i j hij hj h0 e
  have hc := hall l.length 0 (by omega) hok j (Nat.zero_le _) hj
  unfold okCell at hc
  rw [Bool.or_eq_true, Bool.and_eq_true] at hc
  rcases hc with hc | hc
  · rw [decide_eq_true_eq] at hc; omega
  · have h1 := hc.1
    rw [Bool.not_eq_true', decide_eq_false_iff_not] at h1
    apply h1
    rw [← e, getD_get (by omega : i < l.length)]
    exact List.mem_take_iff_getElem.mpr ⟨i, by omega, rfl⟩
theorem keysZ_eq (l : List Int) : keysZ l = (sortZ l).filter fun x => decide (0 ≤ x) := by
  unfold keysZ
  congr 1
  funext x
  unfold negKey
  rw [Bool.eq_iff_iff]
  simp
theorem keysZ_perm (l : List Int) : (keysZ l).Perm (l.filter fun x => decide (0 ≤ x)) := by
  rw [keysZ_eq]
  exact (sortZ_perm l).filter _
theorem keysZ_strict {l : List Int} (h : tblB l = true) : (keysZ l).Pairwise (· < ·) := by
  have hn := (keysZ_perm l).nodup_iff.mpr (filter_nodup (tbl_dist h))
  refine strict_of ?_ hn
  rw [keysZ_eq]
  exact (sortZ_le l).filter _
theorem keysZ_mem {l : List Int} {x : Int} : x ∈ keysZ l ↔ x ∈ l ∧ 0 ≤ x := by
  rw [(keysZ_perm l).mem_iff, List.mem_filter]
  simp
theorem keysZ_sorted {l : List Int} (h : tblB l = true) : keysZ l = prsTo l l.length := by
  obtain ⟨h1, h2, h3, h4⟩ := tblB_parts h
  refine strict_ext _ _ (keysZ_strict h) (prsTo_strict _ _) (fun x => ?_)
  rw [keysZ_mem, prsTo_mem]
  constructor
  · rintro ⟨hx, h0⟩
    obtain ⟨j, hj, e⟩ := List.getElem_of_mem hx
    exact ⟨j, hj, by rw [getD_get hj]; exact e, by omega⟩
  · rintro ⟨j, hj, e, hx⟩
    have := h3 j hj
    exact ⟨by rw [← e]; exact getD_mem hj, by omega⟩
theorem keys_f {l : List Int} (h : tblB l = true) : impl_Table_keys.f l = some (keysZ l) := by
  obtain ⟨h1, h2, h3, h4⟩ := tblB_parts h
  unfold impl_Table_keys.f
  rw [if_pos ⟨by omega, by omega⟩]
theorem same_loop (F : Nat → List Int → List Int → Int → Int → Option Bool) (hF : ∀ k x0 x1 x12 x13, F (k + 1) x0 x1 x12 x13 = if x13 < x12 then (if 0 ≤ x13 then (if x13 < (x0.length : Int) then (if x13 < (x1.length : Int) then (if (rd x0 x13) = (rd x1 x13) then (F k x0 x1 x12 (wrap64 (x13 + 1))) else (some false)) else (none)) else (none)) else (none)) else (some true))
    (a b : List Int) (hl : a.length = b.length) (hn : a.length ≤ 1000000) : ∀ (d i : Nat), i + d = a.length → Ev (fun k => F k a b (a.length : Int) (i : Int)) (decide (a.drop i = b.drop i)) := by
  intro d
  induction d with
  | zero =>
    intro i hd
    refine Ev.end_ fun k => ?_
    rw [hF, if_neg (by omega), List.drop_of_length_le (by omega), List.drop_of_length_le (by omega)]
    simp
  | succ d ih =>
    intro i hd
    rw [drop_getD (l := a) (i := i) (by omega), drop_getD (l := b) (i := i) (by omega)]
    by_cases h : a.getD i 0 = b.getD i 0
    · have := ih (i + 1) (by omega)
      rw [h]
      simp only [List.cons.injEq, true_and]
      refine Ev.one this fun k => ?_
      rw [hF, if_pos (by omega), if_pos (by omega), if_pos (by omega), if_pos (by omega), rd_nat, rd_nat, if_pos h, wrap_next (n := a.length) (by omega) (by omega)]
    · refine Ev.end_ fun k => ?_
      rw [hF, if_pos (by omega), if_pos (by omega), if_pos (by omega), if_pos (by omega), rd_nat, rd_nat, if_neg h, decide_eq_false (by simp only [List.cons.injEq]; exact fun e => h e.1)]
theorem l1Same_ev (a b : List Int) (hn : a.length ≤ 1000000) : Ev (fun k => spec_l1Same.f k a b) (decide (a = b)) := by
  unfold spec_l1Same.f
  by_cases h : a.length = b.length
  · have e : ((a.length : Int) = (b.length : Int)) = True := eq_true (by omega)
    simp only [e, if_true]
    have := same_loop spec_l1Same.l0 (fun k x0 x1 x12 x13 => by rw [spec_l1Same.l0]) a b h hn a.length 0 (by omega)
    simpa using this
  · have e : ((a.length : Int) = (b.length : Int)) = False := eq_false (by omega)
    simp only [e, if_false]
    rw [decide_eq_false (fun e2 => h (by rw [e2]))]
    exact Ev.now _
theorem sEqual_ev (a b : List Int) (hn : a.length ≤ 1000000) : Ev (fun k => slices_Equal_int_int.f k a b) (decide (a = b)) := by
  unfold slices_Equal_int_int.f
  by_cases h : a.length = b.length
  · have e : ((a.length : Int) = (b.length : Int)) = True := eq_true (by omega)
    simp only [e, if_true]
    have := same_loop slices_Equal_int_int.l0 (fun k x0 x1 x12 x13 => by rw [slices_Equal_int_int.l0]) a b h hn a.length 0 (by omega)
    simpa using this
  · have e : ((a.length : Int) = (b.length : Int)) = False := eq_false (by omega)
    simp only [e, if_false]
    rw [decide_eq_false (fun e2 => h (by rw [e2]))]
    exact Ev.now _
end Go.Proofs.Ytfblohigbdomjaa.G
namespace TabT
/-- A place on a circle of n, from below 2 n. -/
def cy (n i : Nat) : Nat := if i < n then i else i - n
theorem cy_mod {n i : Nat} (h : i < 2 * n) : i % n = cy n i := by
  unfold cy
  split
  · exact Nat.mod_eq_of_lt ‹_›
  · rw [Nat.mod_eq_sub_mod (by omega), Nat.mod_eq_of_lt (by omega)]
theorem cy_lt {n i : Nat} (h : i < 2 * n) : cy n i < n := by unfold cy; split <;> omega
/-- Is the cell used? -/
def us (t : List Int) (i : Nat) : Bool := decide (0 ≤ t.getD i (-1))
theorem us_lt {t : List Int} {i : Nat} (h : us t i = true) : i < t.length := by
  rcases Nat.lt_or_ge i t.length with h1 | h1
  · exact h1
  · rw [us, List.getD_eq_getElem?_getD, List.getElem?_eq_none h1] at h; simp at h
theorem getD_set (t : List Int) (p i : Nat) (k d : Int) (hp : p < t.length) : (t.set p k).getD i d = if i = p then k else t.getD i d := by
  rw [List.getD_eq_getElem?_getD, List.getElem?_set, List.getD_eq_getElem?_getD]
  by_cases e : p = i
  · subst e; simp [hp]
  · simp [e, Ne.symm e]
theorem us_set (t : List Int) (p i : Nat) (k : Int) (hp : p < t.length) (hk : 0 ≤ k) : us (t.set p k) i = (decide (i = p) || us t i) := by
  unfold us
  rw [getD_set _ _ _ _ _ hp]
  by_cases e : i = p
  · simp [e, hk]
  · simp [e]
/-- The first free cell from a on: how far it is. -/
def ffFrom (t : List Int) (a : Nat) : Nat → Nat → Nat
  | 0, d => d
  | k + 1, d => if us t (cy t.length (a + d)) = true then ffFrom t a k (d + 1) else d
def ff (t : List Int) (a : Nat) : Nat := ffFrom t a t.length 0
theorem ffFrom_eq (t : List Int) (a : Nat) (e : Nat) (hf : us t (cy t.length (a + e)) = false) :
    ∀ (k d : Nat), d ≤ e → e < d + k → (∀ m, d ≤ m → m < e → us t (cy t.length (a + m)) = true) → ffFrom t a k d = e
  | 0, d, h1, h2, _ => by omega
  | k + 1, d, h1, h2, hu => by
    unfold ffFrom
    by_cases c : d = e
    · subst c; rw [hf]; simp
    · rw [if_pos (hu d (Nat.le_refl _) (by omega))]
      exact ffFrom_eq t a e hf k (d + 1) (by omega) (by omega) (fun m h3 h4 => hu m (by omega) h4)
theorem ff_eq {t : List Int} {a e : Nat} (he : e < t.length) (hf : us t (cy t.length (a + e)) = false) (hu : ∀ m, m < e → us t (cy t.length (a + m)) = true) : ff t a = e :=
  ffFrom_eq t a e hf _ 0 (Nat.zero_le _) (by omega) (fun m _ h => hu m h)
/-- A least number. -/
theorem least_nat {p : Nat → Prop} [DecidablePred p] : ∀ (N : Nat), p N → ∃ e, e ≤ N ∧ p e ∧ ∀ m, m < e → ¬ p m
  | 0, h => ⟨0, Nat.le_refl _, h, fun m hm => absurd hm (Nat.not_lt_zero _)⟩
  | N + 1, h => by
    by_cases hx : ∃ m, m ≤ N ∧ p m
    · obtain ⟨m, hm, hp⟩ := hx
      obtain ⟨e, he, hpe, hle⟩ := least_nat m hp
      exact ⟨e, by omega, hpe, hle⟩
    · exact ⟨N + 1, Nat.le_refl _, h, fun m hm hp => hx ⟨m, by omega, hp⟩⟩
/-- There is a free cell. -/
def Free (t : List Int) : Prop := ∃ i, i < t.length ∧ us t i = false
theorem ff_spec {t : List Int} (hF : Free t) {a : Nat} (ha : a < t.length) :
    ff t a < t.length ∧ us t (cy t.length (a + ff t a)) = false ∧ ∀ m, m < ff t a → us t (cy t.length (a + m)) = true := by
  obtain ⟨i, hi, hu⟩ := hF
  have hx : us t (cy t.length (a + cy t.length (i + t.length - a))) = false := by
    have : cy t.length (a + cy t.length (i + t.length - a)) = i := by unfold cy; split <;> split <;> omega
    rw [this]; exact hu
  obtain ⟨e, he, hpe, hle⟩ := least_nat (p := fun e => us t (cy t.length (a + e)) = false) _ hx
  have hlt : e < t.length := by have : cy t.length (i + t.length - a) < t.length := cy_lt (by omega); omega
  have := ff_eq hlt hpe (fun m hm => by simpa using hle m hm)
  rw [this]
  exact ⟨hlt, hpe, fun m hm => by simpa using hle m hm⟩
/-- A key's own cell. -/
def own (n : Nat) (k : Int) : Nat := (k % (n : Int)).toNat
theorem own_lt {n : Nat} (hn : 0 < n) (k : Int) : own n k < n := by
  unfold own
  have := Int.emod_lt_of_pos k (show (0 : Int) < n by omega)
  have := Int.emod_nonneg k (show (n : Int) ≠ 0 by omega)
  omega
/-- Where a key goes. -/
def pos (t : List Int) (k : Int) : Nat := cy t.length (own t.length k + ff t (own t.length k))
def ins (t : List Int) (k : Int) : List Int := t.set (pos t k) k
@[simp] theorem length_ins (t : List Int) (k : Int) : (ins t k).length = t.length := by simp [ins]
/-- What a key costs in a cell. -/
def cost (n i : Nat) (k : Int) : Nat := cy n (i + n - own n k)
theorem cost_lt {n i : Nat} (hi : i < n) (k : Int) : cost n i k < n := cy_lt (by have := own_lt (n := n) (by omega) k; omega)
theorem own_cost {n i : Nat} (hi : i < n) (k : Int) : cy n (own n k + cost n i k) = i := by
  have := own_lt (n := n) (by omega) k
  unfold cost cy; split <;> split <;> omega
theorem pos_lt {t : List Int} (hF : Free t) (k : Int) : pos t k < t.length := by
  have hn : 0 < t.length := by obtain ⟨i, hi, _⟩ := hF; omega
  have ho := own_lt hn k
  have := (ff_spec hF ho).1
  exact cy_lt (by omega)
/-- The sum of all costs. -/
def costs (t : List Int) : List Nat := t.mapIdx fun i k => if 0 ≤ k then cost t.length i k else 0
/-- Alike in their used cells. -/
def Alike (t u : List Int) : Prop := t.length = u.length ∧ ∀ i, us t i = us u i
theorem Alike.refl (t : List Int) : Alike t t := ⟨rfl, fun _ => rfl⟩
theorem Alike.symm {t u : List Int} (h : Alike t u) : Alike u t := ⟨h.1.symm, fun i => (h.2 i).symm⟩
theorem Alike.trans {t u v : List Int} (h : Alike t u) (k : Alike u v) : Alike t v := ⟨h.1.trans k.1, fun i => (h.2 i).trans (k.2 i)⟩
theorem Alike.free {t u : List Int} (h : Alike t u) (hF : Free t) : Free u := by
  obtain ⟨i, hi, hu⟩ := hF
  exact ⟨i, by have := h.1; omega, by rw [← h.2]; exact hu⟩
/-- How many cells are used. -/
def many (t : List Int) : Nat := (t.filter fun k => decide (0 ≤ k)).length
theorem free_of_many : ∀ (t : List Int), many t < t.length → Free t
  | [], h => by simp [many] at h
  | k :: t, h => by
    by_cases hk : 0 ≤ k
    · have : many t < t.length := by simp only [many, List.filter_cons, hk, decide_true, if_true, List.length_cons] at h ⊢; omega
      obtain ⟨i, hi, hu⟩ := free_of_many t this
      exact ⟨i + 1, by simp; omega, by simpa [us] using hu⟩
    · exact ⟨0, by simp, by simp [us]; omega⟩
theorem many_set : ∀ (t : List Int) (p : Nat) (k : Int), us t p = false → p < t.length → 0 ≤ k → many (t.set p k) = many t + 1
  | [], p, k, _, h, _ => by simp at h
  | x :: t, 0, k, hu, _, hk => by have : ¬ 0 ≤ x := by simpa [us] using hu
                                  simp [many, this, hk]
  | x :: t, p + 1, k, hu, hp, hk => by
    have := many_set t p k (by simpa [us] using hu) (by simpa using hp) hk
    simp only [many, List.set_cons_succ, List.filter_cons] at this ⊢
    split
    · simp only [List.length_cons]; omega
    · omega
theorem many_alike {t u : List Int} (h : Alike t u) : many t = many u := by
  have key : ∀ (t u : List Int), t.length = u.length → (∀ i, us t i = us u i) → many t = many u := by
    intro t
    induction t with
    | nil => intro u hl _; cases u with
      | nil => rfl
      | cons => simp at hl
    | cons x t ih =>
      intro u hl hu
      cases u with
      | nil => simp at hl
      | cons y u =>
        have h0 := hu 0
        have := ih u (by simpa using hl) (fun i => by simpa [us] using hu (i + 1))
        have h0 : decide (0 ≤ x) = decide (0 ≤ y) := by simpa [us] using h0
        simp only [many, List.filter_cons, h0] at this ⊢
        split <;> simp [this]
  exact key t u h.1 h.2
/-- All keys, in order. -/
def insAll (t : List Int) (ks : List Int) : List Int := ks.foldl ins t
@[simp] theorem length_insAll (ks : List Int) : ∀ (t : List Int), (insAll t ks).length = t.length := by
  induction ks with
  | nil => intro t; rfl
  | cons k ks ih => intro t; simp only [insAll, List.foldl_cons] at ih ⊢; rw [ih]; simp
structure Valid (t : List Int) : Prop where
  free : Free t
  ge : ∀ i, i < t.length → -1 ≤ t.getD i (-1)
  nodup : ∀ i j, us t i = true → us t j = true → t.getD i (-1) = t.getD j (-1) → i = j
  path : ∀ i, us t i = true → ∀ m, m < cost t.length i (t.getD i (-1)) → us t (cy t.length (own t.length (t.getD i (-1)) + m)) = true
/-- A part of a table. -/
def Part (p t : List Int) : Prop := p.length = t.length ∧ ∀ i, us p i = true → us t i = true ∧ p.getD i (-1) = t.getD i (-1)
/-- The key of a cell may come next. -/
def Ready (t p : List Int) (i : Nat) : Prop := us t i = true ∧ us p i = false ∧ ∀ m, m < cost t.length i (t.getD i (-1)) → us p (cy t.length (own t.length (t.getD i (-1)) + m)) = true
theorem exists_ready {t p : List Int} (hV : Valid t) (hne : ∃ i, us t i = true ∧ us p i = false) : ∃ i, Ready t p i := by
  obtain ⟨g, hg, hgu⟩ := hV.free
  obtain ⟨i0, h1, h2⟩ := hne
  have hi0 := us_lt h1
  have hx : 1 ≤ cy t.length (i0 + t.length - g) ∧ us t (cy t.length (g + cy t.length (i0 + t.length - g))) = true ∧ us p (cy t.length (g + cy t.length (i0 + t.length - g))) = false := by
    have e : cy t.length (g + cy t.length (i0 + t.length - g)) = i0 := by unfold cy; split <;> split <;> omega
    rw [e]
    refine ⟨?_, h1, h2⟩
    have : i0 ≠ g := fun e => by rw [e, hgu] at h1; cases h1
    unfold cy; split <;> omega
  obtain ⟨e, he, ⟨he1, hp1, hp2⟩, hle⟩ := least_nat (p := fun e => 1 ≤ e ∧ us t (cy t.length (g + e)) = true ∧ us p (cy t.length (g + e)) = false) _ hx
  have hen : e < t.length := by have : cy t.length (i0 + t.length - g) < t.length := cy_lt (by omega); omega
  refine ⟨_, hp1, hp2, fun m hm => ?_⟩
  have hi := us_lt hp1
  generalize hk : t.getD (cy t.length (g + e)) (-1) = k at hm ⊢
  have hpath := hV.path _ hp1
  rw [hk] at hpath
  have ho := own_lt (n := t.length) (by omega) k
  have hc := cost_lt hi k
  have hoc := own_cost hi k
  generalize hcc : cost t.length (cy t.length (g + e)) k = c at *
  generalize own t.length k = o at *
  have hce : c < e := by
    rcases Nat.lt_or_ge c e with h | h
    · exact h
    · have := hpath (c - e) (by omega)
      have e1 : cy t.length (o + (c - e)) = g := by revert hoc; unfold cy; split <;> split <;> split <;> omega
      rw [e1, hgu] at this; cases this
  have hu := hpath m hm
  have e2 : cy t.length (o + m) = cy t.length (g + (e - c + m)) := by revert hoc; unfold cy; split <;> split <;> split <;> split <;> omega
  rw [e2] at hu ⊢
  cases hq : us p (cy t.length (g + (e - c + m))) with
  | true => rfl
  | false => exact absurd ⟨by omega, hu, hq⟩ (hle (e - c + m) (by omega))
theorem Part.free {p t : List Int} (hP : Part p t) (hF : Free t) : Free p := by
  obtain ⟨i, hi, hu⟩ := hF
  refine ⟨i, by rw [hP.1]; exact hi, ?_⟩
  cases h : us p i with
  | false => rfl
  | true => rw [(hP.2 i h).1] at hu; cases hu
/-- The key that may come next comes to its cell. -/
theorem ready_pos {t p : List Int} (hP : Part p t) {i : Nat} (hR : Ready t p i) : pos p (t.getD i (-1)) = i := by
  have hi := us_lt hR.1
  have : ff p (own t.length (t.getD i (-1))) = cost t.length i (t.getD i (-1)) := by
    apply ff_eq
    · rw [hP.1]; exact cost_lt hi _
    · rw [hP.1, own_cost hi]; exact hR.2.1
    · intro m hm; rw [hP.1]; exact hR.2.2 m hm
  unfold pos
  rw [hP.1, this, own_cost hi]
theorem Part.set {p t : List Int} (hP : Part p t) {i : Nat} (hu : us t i = true) : Part (p.set i (t.getD i (-1))) t := by
  have hi := us_lt hu
  refine ⟨by simpa using hP.1, fun j hj => ?_⟩
  rw [us_set _ _ _ _ (by rw [hP.1]; exact hi) (by simpa [us] using hu)] at hj
  rw [getD_set _ _ _ _ _ (by rw [hP.1]; exact hi)]
  by_cases e : j = i
  · subst e; simp [hu]
  · simp [e] at hj ⊢; exact hP.2 j hj
/-- A part in which all cells are used that are used in the whole. -/
theorem Part.full {p t : List Int} (hP : Part p t) (hg : ∀ i, i < t.length → -1 ≤ t.getD i (-1)) (hp : ∀ i, i < p.length → -1 ≤ p.getD i (-1)) (h : ∀ i, us t i = true → us p i = true) : p = t := by
  apply List.ext_getElem hP.1
  intro i h1 h2
  have e1 : p.getD i (-1) = p[i] := by rw [List.getD_eq_getElem?_getD, List.getElem?_eq_getElem h1]; rfl
  have e2 : t.getD i (-1) = t[i] := by rw [List.getD_eq_getElem?_getD, List.getElem?_eq_getElem h2]; rfl
  cases hu : us t i with
  | true => rw [← e1, ← e2]; exact (hP.2 i (h i hu)).2
  | false =>
    have hq : us p i = false := by
      cases hq : us p i with
      | false => rfl
      | true => rw [(hP.2 i hq).1] at hu; cases hu
    have a := hg i h2
    have b := hp i h1
    simp only [us, decide_eq_false_iff_not] at hu hq
    omega
/-- All but the paths through the hole are as in a table. -/
structure Holed (t : List Int) (h : Nat) : Prop where
  hole : h < t.length ∧ t.getD h (-1) = -1
  other : ∃ g, g < t.length ∧ g ≠ h ∧ us t g = false
  ge : ∀ i, i < t.length → -1 ≤ t.getD i (-1)
  nodup : ∀ i j, us t i = true → us t j = true → t.getD i (-1) = t.getD j (-1) → i = j
  path : ∀ i, us t i = true → ∀ m, m < cost t.length i (t.getD i (-1)) → cy t.length (own t.length (t.getD i (-1)) + m) ≠ h → us t (cy t.length (own t.length (t.getD i (-1)) + m)) = true
theorem Holed.valid {t : List Int} {h k : Nat} (hH : Holed t h) (hk : k < t.length) (h1 : 1 ≤ k) (hfree : us t (cy t.length (h + k)) = false)
    (hu : ∀ m, 1 ≤ m → m < k → us t (cy t.length (h + m)) = true ∧ cost t.length (cy t.length (h + m)) (t.getD (cy t.length (h + m)) (-1)) < m) : Valid t := by
  have hn : 0 < t.length := by omega
  have hh := hH.hole.1
  refine ⟨⟨h, hh, by rw [us, hH.hole.2]; rfl⟩, hH.ge, hH.nodup, fun i hi m hm => ?_⟩
  by_cases e : cy t.length (own t.length (t.getD i (-1)) + m) = h
  · -- the cell i lies behind the hole, before the free cell
    exfalso
    have hil := us_lt hi
    have ho := own_lt hn (t.getD i (-1))
    have hc := cost_lt hil (t.getD i (-1))
    have hoc := own_cost hil (t.getD i (-1))
    have hpath := hH.path i hi
    generalize hcc : cost t.length i (t.getD i (-1)) = c at *
    generalize own t.length (t.getD i (-1)) = o at *
    -- i = h + (c - m)
    have ei : i = cy t.length (h + (c - m)) := by revert e hoc; unfold cy; split <;> split <;> split <;> omega
    rcases Nat.lt_or_ge (c - m) k with hlt | hge
    · have := (hu (c - m) (by omega) hlt).2
      rw [← ei, hcc] at this
      omega
    · have hne : cy t.length (o + (m + k)) = cy t.length (h + k) := by revert e; unfold cy; split <;> split <;> split <;> omega
      rcases Nat.lt_or_ge (m + k) c with hmk | hmk
      · have := hpath (m + k) hmk (by rw [hne]; unfold cy; split <;> omega)
        rw [hne, hfree] at this; cases this
      · have : c - m = k := by omega
        rw [this] at ei
        rw [ei, hfree] at hi; cases hi
  · exact hH.path i hi m hm e
def keys (t : List Int) : List Int := t.filter fun k => decide (0 ≤ k)
theorem keys_set : ∀ (t : List Int) (p : Nat) (k : Int), p < t.length → us t p = false → 0 ≤ k → (keys (t.set p k)).Perm (k :: keys t)
  | [], p, k, h, _, _ => by simp at h
  | x :: t, 0, k, _, hu, hk => by
    have : ¬ 0 ≤ x := by simpa [us] using hu
    simp [keys, this, hk]
  | x :: t, p + 1, k, h, hu, hk => by
    have ih := keys_set t p k (by simpa using h) (by simpa [us] using hu) hk
    simp only [keys, List.set_cons_succ, List.filter_cons] at ih ⊢
    split
    · exact (ih.cons x).trans (List.Perm.swap _ _ _)
    · exact ih
theorem mem_keys {t : List Int} {k : Int} : k ∈ keys t ↔ ∃ i, us t i = true ∧ t.getD i (-1) = k := by
  unfold keys
  rw [List.mem_filter, List.mem_iff_getElem]
  constructor
  · rintro ⟨⟨i, hi, rfl⟩, hk⟩
    have e : t.getD i (-1) = t[i] := by rw [List.getD_eq_getElem?_getD, List.getElem?_eq_getElem hi]; rfl
    exact ⟨i, by rw [us, e]; exact hk, e⟩
  · rintro ⟨i, hu, rfl⟩
    have hi := us_lt hu
    have e : t.getD i (-1) = t[i] := by rw [List.getD_eq_getElem?_getD, List.getElem?_eq_getElem hi]; rfl
    exact ⟨⟨i, hi, e.symm⟩, by rw [us] at hu; exact hu⟩
def empty (n : Nat) : List Int := List.replicate n (-1)
theorem us_empty (n i : Nat) : us (empty n) i = false := by
  unfold us empty
  rw [List.getD_eq_getElem?_getD, List.getElem?_replicate]
  split <;> simp
theorem keys_empty (n : Nat) : keys (empty n) = [] := by
  unfold keys empty
  rw [List.filter_eq_nil_iff]
  intro x hx
  rw [List.mem_replicate] at hx
  simp [hx.2]
theorem many_keys (t : List Int) : many t = (keys t).length := rfl
theorem Part.keys_le {p t : List Int} (hP : Part p t) : many p ≤ many t := by
  have key : ∀ (p t : List Int), p.length = t.length → (∀ i, us p i = true → us t i = true) → many p ≤ many t := by
    intro p
    induction p with
    | nil => intro t _ _; simp [many]
    | cons x p ih =>
      intro t hl hu
      cases t with
      | nil => simp at hl
      | cons y t =>
        have h0 := hu 0
        have := ih t (by simpa using hl) (fun i hi => by simpa [us] using hu (i + 1) (by simpa [us] using hi))
        simp [us] at h0
        simp only [many, List.filter_cons] at this ⊢
        by_cases hx : 0 ≤ x
        · have hy := h0 hx
          simp only [hx, hy, decide_true, if_true, List.length_cons]; omega
        · simp only [hx, decide_false, Bool.false_eq_true, if_false]
          split
          · simp only [List.length_cons]; omega
          · omega
  exact key p t hP.1 (fun i hi => (hP.2 i hi).1)
/-- From a part, the keys that are left in an order that makes the table. -/
theorem complete {t : List Int} (hV : Valid t) : ∀ (d : Nat) (p : List Int), Part p t → (∀ i, i < p.length → -1 ≤ p.getD i (-1)) → many t ≤ many p + d → ∃ ks, insAll p ks = t ∧ (keys p ++ ks).Perm (keys t) ∧ many p + ks.length = many t := by
  intro d
  induction d with
  | zero =>
    intro p hP hg hm
    refine ⟨[], ?_, ?_⟩
    · show p = t
      apply Classical.byContradiction
      intro hne
      have : ∃ i, us t i = true ∧ us p i = false := by
        apply Classical.byContradiction
        intro hn
        exact hne (hP.full hV.ge hg fun i hi => by
          cases h : us p i with
          | true => rfl
          | false => exact absurd ⟨i, hi, h⟩ hn)
      obtain ⟨i, hi, hpi⟩ := this
      have := Part.keys_le (hP.set hi)
      rw [many_set p i _ hpi (by rw [hP.1]; exact us_lt hi) (by simpa [us] using hi)] at this
      omega
    · have hle := hP.keys_le
      have : p = t := by
        apply Classical.byContradiction
        intro hne
        have : ∃ i, us t i = true ∧ us p i = false := by
          apply Classical.byContradiction
          intro hn
          exact hne (hP.full hV.ge hg fun i hi => by
            cases h : us p i with
            | true => rfl
            | false => exact absurd ⟨i, hi, h⟩ hn)
        obtain ⟨i, hi, hpi⟩ := this
        have := Part.keys_le (hP.set hi)
        rw [many_set p i _ hpi (by rw [hP.1]; exact us_lt hi) (by simpa [us] using hi)] at this
        omega
      rw [this]; simp
  | succ d ih =>
    intro p hP hg hm
    by_cases hx : ∃ i, us t i = true ∧ us p i = false
    · obtain ⟨i, hR⟩ := exists_ready hV hx
      have hk : 0 ≤ t.getD i (-1) := by have := hR.1; rw [us] at this; exact of_decide_eq_true this
      have hip : i < p.length := by rw [hP.1]; exact us_lt hR.1
      have e : ins p (t.getD i (-1)) = p.set i (t.getD i (-1)) := by rw [ins, ready_pos hP hR]
      obtain ⟨ks, h1, h2, h3⟩ := ih (ins p (t.getD i (-1))) (by rw [e]; exact hP.set hR.1) (by
        intro j hj
        rw [e, getD_set _ _ _ _ _ hip]
        split
        · omega
        · exact hg j (by simpa using hj)) (by rw [e, many_set p i _ hR.2.1 hip hk]; omega)
      rw [e, many_set p i _ hR.2.1 hip hk] at h3
      refine ⟨t.getD i (-1) :: ks, h1, ?_, by simp; omega⟩
      have hp := keys_set p i _ hip hR.2.1 hk
      rw [← e] at hp
      refine List.Perm.trans ?_ h2
      refine List.Perm.trans ?_ (hp.symm.append_right ks)
      rw [List.cons_append]
      exact List.perm_middle
    · have : p = t := hP.full hV.ge hg fun i hi => by
          cases h : us p i with
          | true => rfl
          | false => exact absurd ⟨i, hi, h⟩ hx
      exact ⟨[], by rw [this]; rfl, by rw [this]; simp, by rw [this]; rfl⟩
theorem Part.empty (t : List Int) : Part (empty t.length) t := ⟨by simp [TabT.empty], fun i hi => by rw [us_empty] at hi; cases hi⟩
theorem ge_empty (n : Nat) : ∀ i, i < (empty n).length → -1 ≤ (empty n).getD i (-1) := by
  intro i _
  unfold empty
  rw [List.getD_eq_getElem?_getD, List.getElem?_replicate]
  split <;> simp
theorem Valid.order {t : List Int} (hV : Valid t) : ∃ ks, insAll (empty t.length) ks = t ∧ ks.Perm (keys t) := by
  obtain ⟨ks, h1, h2, _⟩ := complete hV (many t) (empty t.length) (Part.empty t) (ge_empty _) (by omega)
  rw [keys_empty] at h2
  exact ⟨ks, h1, h2⟩
/-- A key in a cell comes ahead of another one in the next cell. -/
def Bef (n i : Nat) (x y : Int) : Prop := cost n (cy n (i + 1)) y < cost n i x + 1 ∨ cost n (cy n (i + 1)) y = cost n i x + 1 ∧ y < x
structure Robin (t : List Int) : Prop where
  valid : Valid t
  sorted : ∀ i, us t i = true → us t (cy t.length (i + 1)) = true → Bef t.length i (t.getD i (-1)) (t.getD (cy t.length (i + 1)) (-1))
def Over (n i : Nat) (h o : Int) : Prop := cost n i o < cost n i h ∨ cost n i h = cost n i o ∧ o < h
instance (n i : Nat) (h o : Int) : Decidable (Over n i h o) := by unfold Over; infer_instance
def robGo : Nat → List Int → Int → Nat → List Int
  | 0, t, h, a => t.set a h
  | d + 1, t, h, a => if Over t.length a h (t.getD a (-1)) then robGo d (t.set a h) (t.getD a (-1)) (cy t.length (a + 1)) else robGo d t h (cy t.length (a + 1))
def rob (t : List Int) (k : Int) : List Int := robGo (ff t (own t.length k)) t k (own t.length k)
/-- What holds at a cell, with a key in hand. -/
structure Hand (t : List Int) (h : Int) (a : Nat) : Prop where
  robin : Robin t
  two : 2 ≤ t.length
  at_ : a < t.length
  pos : 0 ≤ h
  new : ∀ i, us t i = true → t.getD i (-1) ≠ h
  path : ∀ m, m < cost t.length a h → us t (cy t.length (own t.length h + m)) = true
  ahead : us t (cy t.length (a + t.length - 1)) = true → Bef t.length (cy t.length (a + t.length - 1)) (t.getD (cy t.length (a + t.length - 1)) (-1)) h
theorem cost_next {n a : Nat} (ha : a < n) (h2 : 2 ≤ n) (h : Int) (hc : cost n a h + 1 < n) : cost n (cy n (a + 1)) h = cost n a h + 1 := by
  have ho := own_lt (n := n) (by omega) h
  revert hc
  unfold cost cy
  generalize own n h = o at *
  split <;> split <;> split <;> omega
theorem prev_next {n a : Nat} (ha : a < n) (h2 : 2 ≤ n) : cy n (cy n (a + 1) + n - 1) = a := by unfold cy; split <;> split <;> omega
theorem next_prev {n a : Nat} (ha : a < n) (h2 : 2 ≤ n) : cy n (cy n (a + n - 1) + 1) = a := by unfold cy; split <;> split <;> omega
theorem next_ne {n a : Nat} (ha : a < n) (h2 : 2 ≤ n) : cy n (a + 1) ≠ a := by unfold cy; split <;> omega
/-- A key whose path is used up to a used cell costs less than n - 1 there. -/
theorem cost_small {t : List Int} (hF : Free t) {a : Nat} {h : Int} (ha : us t a = true) (hp : ∀ m, m < cost t.length a h → us t (cy t.length (own t.length h + m)) = true) : cost t.length a h + 1 < t.length := by
  have hal := us_lt ha
  have hc := cost_lt hal h
  have hoc := own_cost hal h
  have ho := own_lt (n := t.length) (by omega) h
  apply Classical.byContradiction
  intro hn
  obtain ⟨g, hg, hgu⟩ := hF
  have hcn : cost t.length a h = t.length - 1 := by omega
  generalize cost t.length a h = c at *
  generalize own t.length h = o at *
  -- the free cell is some o + m
  have e : cy t.length (o + cy t.length (g + t.length - o)) = g := by unfold cy; split <;> split <;> omega
  have hm : cy t.length (g + t.length - o) < t.length := cy_lt (by omega)
  rcases Nat.lt_or_ge (cy t.length (g + t.length - o)) c with h1 | h1
  · have := hp _ h1
    rw [e, hgu] at this; cases this
  · have : cy t.length (g + t.length - o) = c := by omega
    rw [this, hoc] at e
    rw [← e, ha] at hgu; cases hgu
theorem Hand.pass {t : List Int} {h : Int} {a : Nat} (H : Hand t h a) (hu : us t a = true) (hn : ¬ Over t.length a h (t.getD a (-1))) : Hand t h (cy t.length (a + 1)) := by
  have hs := cost_small H.robin.valid.free hu H.path
  have hcn := cost_next H.at_ H.two h hs
  refine ⟨H.robin, H.two, cy_lt (by have := H.at_; omega), H.pos, H.new, ?_, ?_⟩
  · intro m hm
    rw [hcn] at hm
    rcases Nat.lt_or_ge m (cost t.length a h) with h1 | h1
    · exact H.path m h1
    · have : m = cost t.length a h := by omega
      rw [this, own_cost H.at_]; exact hu
  · rw [prev_next H.at_ H.two]
    intro _
    unfold Bef
    rw [hcn]
    unfold Over at hn
    have := H.new a hu
    omega
theorem us_same {t : List Int} {a : Nat} {h : Int} (ha : us t a = true) (hh : 0 ≤ h) (i : Nat) : us (t.set a h) i = us t i := by
  rw [us_set _ _ _ _ (us_lt ha) hh]
  by_cases e : i = a
  · subst e; simp [ha]
  · simp [e]
theorem Hand.swap {t : List Int} {h : Int} {a : Nat} (H : Hand t h a) (hu : us t a = true) (ho : Over t.length a h (t.getD a (-1))) : Hand (t.set a h) (t.getD a (-1)) (cy t.length (a + 1)) := by
  have hal := H.at_
  have h2 := H.two
  have hV := H.robin.valid
  have us' : ∀ i, us (t.set a h) i = us t i := us_same hu H.pos
  have gd : ∀ i, (t.set a h).getD i (-1) = if i = a then h else t.getD i (-1) := fun i => getD_set _ _ _ _ _ hal
  have hl : (t.set a h).length = t.length := by simp
  obtain ⟨o, hoe⟩ : ∃ o, o = t.getD a (-1) := ⟨_, rfl⟩
  have hpo := hV.path a hu
  rw [← hoe] at ho hpo ⊢
  have ho0 : 0 ≤ o := by rw [us] at hu; rw [hoe]; exact of_decide_eq_true hu
  have hsm := cost_small hV.free hu hpo
  have hcn := cost_next hal h2 o hsm
  have hnew := H.new
  refine ⟨⟨⟨?_, ?_, ?_, ?_⟩, ?_⟩, by rw [hl]; exact h2, by rw [hl]; exact cy_lt (by omega), ho0, ?_, ?_, ?_⟩
  · obtain ⟨g, hg, hgu⟩ := hV.free
    exact ⟨g, by rw [hl]; exact hg, by rw [us']; exact hgu⟩
  · intro i hi
    rw [gd]
    split
    · have := H.pos; omega
    · exact hV.ge i (by rw [hl] at hi; exact hi)
  · intro i j hi hj
    rw [us'] at hi hj
    rw [gd, gd]
    split
    · split
      · intro _; omega
      · intro e; exact absurd e.symm (hnew j hj)
    · split
      · intro e; exact absurd e (hnew i hi)
      · exact hV.nodup i j hi hj
  · intro i hi m hm
    rw [us'] at hi
    rw [gd, hl] at hm ⊢
    rw [us']
    split
    · rename_i e; subst e; rw [if_pos rfl] at hm; exact H.path m hm
    · rename_i e; rw [if_neg e] at hm; exact hV.path i hi m hm
  · intro i hi hi1
    rw [us', hl] at hi1
    rw [us'] at hi
    rw [gd, gd, hl]
    have hil := us_lt hi
    by_cases e1 : i = a
    · subst e1
      rw [if_pos rfl, if_neg (next_ne hal h2)]
      have := H.robin.sorted i hi hi1
      rw [← hoe] at this
      unfold Bef at this ⊢
      unfold Over at ho
      omega
    · rw [if_neg e1]
      by_cases e2 : cy t.length (i + 1) = a
      · rw [if_pos e2]
        have ep : cy t.length (a + t.length - 1) = i := by rw [← e2]; exact prev_next hil h2
        have := H.ahead
        rw [ep] at this
        exact this hi
      · rw [if_neg e2]
        exact H.robin.sorted i hi hi1
  · intro i hi
    rw [us'] at hi
    rw [gd]
    split
    · intro e
      exact hnew a hu (by rw [← hoe, e])
    · rename_i e
      intro e'
      exact e (hV.nodup i a hi hu (by rw [e', hoe]))
  · intro m hm
    rw [hl] at hm ⊢
    rw [us']
    rw [hcn] at hm
    rcases Nat.lt_or_ge m (cost t.length a o) with h1 | h1
    · exact hpo m h1
    · have : m = cost t.length a o := by omega
      rw [this, own_cost hal]; exact hu
  · rw [hl, prev_next hal h2]
    intro _
    rw [gd, if_pos rfl]
    unfold Bef
    rw [hcn]
    unfold Over at ho
    omega
theorem Hand.put {t : List Int} {h : Int} {a : Nat} (H : Hand t h a) (hu : us t a = false) (hm : many t + 1 < t.length) : Robin (t.set a h) := by
  have hal := H.at_
  have h2 := H.two
  have hV := H.robin.valid
  have us' : ∀ i, us (t.set a h) i = (decide (i = a) || us t i) := fun i => us_set _ _ _ _ hal H.pos
  have gd : ∀ i, (t.set a h).getD i (-1) = if i = a then h else t.getD i (-1) := fun i => getD_set _ _ _ _ _ hal
  have hl : (t.set a h).length = t.length := by simp
  have ua : ∀ i, us t i = true → i ≠ a := fun i hi e => by rw [e, hu] at hi; cases hi
  refine ⟨⟨?_, ?_, ?_, ?_⟩, ?_⟩
  · exact free_of_many _ (by rw [many_set t a h hu hal H.pos, hl]; exact hm)
  · intro i hi
    rw [gd]
    split
    · have := H.pos; omega
    · exact hV.ge i (by rw [hl] at hi; exact hi)
  · intro i j hi hj
    rw [us'] at hi hj
    rw [gd, gd]
    by_cases e1 : i = a
    · by_cases e2 : j = a
      · intro _; omega
      · rw [if_pos e1, if_neg e2]
        simp [e2] at hj
        intro e; exact absurd e.symm (H.new j hj)
    · simp [e1] at hi
      by_cases e2 : j = a
      · rw [if_neg e1, if_pos e2]
        intro e; exact absurd e (H.new i hi)
      · simp [e2] at hj
        rw [if_neg e1, if_neg e2]
        exact hV.nodup i j hi hj
  · intro i hi m hm'
    rw [us'] at hi
    rw [gd, hl] at hm' ⊢
    rw [us']
    by_cases e1 : i = a
    · rw [if_pos e1] at hm' ⊢
      subst e1
      rw [H.path m hm']; simp
    · simp [e1] at hi
      rw [if_neg e1] at hm' ⊢
      rw [hV.path i hi m hm']; simp
  · intro i hi hi1
    rw [hl] at hi1 ⊢
    rw [us'] at hi hi1
    rw [gd, gd]
    by_cases e1 : i = a
    · subst e1
      have hne := next_ne hal h2
      rw [if_pos rfl, if_neg hne]
      simp [hne] at hi1
      -- the key behind has its own cell there
      have hil := us_lt hi1
      have hp := hV.path _ hi1
      have hc0 : cost t.length (cy t.length (i + 1)) (t.getD (cy t.length (i + 1)) (-1)) = 0 := by
        have hoc := own_cost hil (t.getD (cy t.length (i + 1)) (-1))
        have hlt := cost_lt hil (t.getD (cy t.length (i + 1)) (-1))
        have ho := own_lt (n := t.length) (by omega) (t.getD (cy t.length (i + 1)) (-1))
        generalize cost t.length (cy t.length (i + 1)) (t.getD (cy t.length (i + 1)) (-1)) = c at *
        generalize own t.length (t.getD (cy t.length (i + 1)) (-1)) = o at *
        rcases Nat.eq_zero_or_pos c with h0 | h0
        · exact h0
        · have := hp (c - 1) (by omega)
          have e : cy t.length (o + (c - 1)) = i := by revert hoc; unfold cy; split <;> split <;> split <;> omega
          rw [e, hu] at this; cases this
      unfold Bef
      rw [hc0]
      omega
    · simp [e1] at hi
      rw [if_neg e1]
      by_cases e2 : cy t.length (i + 1) = a
      · rw [if_pos e2]
        have ep : cy t.length (a + t.length - 1) = i := by rw [← e2]; exact prev_next (us_lt hi) h2
        have := H.ahead
        rw [ep] at this
        exact this hi
      · simp [e2] at hi1
        rw [if_neg e2]
        exact H.robin.sorted i hi hi1
theorem keys_swap : ∀ (t : List Int) (p : Nat) (k : Int), us t p = true → 0 ≤ k → (t.getD p (-1) :: keys (t.set p k)).Perm (k :: keys t)
  | [], p, k, h, _ => by have := us_lt h; simp at this
  | x :: t, 0, k, hu, hk => by
    have : 0 ≤ x := by rw [us] at hu; exact of_decide_eq_true hu
    simp only [keys, List.set_cons_zero, List.filter_cons, this, hk, decide_true, if_true, List.getD_cons_zero]
    exact List.Perm.swap _ _ _
  | x :: t, p + 1, k, hu, hk => by
    have ih := keys_swap t p k (by simpa [us] using hu) hk
    simp only [keys, List.set_cons_succ, List.filter_cons, List.getD_cons_succ] at ih ⊢
    split
    · exact (List.Perm.swap _ _ _).trans ((ih.cons x).trans (List.Perm.swap _ _ _))
    · exact ih
theorem hand_go : ∀ (d : Nat) (t : List Int) (h : Int) (a : Nat), Hand t h a → many t + 1 < t.length → d < t.length → (∀ m, m < d → us t (cy t.length (a + m)) = true) → us t (cy t.length (a + d)) = false →
    Robin (robGo d t h a) ∧ (keys (robGo d t h a)).Perm (h :: keys t) ∧ (robGo d t h a).length = t.length
  | 0, t, h, a, H, hm, hd, _, hf => by
    have e : cy t.length (a + 0) = a := by have := H.at_; unfold cy; split <;> omega
    rw [e] at hf
    exact ⟨H.put hf hm, keys_set t a h H.at_ hf H.pos, by simp [robGo]⟩
  | d + 1, t, h, a, H, hm, hd, hu, hf => by
    have hua : us t a = true := by
      have := hu 0 (by omega)
      have e : cy t.length (a + 0) = a := by have := H.at_; unfold cy; split <;> omega
      rwa [e] at this
    have sh : ∀ m, m + 1 ≤ d + 1 → cy t.length (cy t.length (a + 1) + m) = cy t.length (a + (m + 1)) := by
      intro m hmd
      have := H.at_
      unfold cy; split <;> split <;> split <;> omega
    unfold robGo
    by_cases ho : Over t.length a h (t.getD a (-1))
    · rw [if_pos ho]
      have H' := H.swap hua ho
      have us' : ∀ i, us (t.set a h) i = us t i := us_same hua H.pos
      have al : Alike (t.set a h) t := ⟨by simp, us'⟩
      have := hand_go d (t.set a h) (t.getD a (-1)) (cy t.length (a + 1)) H' (by rw [many_alike al, List.length_set]; exact hm) (by rw [List.length_set]; omega)
        (fun m hmd => by rw [List.length_set, us', sh m (by omega)]; exact hu (m + 1) (by omega)) (by rw [List.length_set, us', sh d (by omega)]; exact hf)
      exact ⟨this.1, this.2.1.trans (keys_swap t a h hua H.pos), by rw [this.2.2]; simp⟩
    · rw [if_neg ho]
      have := hand_go d t h (cy t.length (a + 1)) (H.pass hua ho) hm (by omega) (fun m hmd => by rw [sh m (by omega)]; exact hu (m + 1) (by omega)) (by rw [sh d (by omega)]; exact hf)
      exact this
theorem Robin.hand {t : List Int} (hR : Robin t) (h2 : 2 ≤ t.length) {k : Int} (hk : 0 ≤ k) (hn : k ∉ keys t) : Hand t k (own t.length k) := by
  have ho := own_lt (n := t.length) (by omega) k
  have hc : cost t.length (own t.length k) k = 0 := by unfold cost cy; split <;> omega
  refine ⟨hR, h2, ho, hk, ?_, ?_, ?_⟩
  · intro i hi e
    exact hn (mem_keys.2 ⟨i, hi, e⟩)
  · intro m hm; rw [hc] at hm; omega
  · intro _
    unfold Bef
    rw [next_prev ho h2, hc]
    omega
theorem rob_spec {t : List Int} (hR : Robin t) (h2 : 2 ≤ t.length) {k : Int} (hk : 0 ≤ k) (hn : k ∉ keys t) (hm : many t + 1 < t.length) : Robin (rob t k) ∧ (keys (rob t k)).Perm (k :: keys t) ∧ (rob t k).length = t.length := by
  have hF := hR.valid.free
  have s := ff_spec hF (own_lt (n := t.length) (by omega) k)
  exact hand_go _ t k _ (hR.hand h2 hk hn) hm s.1 s.2.2 s.2.1
theorem Valid.empty {n : Nat} (h : 0 < n) : Valid (empty n) :=
  ⟨⟨0, by simp [TabT.empty, h], us_empty n 0⟩, ge_empty n, fun i j hi => (by rw [us_empty] at hi; cases hi), fun i hi => (by rw [us_empty] at hi; cases hi)⟩
theorem Robin.empty {n : Nat} (h : 0 < n) : Robin (empty n) := ⟨Valid.empty h, fun i hi => (by rw [us_empty] at hi; cases hi)⟩
/-- How far behind the cell g a key's own cell lies. -/
def off (n g : Nat) (k : Int) : Nat := cy n (own n k + n - g)
theorem off_spec {t : List Int} (hV : Valid t) {g : Nat} (hg : g < t.length) (hgu : us t g = false) {e : Nat} (he : e < t.length) (hu : us t (cy t.length (g + e)) = true) :
    1 ≤ off t.length g (t.getD (cy t.length (g + e)) (-1)) ∧ off t.length g (t.getD (cy t.length (g + e)) (-1)) + cost t.length (cy t.length (g + e)) (t.getD (cy t.length (g + e)) (-1)) = e ∧
      ∀ m, off t.length g (t.getD (cy t.length (g + e)) (-1)) ≤ m → m ≤ e → us t (cy t.length (g + m)) = true := by
  have hil := us_lt hu
  have hp := hV.path _ hu
  have ho := own_lt (n := t.length) (by omega) (t.getD (cy t.length (g + e)) (-1))
  have hoc := own_cost hil (t.getD (cy t.length (g + e)) (-1))
  have hcl := cost_lt hil (t.getD (cy t.length (g + e)) (-1))
  unfold off
  generalize cost t.length (cy t.length (g + e)) (t.getD (cy t.length (g + e)) (-1)) = c at *
  generalize own t.length (t.getD (cy t.length (g + e)) (-1)) = o at *
  have he1 : e ≠ 0 := by
    intro h0
    have : cy t.length (g + e) = g := by rw [h0]; unfold cy; split <;> omega
    rw [this, hgu] at hu; cases hu
  have hce : c < e := by
    rcases Nat.lt_or_ge c e with h | h
    · exact h
    · have := hp (c - e) (by omega)
      have e1 : cy t.length (o + (c - e)) = g := by revert hoc; unfold cy; split <;> split <;> split <;> omega
      rw [e1, hgu] at this; cases this
  have hof : cy t.length (o + t.length - g) = e - c := by revert hoc; unfold cy; split <;> split <;> split <;> omega
  rw [hof]
  refine ⟨by omega, by omega, fun m h1 h2 => ?_⟩
  rcases Nat.lt_or_ge m e with h3 | h3
  · have := hp (m - (e - c)) (by omega)
    have e2 : cy t.length (o + (m - (e - c))) = cy t.length (g + m) := by revert hoc; unfold cy; split <;> split <;> split <;> split <;> omega
    rwa [e2] at this
  · have : m = e := by omega
    rw [this]; exact hu
/-- Along used cells, keys come in one order. -/
def Lt (n g : Nat) (x y : Int) : Prop := off n g x < off n g y ∨ off n g x = off n g y ∧ y < x
theorem Lt.trans {n g : Nat} {x y z : Int} (h : Lt n g x y) (k : Lt n g y z) : Lt n g x z := by unfold Lt at *; omega
theorem Robin.next {t : List Int} (hR : Robin t) {g : Nat} (hg : g < t.length) (hgu : us t g = false) {e : Nat} (he : e + 1 < t.length) (h1 : us t (cy t.length (g + e)) = true) (h2 : us t (cy t.length (g + (e + 1))) = true) :
    Lt t.length g (t.getD (cy t.length (g + e)) (-1)) (t.getD (cy t.length (g + (e + 1))) (-1)) := by
  have s1 := off_spec hR.valid hg hgu (by omega) h1
  have s2 := off_spec hR.valid hg hgu he h2
  have en : cy t.length (cy t.length (g + e) + 1) = cy t.length (g + (e + 1)) := by unfold cy; split <;> split <;> split <;> omega
  have := hR.sorted _ h1
  rw [en] at this
  have := this h2
  unfold Bef at this
  rw [en] at this
  unfold Lt
  omega
end TabT
namespace Go.Proofs.Ytfblohigbdomjaa.G
open Go.RowKit Go.Proofs.YtfblohigbdomjaaW.PrintWords Go.Proofs.YtfblohigbdomjaaW.PrintLast Go.Proofs.YtfblohigbdomjaaW.PrintMore
set_option linter.unusedVariables false
set_option linter.unusedSimpArgs false
set_option linter.unusedSectionVars false
theorem t_g0 {t : List Int} {i : Nat} (h : i < t.length) : t.getD i (-1) = t.getD i 0 := by
  rw [List.getD_eq_getElem?_getD, List.getD_eq_getElem?_getD, List.getElem?_eq_getElem h]; rfl
theorem cy_self {n a : Nat} (h : a < n) : TabT.cy n (a + 0) = a := by unfold TabT.cy; split <;> omega
theorem cy_shift {n a d m : Nat} (ha : a < n) (hd : d + 1 < n) (hm : m ≤ d) : TabT.cy n (TabT.cy n (a + 1) + m) = TabT.cy n (a + (m + 1)) := by
  unfold TabT.cy; split <;> split <;> split <;> omega
theorem step_arith {n a : Nat} (ha : a < n) (hn : n ≤ 1000) : Int.tmod (wrap64 ((a : Int) + 1)) (n : Int) = ((TabT.cy n (a + 1) : Nat) : Int) := by
  rw [wrap_next (n := n) ha (by omega), ← TabT.cy_mod (by omega)]
  rfl
theorem own_arith (key n : Nat) : Int.tmod (key : Int) (n : Int) = ((TabT.own n (key : Int) : Nat) : Int) := by
  unfold TabT.own
  show ((key % n : Nat) : Int) = (((key : Int) % (n : Int)).toNat : Int)
  rw [show ((key : Int) % (n : Int)) = ((key % n : Nat) : Int) from rfl, Int.toNat_natCast]
theorem us_val {t : List Int} {i : Nat} (h : TabT.us t i = true) : 0 ≤ t.getD i 0 := by
  have hi := TabT.us_lt h
  rw [TabT.us, decide_eq_true_eq, t_g0 hi] at h
  exact h
theorem us_free {t : List Int} {i : Nat} (hi : i < t.length) (h : TabT.us t i = false) : t.getD i 0 < 0 := by
  rw [TabT.us, decide_eq_false_iff_not, t_g0 hi] at h
  omega
/-- What the cells of a table may hold. -/
def Cells (t : List Int) : Prop := ∀ i, i < t.length → -1 ≤ t.getD i 0 ∧ t.getD i 0 ≤ 999
theorem Cells.set {t : List Int} (h : Cells t) {p : Nat} {k : Int} (hp : p < t.length) (h0 : 0 ≤ k) (h9 : k ≤ 999) : Cells (t.set p k) := by
  intro i hi
  rw [List.length_set] at hi
  rw [TabT.getD_set _ _ _ _ _ hp]
  split
  · omega
  · exact h i hi
theorem Cells.empty (n : Nat) : Cells (TabT.empty n) := by
  intro i hi
  have hi2 : i < n := by simpa [TabT.empty] using hi
  unfold TabT.empty
  rw [List.getD_eq_getElem?_getD, List.getElem?_replicate, if_pos hi2]
  simp
theorem Cells.ins {t : List Int} (h : Cells t) (hF : TabT.Free t) {k : Int} (h0 : 0 ≤ k) (h9 : k ≤ 999) : Cells (TabT.ins t k) := h.set (TabT.pos_lt hF k) h0 h9
theorem t_prEmpty_ev (n : Nat) (hn : n ≤ 1000) : Ev (fun k => spec_prEmpty.f k (n : Int)) (TabT.empty n) := by
  unfold spec_prEmpty.f TabT.empty
  refine Ev.up0 n (fun q => List.replicate q (-1 : Int)) (fun k s q => spec_prEmpty.l0 k (n : Int) q s) (List.replicate n (-1)) (fun q hq h => Ev.one h fun k => ?_) (Ev.end_ fun k => ?_)
  · rw [spec_prEmpty.l0, if_pos (by omega), if_pos (by simp; omega), wrap_next (n := n) hq (by omega), List.replicate_succ']
  · rw [spec_prEmpty.l0, if_neg (by omega)]
theorem t_empty_eq (n : Nat) (hn : n ≤ 1000) : impl_empty.f (n : Int) = some (TabT.empty n) := by
  unfold impl_empty.f slices_Repeat_int_int.f TabT.empty
  rw [if_pos ⟨rfl, by omega, by omega⟩]
  rfl
/-- What holds when q of the keys are in. -/
structure Filled (n : Nat) (t : List Int) (q : Nat) : Prop where
  len_ : t.length = n
  cells : Cells t
  many_ : TabT.many t = q
theorem Filled.free {n q : Nat} {t : List Int} (h : Filled n t q) (hq : q < n) : TabT.Free t := TabT.free_of_many t (by rw [h.many_, h.len_]; exact hq)
theorem costN_cost {n key a : Nat} (ha : a < n) : costN n key a = TabT.cost n a (key : Int) := by
  have hm := Nat.mod_lt key (show 0 < n by omega)
  have ho : TabT.own n (key : Int) = key % n := by
    unfold TabT.own
    rw [show ((key : Int) % (n : Int)) = ((key % n : Nat) : Int) from rfl, Int.toNat_natCast]
  unfold costN TabT.cost
  rw [ho, TabT.cy_mod (by omega)]
theorem robGo_cells : ∀ (d : Nat) (t : List Int) (h : Int) (a : Nat), Cells t → a < t.length → 0 ≤ h → h ≤ 999 → d < t.length → (∀ m, m < d → TabT.us t (TabT.cy t.length (a + m)) = true) → Cells (TabT.robGo d t h a)
  | 0, t, h, a, hc, ha, h0, h9, _, _ => hc.set ha h0 h9
  | d + 1, t, h, a, hc, ha, h0, h9, hd, hu => by
    have hua := hu 0 (by omega)
    rw [cy_self ha] at hua
    have ho := us_val hua
    have ho9 := hc a ha
    have hlt := TabT.cy_lt (n := t.length) (i := a + 1) (by omega)
    rw [TabT.robGo]
    split
    · refine robGo_cells d _ _ _ (hc.set ha h0 h9) (by rw [List.length_set]; exact hlt) (by rw [t_g0 ha]; exact ho) (by rw [t_g0 ha]; exact ho9.2) (by rw [List.length_set]; omega) (fun m hm => ?_)
      rw [List.length_set, TabT.us_same hua h0, cy_shift ha hd (by omega)]
      exact hu (m + 1) (by omega)
    · refine robGo_cells d _ _ _ hc hlt h0 h9 (by omega) (fun m hm => ?_)
      rw [cy_shift ha hd (by omega)]
      exact hu (m + 1) (by omega)
end Go.Proofs.Ytfblohigbdomjaa.G
namespace Go.Proofs.Ytfblohigbdomjaa.G
open Go.RowKit Go.Proofs.YtfblohigbdomjaaW.PrintWords Go.Proofs.YtfblohigbdomjaaW.PrintLast Go.Proofs.YtfblohigbdomjaaW.PrintMore
set_option linter.unusedVariables false
set_option linter.unusedSimpArgs false
set_option linter.unusedSectionVars false
section
variable (n : Nat) (h2 : 2 ≤ n) (h12 : n ≤ 12) (ks : List Int) (q : Nat)
include h2 h12
theorem sp_rob (r : List Int) : ∀ (d : Nat) (t : List Int) (h : Int) (a : Nat), t.length = n → Cells t → 0 ≤ h → h ≤ 999 → a < n → d < n → (∀ m, m < d → TabT.us t (TabT.cy n (a + m)) = true) → TabT.us t (TabT.cy n (a + d)) = false →
    Ev (fun k => spec_prRobin.l0 k (n : Int) ks (ks.length : Int) (wrap64 ((q : Int) + 1)) (TabT.robGo d t h a)) r → Ev (fun k => spec_prRobin.l1 k (n : Int) h (a : Int) ks (ks.length : Int) (q : Int) t) r := by
  intro d
  induction d with
  | zero =>
    intro t h a hl hc h0 h9 ha hd _ hf hr
    rw [cy_self ha] at hf
    have e1 := us_free (by omega) hf
    have e2 := hc a (by omega)
    refine Ev.one hr fun k => ?_
    rw [spec_prRobin.l1, if_pos (by omega), if_pos (by omega), rd_nat, if_pos (by omega), Int.toNat_natCast]
    rfl
  | succ d ih =>
    intro t h a hl hc h0 h9 ha hd hu hf hr
    have hua := hu 0 (by omega)
    rw [cy_self ha] at hua
    have ho := us_val hua
    have ho9 := hc a (by omega)
    have hlt := TabT.cy_lt (n := n) (i := a + 1) (by omega)
    obtain ⟨kh, rfl⟩ : ∃ m : Nat, h = m := ⟨h.toNat, by omega⟩
    obtain ⟨ko, hko⟩ : ∃ m : Nat, t.getD a 0 = m := ⟨(t.getD a 0).toNat, by omega⟩
    rw [TabT.robGo, hl, t_g0 (by omega : a < t.length), hko] at hr
    have c1 := prCost_eq (n := n) (key := kh) (at_ := a) (by omega) (by omega) (by omega) ha
    have c2 := prCost_eq (n := n) (key := ko) (at_ := a) (by omega) (by omega) (by omega) ha
    rw [costN_cost ha] at c1 c2
    by_cases hov : TabT.Over n a (kh : Int) (ko : Int)
    · rw [if_pos hov] at hr
      have := ih (t.set a (kh : Int)) (ko : Int) (TabT.cy n (a + 1)) (by rw [List.length_set]; exact hl) (hc.set (by omega) h0 h9) (by omega) (by omega) hlt (by omega)
        (fun m hm => by rw [TabT.us_same hua h0, cy_shift ha hd (by omega)]; exact hu (m + 1) (by omega)) (by rw [TabT.us_same hua h0, cy_shift ha hd (Nat.le_refl _)]; exact hf) hr
      refine Ev.one this fun k => ?_
      rw [spec_prRobin.l1, if_pos (by omega), if_pos (by omega), rd_nat, if_neg (by omega), hko, c1, Option.bind_some, c2, Option.bind_some, Int.toNat_natCast, step_arith ha (by omega)]
      unfold TabT.Over at hov
      rcases hov with hov | ⟨hov, hov2⟩
      · rw [if_pos (by omega), if_neg (by omega)]
      · rw [if_neg (by omega), if_pos (by omega), if_pos (by omega), if_neg (by omega)]
    · rw [if_neg hov] at hr
      have := ih t (kh : Int) (TabT.cy n (a + 1)) hl hc h0 h9 hlt (by omega)
        (fun m hm => by rw [cy_shift ha hd (by omega)]; exact hu (m + 1) (by omega)) (by rw [cy_shift ha hd (Nat.le_refl _)]; exact hf) hr
      refine Ev.one this fun k => ?_
      rw [spec_prRobin.l1, if_pos (by omega), if_pos (by omega), rd_nat, if_neg (by omega), hko, c1, Option.bind_some, c2, Option.bind_some, Int.toNat_natCast, step_arith ha (by omega)]
      unfold TabT.Over at hov
      rw [if_neg (by omega)]
      by_cases e : ((TabT.cost n a (kh : Int) : Nat) : Int) = ((TabT.cost n a (ko : Int) : Nat) : Int)
      · rw [if_pos e, if_neg (by omega), if_neg (by omega)]
      · rw [if_neg e, if_neg (by omega)]
theorem im_rob (r : List Int) : ∀ (d : Nat) (t : List Int) (h : Int) (a : Nat), TabT.Hand t h a → t.length = n → Cells t → h ≤ 999 → d < n → (∀ m, m < d → TabT.us t (TabT.cy n (a + m)) = true) → TabT.us t (TabT.cy n (a + d)) = false →
    Ev (fun k => impl_robin.l0 k (n : Int) ks (ks.length : Int) (wrap64 ((q : Int) + 1)) (TabT.robGo d t h a)) r → Ev (fun k => impl_robin.l1 k (n : Int) h ((TabT.cost n a h : Nat) : Int) (a : Int) ks (ks.length : Int) (q : Int) t) r := by
  intro d
  induction d with
  | zero =>
    intro t h a H hl hc h9 hd _ hf hr
    have ha : a < n := by have := H.at_; omega
    rw [cy_self ha] at hf
    have e1 := us_free (by omega) hf
    have e2 := hc a (by omega)
    refine Ev.one hr fun k => ?_
    rw [impl_robin.l1, if_pos (by omega), if_pos (by omega), rd_nat, if_neg (by omega), Int.toNat_natCast]
    rfl
  | succ d ih =>
    intro t h a H hl hc h9 hd hu hf hr
    have ha : a < n := by have := H.at_; omega
    have h0 := H.pos
    have hua := hu 0 (by omega)
    rw [cy_self ha] at hua
    have ho := us_val hua
    have ho9 := hc a (by omega)
    have hlt := TabT.cy_lt (n := n) (i := a + 1) (by omega)
    obtain ⟨kh, rfl⟩ : ∃ m : Nat, h = m := ⟨h.toNat, by omega⟩
    obtain ⟨ko, hko⟩ : ∃ m : Nat, t.getD a 0 = m := ⟨(t.getD a 0).toNat, by omega⟩
    have hko1 : t.getD a (-1) = (ko : Int) := by rw [t_g0 (by omega : a < t.length), hko]
    have s1 := TabT.cost_small H.robin.valid.free hua H.path
    have s2 := TabT.cost_small H.robin.valid.free hua (H.robin.valid.path a hua)
    rw [hl] at s1 s2
    rw [hko1] at s2
    have n1 := TabT.cost_next ha h2 (kh : Int) s1
    have n2 := TabT.cost_next ha h2 (ko : Int) s2
    have c2 := tcost_eq (l := t) (key := ko) (at_ := a) (by omega) (by omega) (by omega) hko
    rw [costN_cost (by omega), hl] at c2
    rw [TabT.robGo, hl, hko1] at hr
    by_cases hov : TabT.Over n a (kh : Int) (ko : Int)
    · rw [if_pos hov] at hr
      have H' := H.swap hua (by rw [hl, hko1]; exact hov)
      rw [hl, hko1] at H'
      have := ih (t.set a (kh : Int)) (ko : Int) (TabT.cy n (a + 1)) H' (by rw [List.length_set]; exact hl) (hc.set (by omega) h0 h9) (by omega) (by omega)
        (fun m hm => by rw [TabT.us_same hua h0, cy_shift ha hd (by omega)]; exact hu (m + 1) (by omega)) (by rw [TabT.us_same hua h0, cy_shift ha hd (Nat.le_refl _)]; exact hf) hr
      rw [n2] at this
      refine Ev.one this fun k => ?_
      rw [impl_robin.l1, if_pos (by omega), if_pos (by omega), rd_nat, if_pos (by omega), hko, c2, Option.bind_some, Int.toNat_natCast, step_arith ha (by omega), wrap_next (n := 1000) (by omega) (by omega), wrap_next (n := 1000) (by omega) (by omega)]
      unfold TabT.Over at hov
      rcases hov with hov | ⟨hov, hov2⟩
      · rw [if_pos (by omega), if_neg (by omega)]
      · rw [if_neg (by omega), if_pos (by omega), if_pos (by omega), if_neg (by omega)]
    · rw [if_neg hov] at hr
      have H' := H.pass hua (by rw [hl, hko1]; exact hov)
      rw [hl] at H'
      have := ih t (kh : Int) (TabT.cy n (a + 1)) H' hl hc h9 (by omega)
        (fun m hm => by rw [cy_shift ha hd (by omega)]; exact hu (m + 1) (by omega)) (by rw [cy_shift ha hd (Nat.le_refl _)]; exact hf) hr
      rw [n1] at this
      refine Ev.one this fun k => ?_
      rw [impl_robin.l1, if_pos (by omega), if_pos (by omega), rd_nat, if_pos (by omega), hko, c2, Option.bind_some, Int.toNat_natCast, step_arith ha (by omega), wrap_next (n := 1000) (by omega) (by omega), wrap_next (n := 1000) (by omega) (by omega)]
      unfold TabT.Over at hov
      rw [if_neg (by omega)]
      by_cases e : ((TabT.cost n a (kh : Int) : Nat) : Int) = ((TabT.cost n a (ko : Int) : Nat) : Int)
      · rw [if_pos e, if_neg (by omega), if_neg (by omega)]
      · rw [if_neg e, if_neg (by omega)]
end
end Go.Proofs.Ytfblohigbdomjaa.G
namespace Go.Proofs.Ytfblohigbdomjaa.G
open Go.RowKit Go.Proofs.YtfblohigbdomjaaW.PrintWords Go.Proofs.YtfblohigbdomjaaW.PrintLast Go.Proofs.YtfblohigbdomjaaW.PrintMore
set_option linter.unusedVariables false
set_option linter.unusedSimpArgs false
set_option linter.unusedSectionVars false
def robAll (t : List Int) (ks : List Int) : List Int := ks.foldl TabT.rob t
theorem robAll_snoc (t : List Int) (ks : List Int) (k : Int) : robAll t (ks ++ [k]) = TabT.rob (robAll t ks) k := by
  simp [robAll, List.foldl_append]
structure RFilled (n : Nat) (t : List Int) (ks : List Int) : Prop where
  len_ : t.length = n
  cells : Cells t
  robin : TabT.Robin t
  keys_ : (TabT.keys t).Perm ks
theorem RFilled.many_ {n : Nat} {t ks : List Int} (h : RFilled n t ks) : TabT.many t = ks.length := by
  rw [TabT.many_keys]; exact h.keys_.length_eq
theorem RFilled.hand {n : Nat} {t ks : List Int} (h : RFilled n t ks) (h2 : 2 ≤ n) {k : Int} (h0 : 0 ≤ k) (hn : k ∉ ks) : TabT.Hand t k (TabT.own n k) := by
  have := h.robin.hand (by rw [h.len_]; exact h2) h0 (fun e => hn (h.keys_.mem_iff.mp e))
  rwa [h.len_] at this
theorem rfilled {n : Nat} (h2 : 2 ≤ n) (ks : List Int) (hl : ks.length < n) (hk : ∀ x ∈ ks, 0 ≤ x ∧ x ≤ 999) (hnd : ks.Nodup) : ∀ q, q ≤ ks.length → RFilled n (robAll (TabT.empty n) (ks.take q)) (ks.take q) := by
  intro q
  induction q with
  | zero =>
    intro _
    refine ⟨by simp [robAll, TabT.empty], Cells.empty n, TabT.Robin.empty (by omega), ?_⟩
    show (TabT.keys (TabT.empty n)).Perm []
    rw [TabT.keys_empty]
  | succ q ih =>
    intro hq
    have F := ih (by omega)
    have hm := hk (ks.getD q 0) (by rw [List.getD_eq_getElem?_getD, List.getElem?_eq_getElem (by omega : q < ks.length)]; exact List.getElem_mem _)
    have hnew : ks.getD q 0 ∉ ks.take q := by
      intro hmem
      obtain ⟨i, hi, e⟩ := List.mem_take_iff_getElem.mp hmem
      unfold List.Nodup at hnd
      rw [List.pairwise_iff_getElem] at hnd
      rw [List.getD_eq_getElem?_getD, List.getElem?_eq_getElem (by omega : q < ks.length)] at e
      exact hnd i q (by omega) (by omega) (by omega) e
    have hmany : TabT.many (robAll (TabT.empty n) (ks.take q)) = q := by rw [F.many_, List.length_take]; omega
    have hF := F.robin.valid.free
    have s := TabT.ff_spec hF (TabT.own_lt (n := (robAll (TabT.empty n) (ks.take q)).length) (by rw [F.len_]; omega) (ks.getD q 0))
    have R := TabT.rob_spec F.robin (by rw [F.len_]; exact h2) hm.1 (fun e => hnew (F.keys_.mem_iff.mp e)) (by rw [hmany, F.len_]; omega)
    rw [take_succ_getD (by omega), robAll_snoc]
    refine ⟨by rw [R.2.2, F.len_], ?_, R.1, ?_⟩
    · exact robGo_cells _ _ _ _ F.cells (TabT.own_lt (by rw [F.len_]; omega) _) hm.1 hm.2 s.1 s.2.2
    · exact R.2.1.trans ((F.keys_.cons _).trans (List.perm_append_comm (l₁ := [ks.getD q 0])))
end Go.Proofs.Ytfblohigbdomjaa.G
namespace Go.Proofs.Ytfblohigbdomjaa.G
open Go.RowKit Go.Proofs.YtfblohigbdomjaaW.PrintWords Go.Proofs.YtfblohigbdomjaaW.PrintLast Go.Proofs.YtfblohigbdomjaaW.PrintMore
set_option linter.unusedVariables false
set_option linter.unusedSimpArgs false
set_option linter.unusedSectionVars false
section
variable (n : Nat) (ks : List Int) (h2 : 2 ≤ n) (h12 : n ≤ 12) (hl : ks.length < n) (hk : ∀ x ∈ ks, 0 ≤ x ∧ x ≤ 999) (hnd : ks.Nodup)
include h2 h12 hl hk hnd
theorem prRobin_ev : Ev (fun k => spec_prRobin.f k (n : Int) ks) (robAll (TabT.empty n) ks) := by
  unfold spec_prRobin.f
  refine Ev.bind (t_prEmpty_ev n (by omega)) ?_
  have := Ev.up0 ks.length (fun q => robAll (TabT.empty n) (ks.take q)) (fun k s q => spec_prRobin.l0 k (n : Int) ks (ks.length : Int) q s) (robAll (TabT.empty n) ks) (fun q hq h => ?_) (Ev.end_ fun k => ?_)
  · simpa [robAll] using this
  · have F := rfilled h2 ks hl hk hnd q (by omega)
    have hm := hk (ks.getD q 0) (by rw [List.getD_eq_getElem?_getD, List.getElem?_eq_getElem hq]; exact List.getElem_mem hq)
    have hF := F.robin.valid.free
    have ho := TabT.own_lt (n := n) (by omega) (ks.getD q 0)
    have s := TabT.ff_spec hF (by rw [F.len_]; exact ho)
    rw [F.len_] at s
    rw [take_succ_getD hq, robAll_snoc, TabT.rob, F.len_] at h
    have := sp_rob n h2 h12 ks q (robAll (TabT.empty n) ks) _ _ (ks.getD q 0) (TabT.own n (ks.getD q 0)) F.len_ F.cells hm.1 hm.2 ho s.1 s.2.2 s.2.1 (by rw [wrap_next (n := ks.length) hq (by omega)]; exact h)
    refine Ev.one this fun k => ?_
    obtain ⟨m, hmk⟩ : ∃ m : Nat, ks.getD q 0 = m := ⟨(ks.getD q 0).toNat, by omega⟩
    rw [spec_prRobin.l0, if_pos (by omega), if_pos (by omega), if_pos (by omega), if_neg (by omega), rd_nat, hmk, own_arith]
  · rw [spec_prRobin.l0, if_neg (by omega), List.take_length]
theorem robin_ev : Ev (fun k => impl_robin.f k (n : Int) ks) (robAll (TabT.empty n) ks) := by
  unfold impl_robin.f
  simp only [t_empty_eq n (by omega), Option.bind_some]
  have := Ev.up0 ks.length (fun q => robAll (TabT.empty n) (ks.take q)) (fun k s q => impl_robin.l0 k (n : Int) ks (ks.length : Int) q s) (robAll (TabT.empty n) ks) (fun q hq h => ?_) (Ev.end_ fun k => ?_)
  · simpa [robAll] using this
  · have F := rfilled h2 ks hl hk hnd q (by omega)
    have hm := hk (ks.getD q 0) (by rw [List.getD_eq_getElem?_getD, List.getElem?_eq_getElem hq]; exact List.getElem_mem hq)
    have hnew : ks.getD q 0 ∉ ks.take q := by
      intro hmem
      obtain ⟨i, hi, e⟩ := List.mem_take_iff_getElem.mp hmem
      have hnd2 := hnd
      unfold List.Nodup at hnd2
      rw [List.pairwise_iff_getElem] at hnd2
      rw [List.getD_eq_getElem?_getD, List.getElem?_eq_getElem hq] at e
      exact hnd2 i q (by omega) hq (by omega) e
    have hF := F.robin.valid.free
    have ho := TabT.own_lt (n := n) (by omega) (ks.getD q 0)
    have s := TabT.ff_spec hF (by rw [F.len_]; exact ho)
    rw [F.len_] at s
    have H := F.hand h2 hm.1 hnew
    have hcost : TabT.cost n (TabT.own n (ks.getD q 0)) (ks.getD q 0) = 0 := by unfold TabT.cost TabT.cy; split <;> omega
    rw [take_succ_getD hq, robAll_snoc, TabT.rob, F.len_] at h
    have := im_rob n h2 h12 ks q (robAll (TabT.empty n) ks) _ _ (ks.getD q 0) (TabT.own n (ks.getD q 0)) H F.len_ F.cells hm.2 s.1 s.2.2 s.2.1 (by rw [wrap_next (n := ks.length) hq (by omega)]; exact h)
    rw [hcost] at this
    refine Ev.one this fun k => ?_
    obtain ⟨m, hmk⟩ : ∃ m : Nat, ks.getD q 0 = m := ⟨(ks.getD q 0).toNat, by omega⟩
    rw [impl_robin.l0, if_pos (by omega), if_pos (by omega), if_pos (by omega), if_neg (by omega), rd_nat, hmk, own_arith]
    rfl
  · rw [impl_robin.l0, if_neg (by omega), List.take_length]
end
end Go.Proofs.Ytfblohigbdomjaa.G
namespace Go.Proofs.Ytfblohigbdomjaa.Pure
open Go.RowKit Go.Proofs.Ytfblohigbdomjaa.G Go.Proofs.YtfblohigbdomjaaW.PrintWords Go.Proofs.YtfblohigbdomjaaW.PrintLast
set_option linter.unusedVariables false
set_option linter.unusedSimpArgs false
theorem keysZ_few {l : List Int} (h : tblB l = true) : (keysZ l).length < l.length := by
  obtain ⟨h1, h2, h3, h4⟩ := tblB_parts h
  rw [(keysZ_perm l).length_eq]
  apply Nat.lt_of_le_of_ne (List.length_filter_le _ _)
  intro e
  have := List.length_filter_eq_length_iff.mp e (-1) h4
  simp at this
theorem keysZ_good {l : List Int} (h : tblB l = true) : (∀ x ∈ keysZ l, 0 ≤ x ∧ x ≤ 999) ∧ (keysZ l).Nodup := by
  obtain ⟨h1, h2, h3, h4⟩ := tblB_parts h
  refine ⟨fun x hx => ?_, (keysZ_perm l).nodup_iff.mpr (filter_nodup (tbl_dist h))⟩
  obtain ⟨hm, h0⟩ := keysZ_mem.mp hx
  obtain ⟨j, hj, e⟩ := List.getElem_of_mem hm
  have := h3 j hj
  rw [getD_get hj, e] at this
  omega
def irV (l : List Int) : Bool × Bool := if tblB l = true then (decide (robAll (TabT.empty l.length) (keysZ l) = l), true) else (false, false)
theorem rob_len {l : List Int} (h : tblB l = true) : (robAll (TabT.empty l.length) (keysZ l)).length = l.length := by
  obtain ⟨h1, h2, h3, h4⟩ := tblB_parts h
  have F := rfilled (n := l.length) h1 (keysZ l) (keysZ_few h) (keysZ_good h).1 (keysZ_good h).2 (keysZ l).length (Nat.le_refl _)
  rw [List.take_length] at F
  exact F.len_
theorem spec_IsRobin_ev (l : List Int) (hn : l.length ≤ 4611686018427387904) : Ev (fun k => spec_IsRobin.f k l) (irV l) := by
  unfold spec_IsRobin.f irV
  refine Ev.bind (prGood_ev l hn) ?_
  cases h : tblB l with
  | false => simp only [Bool.false_eq_true, if_false]; exact Ev.now _
  | true =>
    obtain ⟨h1, h2, h3, h4⟩ := tblB_parts h
    simp only [if_true]
    refine Ev.bind (prSorted_ev l (by omega)) ?_
    rw [← keysZ_sorted h]
    refine Ev.bind (prRobin_ev l.length (keysZ l) h1 h2 (keysZ_few h) (keysZ_good h).1 (keysZ_good h).2) ?_
    refine Ev.bind (l1Same_ev _ _ (by rw [rob_len h]; omega)) ?_
    exact Ev.now _
theorem impl_IsRobin_ev (l : List Int) (hn : l.length ≤ 4611686018427387904) : Ev (fun k => impl_IsRobin.f k l) (irV l) := by
  unfold impl_IsRobin.f irV
  refine Ev.bind (isTable_ev l hn) ?_
  cases h : tblB l with
  | false => simp only [Bool.false_eq_true, if_false]; exact Ev.now _
  | true =>
    obtain ⟨h1, h2, h3, h4⟩ := tblB_parts h
    simp only [if_true, keys_f h, Option.bind_some]
    refine Ev.bind (robin_ev l.length (keysZ l) h1 h2 (keysZ_few h) (keysZ_good h).1 (keysZ_good h).2) ?_
    refine Ev.bind (sEqual_ev _ _ (by rw [rob_len h]; omega)) ?_
    exact Ev.now _
theorem FnExactIsRobin (l0 : List Int) (hm : l0.length ≤ maxLen) (hb : l0.length * 8 ≤ 140737488351232) (hw : ∀ x ∈ l0, (Lit.int .i64 x).wf = true) : ∃ k, laws_FnExactIsRobin.f k l0 = some true := by
  refine Ev.rounds ?_
  unfold laws_FnExactIsRobin.f
  rw [szTable_eq l0 (by omega)]
  simp only [Option.bind_some]
  by_cases h : (l0.length : Int) > 1048576
  · rw [if_pos h]
    simp only [show ((-1 : Int) < 0) by decide, if_true]
    exact Ev.now _
  · rw [if_neg h]
    have hn : l0.length ≤ 1048576 := by omega
    simp only [show ¬ ((1048576 : Int) - (l0.length : Int) < 0) by omega, if_false]
    refine Ev.bind (toTable_ev l0 (by omega)) ?_
    refine Ev.bind (spec_IsRobin_ev l0 (by omega)) ?_
    refine Ev.bind (toTable_ev l0 (by omega)) ?_
    refine Ev.bind (impl_IsRobin_ev l0 (by omega)) ?_
    simp only [bne_self_eq_false, Bool.false_eq_true, if_false]
    refine Ev.step (fun k => by rw [laws_FnExactIsRobin.j0, if_neg (by decide)]) ?_
    refine Ev.bind (toTable_ev l0 (by omega)) ?_
    refine Ev.bind (eqTable_ev l0 l0 (by omega)) ?_
    simp only [decide_true, if_true]
    exact Ev.now _
end Go.Proofs.Ytfblohigbdomjaa.Pure
namespace Go.Proofs.YtfblohigbdomjaaW.PrintWords
open Go.ChangeShapes Go.WideShapes
theorem sized_ints {H : Type} {enc : TypeId × Value → H} {P : Program} {W : World} {base : Nat} {spare : Nat → Bool} {held : Bool} {t e : TypeId} {k : IntKind} {a : Option Addr} {len cap : Nat} {d : DataW H} {ps : List MemPlace} {ts : List TypeId} {ds : List (DataW H)} {j : Nat}
    (hsz : (DataW.weightsEach P ts ds).all (· ≤ reachBytes) = true) (ht : ts[j]? = some t) (hd : ds[j]? = some d) (hu : P.underlying t = some (.slice e)) (he : P.underlying e = some (.int k)) (hc : P.cellsOf e = 1) {B : Nat} (hB : P.bytesOf e = B)
    (h : DataW.Trod enc P W base spare held t (.slice a len cap) d ps) : len * B ≤ 140737488351232 := by
  obtain ⟨fuel, hf⟩ := h
  rcases open_ints hu he hc hf with ⟨hcs, _⟩ | ⟨x, l, c, zs, hcs, _, hl, _, hz, hx, _, _⟩
  · simp [Value.cells] at hcs
    obtain ⟨rfl, rfl, rfl⟩ := hcs
    simp
  · simp [Value.cells] at hcs
    obtain ⟨rfl, rfl, rfl⟩ := hcs
    obtain ⟨hx, _⟩ := Prod.mk.inj hx
    subst hx
    have z := sized_slice hsz ht hd hu
    rw [hB] at z
    have hl2 : len ≤ zs.length := by
      rw [hz]
      split
      · exact hl
      · exact Nat.le_refl _
    have h1 : (lits (H := H) k (zs.take len)).length + (lits (H := H) k (zs.drop len)).length = zs.length := by
      simp [lits]
      omega
    rw [h1] at z
    exact Nat.le_trans (Nat.mul_le_mul_right _ hl2) z
end Go.Proofs.YtfblohigbdomjaaW.PrintWords
namespace Go.Proofs.Ytfblohigbdomjaa.fnExactIsRobin
open Go.ChangeShapes Go.WideShapes Go.ChangeAt Go.RowKit
open Go.ChangeMaps (open_string shut_string)
open Go.Proofs.YtfblohigbdomjaaW.PrintWords Go.Proofs.YtfblohigbdomjaaW.PrintLast Go.Proofs.YtfblohigbdomjaaW.PrintMore
set_option linter.unusedVariables false
set_option linter.unusedSimpArgs false
theorem own : ownKnob Try.prog.godebug = none := by kernel_rfl
theorem laidOut : laidOutB Try.prog = true := by kernel_rfl
def IsRow (k : IntKind) (w : World) (a : Option Addr) (len cap : Nat) (zs : List Int) : Prop :=
  (a = none ∧ len = 0 ∧ cap = 0 ∧ zs = []) ∨
  ∃ x, a = some x ∧ len ≤ cap ∧ cap ≤ maxLen ∧ zs.length = cap ∧ (∀ i, i < zs.length → w.cell? (x.add i) = some (.int k (zs.getD i 0))) ∧ ∀ n ∈ zs, (Lit.int k n).wf = true
set_option maxRecDepth 100000 in
theorem lifted (os : Os) (started : os.Started) (H : Type) (enc : TypeId × Value → H) :
    ReturnsInHanded {} Try.checked os 6 .any (Rows.fnExactIsRobinSpec.pre6 enc Try.prog Try.f6 Rows.fnExactIsRobinRow.domain false) (Rows.fnExactIsRobinSpec.post enc Try.prog Try.f6 false true false false) := by
  refine returnsInHanded_of_change_sized (C := Try.checked) own started (by kernel_rfl) Try.func6
    (ChangeSpec.witness6 (enc := enc) (C := Try.checked) false ⟨#[], #[.agg #[.slice none 0 0]], []⟩ 8 (by kernel_rfl) (by kernel_rfl) (by kernel_rfl) (by kernel_rfl)) ?_
  intro W base args ds gs before hval0 hW hcnd hsz0 _
  have hsz : (DataW.weightsEach Try.prog (Try.f6.params.toList ++ Rows.fnExactIsRobinSpec.plain.varTypes Try.prog) (ds ++ gs)).all (· ≤ reachBytes) = true := hsz0
  have hval : ∀ (j : Nat) t v, Try.f6.params[j]? = some t → args[j]? = some v → Value.okWide Try.prog W .any base t v := hval0
  have hW' := hW
  obtain ⟨p, q, hA0, hV, rfl, hfz, hnd⟩ := hW
  have hA : DataW.TrodAll enc Try.prog W 0 (fun _ => true) true Try.f6.params.toList args.toList ds p := hA0
  rw [Try.params6] at hA hval hsz
  obtain ⟨v0, vs0, d0, ds0, p0, q0, hargs, rfl, rfl, h0, r0⟩ := trodAll_cons hA
  obtain ⟨rfl, rfl, rfl⟩ := trodAll_nil r0
  obtain rfl : args = #[v0] := by cases args; simp_all
  obtain ⟨rfl, rfl⟩ := trodVars_none hV
  obtain ⟨cs0, rfl, hcs0⟩ := okWide_struct Try.underlying33 (hval 0 33 v0 rfl rfl)
  have k0 := h0
  have lt0 : ∀ x ∈ p0, x.block < W.heap.size := by obtain ⟨m, hm⟩ := k0; exact DataW.trod_lt m _ _ _ hm
  obtain ⟨a0, len0, cap0, z0, rfl, w0, y0⟩ : ∃ a len cap zs, cs0 = #[.slice a len cap] ∧ IsRow .i64 W a len cap zs ∧ len * 8 ≤ 140737488351232 := by
    obtain ⟨fuel, hf⟩ := h0
    obtain ⟨y, m, hx, _, hf0⟩ := trod_struct1 Try.underlying33 hf
    have hsize : cs0.size = 1 := hcs0.trans (by kernel_rfl)
    obtain ⟨u, rfl⟩ : ∃ u, cs0 = #[u] := Array.size_eq_one_iff.1 hsize
    have hone : Try.prog.cellsOf 22 = 1 := by kernel_rfl
    have hf1 : DataW.trod enc Try.prog W 0 (fun _ => true) true m 22 [u] = some y := by simpa [Value.cells, hone] using hf0
    obtain ⟨rfl, rfl⟩ := Prod.mk.inj hx
    have hsz1 : (DataW.weightsEach Try.prog [22] [y.1]).all (· ≤ reachBytes) = true := by
      rw [List.all_eq_true]
      intro b hb
      refine List.all_eq_true.1 hsz b (DataW.weights_mem_each (j := 0) rfl rfl b ?_)
      rw [DataW.weights, Try.underlying33]
      exact hb
    rcases open_ints Try.underlying22 Try.underlying3 (by kernel_rfl) hf1 with ⟨hcs, _⟩ | ⟨x, l, c, zs, hcs, _, hl, hm, hz, _, hcell, hwz⟩
    · obtain rfl : u = .slice none 0 0 := by simpa using hcs
      exact ⟨none, 0, 0, [], rfl, .inl ⟨rfl, rfl, rfl, rfl⟩, by omega⟩
    · obtain rfl : u = .slice (some x) l c := by simpa using hcs
      have hy := Go.Proofs.YtfblohigbdomjaaW.PrintWords.sized_ints hsz1 (j := 0) (t := 22) rfl rfl Try.underlying22 Try.underlying3 (by kernel_rfl) (B := 8) (by kernel_rfl) (⟨m, hf1⟩ : DataW.Trod enc Try.prog W 0 (fun _ => true) true 22 (.slice (some x) l c) y.1 y.2)
      exact ⟨some x, l, c, zs, rfl, .inr ⟨_, rfl, hl, hm, by simpa using hz, hcell, hwz⟩, hy⟩
  clear hA0 hval0 hsz0 hsz
  obtain ⟨l0, rfl, hr0, hm0, hw0, hc0⟩ := ReadsInt.ofRowC w0
  obtain ⟨k, h⟩ := Pure.FnExactIsRobin l0 hm0 y0 hw0
  refine (G.laws_FnExactIsRobin.calls k _ _ l0 true W (Kd.C_of_reads (d := (0 : Int)) (h1 := fun _ => rfl) hr0) hc0 h).mono fun e W' hee => ?_
  obtain ⟨he, bel⟩ := hee
  subst he
  exact ⟨_, rfl, _, _, _, [], _, [], hW', trodAll_mk1 (shut_bool Try.underlying4 _), (trodAll_cons_mk (Below.trod laidOut (by kernel_rfl) (of_decide_eq_true (by kernel_rfl)) k0 bel lt0) trodAll_mk0), rfl, bel.frame _, fun h => by cases h⟩
theorem over : Rows.fnExactIsRobinRow.holds Try.pinned (OpenSpec.ofChange Rows.fnExactIsRobinSpec) :=
  OpenClaim.holds_of_wide 6 Try.f6 rfl rfl rfl rfl rfl rfl rfl ⟨rfl, rfl, rfl, rfl, rfl⟩ rfl rfl rfl rfl rfl (by kernel_rfl) Try.func6 (by kernel_rfl)
    (of_decide_eq_true (by kernel_rfl)) (by unfold Func.isWrapper; first | (rw [if_pos (by decide +kernel)]; kernel_rfl) | (rw [if_neg (by decide +kernel)]; exact ⟨rfl, rfl⟩))
    (fun os started H enc _ => lifted os started H enc)
theorem proved : Rows.FnExactIsRobinSaid := over
#print axioms proved
end Go.Proofs.Ytfblohigbdomjaa.fnExactIsRobin
namespace Go.Proofs.Ytfblohigbdomjaa
/-- The row, under a short name, for the claim. -/
theorem fnExactIsRobin_holds : Rows.FnExactIsRobinSaid := fnExactIsRobin.proved
end Go.Proofs.Ytfblohigbdomjaa
