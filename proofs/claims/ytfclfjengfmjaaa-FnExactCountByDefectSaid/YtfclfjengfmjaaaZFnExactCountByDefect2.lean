/- The law FnExactCountByDefect: part 2 of the printed functions and the facts on them that its row leans on (merged by this session's slim.py). -/
import Derived.Test.YtfclfjengfmjaaaZFnExactCountByDefect1
namespace Go.Proofs.Ytfclfjengfmjaaa.G
open Go.RowKit Go.Proofs.YtfclfjengfmjaaaW.PrintWords Go.Proofs.YtfclfjengfmjaaaW.PrintLast Go.Proofs.YtfclfjengfmjaaaW.PrintMore
attribute [local go_sem] max2_int min2_int max_two min_two max_three min_three max_four min_four   -- for this text's walks alone
set_option linter.unusedVariables false
set_option linter.unusedSimpArgs false
/-! ### laws_FnExactCountByDefect: function 7 -/
mutual
def laws_FnExactCountByDefect.j0 : Nat → Int → List Int → Bool → List Int → Bool → Option (Bool)
  | 0, _, _, _, _, _ => none
  | k + 1, x0, x3, x4, x5, x29 => if x29 = true then (some false) else ((laws_markIntS.f k x5 1).bind fun bt519 => ((laws_heldIntS.f k bt519.2 1).bind fun t521 => (if t521 < 0 then (some false) else (if t521 = bt519.1 then ((impl_CountByDefect.f k x0).bind fun bt522 => ((laws_eqIntS.f k bt522.1 x3).bind fun t526 => (if t526 = true then (laws_FnExactCountByDefect.j1 k bt519.2 bt519.1 (bt522.2 != x4)) else (laws_FnExactCountByDefect.j1 k bt519.2 bt519.1 true)))) else (some false)))))
def laws_FnExactCountByDefect.j1 : Nat → List Int → Int → Bool → Option (Bool)
  | 0, _, _, _ => none
  | k + 1, x5, x7, x54 => if x54 = true then (some false) else ((laws_heldIntS.f k x5 1).bind fun t527 => (if t527 < 0 then (some false) else (if t527 = x7 then (some true) else (some false))))
end
def laws_FnExactCountByDefect.f (k : Nat) (a0 : Int) : Option (Bool) := (spec_CountByDefect.f k a0).bind fun bt510 => ((impl_CountByDefect.f k a0).bind fun bt514 => ((laws_eqIntS.f k bt514.1 bt510.1).bind fun t518 => (if t518 = true then (laws_FnExactCountByDefect.j0 k a0 bt510.1 bt510.2 bt514.1 (bt514.2 != bt510.2)) else (laws_FnExactCountByDefect.j0 k a0 bt510.1 bt510.2 bt514.1 true))))
theorem laws_FnExactCountByDefect.mono_l : ∀ k, (∀ y0 y1 y2 y3 y4, LeO (laws_FnExactCountByDefect.j0 k y0 y1 y2 y3 y4) (laws_FnExactCountByDefect.j0 (k + 1) y0 y1 y2 y3 y4)) ∧ (∀ y0 y1 y2, LeO (laws_FnExactCountByDefect.j1 k y0 y1 y2) (laws_FnExactCountByDefect.j1 (k + 1) y0 y1 y2))
  | 0 => ⟨fun _ _ _ _ _ r h => by simp [laws_FnExactCountByDefect.j0] at h, fun _ _ _ r h => by simp [laws_FnExactCountByDefect.j1] at h⟩
  | k + 1 => by
    obtain ⟨ih0, ih1⟩ := laws_FnExactCountByDefect.mono_l k
    refine ⟨?_, ?_⟩
    · intro y0 y1 y2 y3 y4
      unfold laws_FnExactCountByDefect.j0
      repeat' first
      | (with_reducible exact ih0 _ _ _ _ _)
      | (with_reducible exact ih1 _ _ _)
      | (with_reducible exact impl_CountByDefect.mono _ _)
      | (with_reducible exact laws_eqIntS.mono _ _ _)
      | (with_reducible exact laws_heldIntS.mono _ _ _)
      | (with_reducible exact laws_markIntS.mono _ _ _)
      | (with_reducible exact spec_CountByDefect.mono _ _)
      | (with_reducible exact LeO.refl _)
      | (with_reducible exact LeO.none _)
      | (with_reducible refine LeO.ite ?_ ?_)
      | (with_reducible refine LeO.bind ?_ (fun _ => ?_))
      | exact ih0 _ _ _ _ _
      | exact ih1 _ _ _
      | exact impl_CountByDefect.mono _ _
      | exact laws_eqIntS.mono _ _ _
      | exact laws_heldIntS.mono _ _ _
      | exact laws_markIntS.mono _ _ _
      | exact spec_CountByDefect.mono _ _
      | exact LeO.none _
      | refine LeO.ite ?_ ?_
      | refine LeO.bind ?_ (fun _ => ?_)
    · intro y0 y1 y2
      unfold laws_FnExactCountByDefect.j1
      repeat' first
      | (with_reducible exact ih0 _ _ _ _ _)
      | (with_reducible exact ih1 _ _ _)
      | (with_reducible exact impl_CountByDefect.mono _ _)
      | (with_reducible exact laws_eqIntS.mono _ _ _)
      | (with_reducible exact laws_heldIntS.mono _ _ _)
      | (with_reducible exact laws_markIntS.mono _ _ _)
      | (with_reducible exact spec_CountByDefect.mono _ _)
      | (with_reducible exact LeO.refl _)
      | (with_reducible exact LeO.none _)
      | (with_reducible refine LeO.ite ?_ ?_)
      | (with_reducible refine LeO.bind ?_ (fun _ => ?_))
      | exact ih0 _ _ _ _ _
      | exact ih1 _ _ _
      | exact impl_CountByDefect.mono _ _
      | exact laws_eqIntS.mono _ _ _
      | exact laws_heldIntS.mono _ _ _
      | exact laws_markIntS.mono _ _ _
      | exact spec_CountByDefect.mono _ _
      | exact LeO.none _
      | refine LeO.ite ?_ ?_
      | refine LeO.bind ?_ (fun _ => ?_)
theorem laws_FnExactCountByDefect.mono : ∀ a0 k, LeO (laws_FnExactCountByDefect.f k a0) (laws_FnExactCountByDefect.f (k + 1) a0) := by
  intro a0 k
  obtain ⟨ih0, ih1⟩ := laws_FnExactCountByDefect.mono_l k
  unfold laws_FnExactCountByDefect.f
  repeat' first
      | (with_reducible exact ih0 _ _ _ _ _)
      | (with_reducible exact ih1 _ _ _)
      | (with_reducible exact impl_CountByDefect.mono _ _)
      | (with_reducible exact laws_eqIntS.mono _ _ _)
      | (with_reducible exact laws_heldIntS.mono _ _ _)
      | (with_reducible exact laws_markIntS.mono _ _ _)
      | (with_reducible exact spec_CountByDefect.mono _ _)
      | (with_reducible exact LeO.refl _)
      | (with_reducible exact LeO.none _)
      | (with_reducible refine LeO.ite ?_ ?_)
      | (with_reducible refine LeO.bind ?_ (fun _ => ?_))
      | exact ih0 _ _ _ _ _
      | exact ih1 _ _ _
      | exact impl_CountByDefect.mono _ _
      | exact laws_eqIntS.mono _ _ _
      | exact laws_heldIntS.mono _ _ _
      | exact laws_markIntS.mono _ _ _
      | exact spec_CountByDefect.mono _ _
      | exact LeO.none _
      | refine LeO.ite ?_ ?_
      | refine LeO.bind ?_ (fun _ => ?_)
set_option maxHeartbeats 8000000 in
set_option maxRecDepth 100000 in
theorem laws_FnExactCountByDefect.calls (k : Nat) (a0 : Int) (r : Bool) (w : World) (h : laws_FnExactCountByDefect.f k a0 = some r) :
    Calls Try.prog 7 #[.int .i64 a0] w fun e w' => e = .returned (.bool r) ∧ Below w.heap.size w w' := by
  have HB := Aside0.mk (Below.refl w.heap.size w)
  have H : ((spec_CountByDefect.f k a0).bind fun bt510 => ((impl_CountByDefect.f k a0).bind fun bt514 => ((laws_eqIntS.f k bt514.1 bt510.1).bind fun t518 => (if t518 = true then (laws_FnExactCountByDefect.j0 k a0 bt510.1 bt510.2 bt514.1 (bt514.2 != bt510.2)) else (laws_FnExactCountByDefect.j0 k a0 bt510.1 bt510.2 bt514.1 true))))) = some r := h
  clear h
  replace H := Option.bind_eq_some_iff.mp H
  obtain ⟨⟨t510, t511⟩, A20, H⟩ := H
  replace H : ((impl_CountByDefect.f k a0).bind fun bt514 => ((laws_eqIntS.f k bt514.1 t510).bind fun t518 => (if t518 = true then (laws_FnExactCountByDefect.j0 k a0 t510 t511 bt514.1 (bt514.2 != t511)) else (laws_FnExactCountByDefect.j0 k a0 t510 t511 bt514.1 true)))) = some r := H
  have A2 := Aside0.mk A20
  clear A20
  replace H := Option.bind_eq_some_iff.mp H
  obtain ⟨⟨t514, t515⟩, A30, H⟩ := H
  replace H : ((laws_eqIntS.f k t514 t510).bind fun t518 => (if t518 = true then (laws_FnExactCountByDefect.j0 k a0 t510 t511 t514 (t515 != t511)) else (laws_FnExactCountByDefect.j0 k a0 t510 t511 t514 true))) = some r := H
  have A3 := Aside0.mk A30
  clear A30
  have HC4 := Aside0.mk H
  clear H
  go_enter Try.func7, Try.ntmps7
  go_upto_region 3 with (first | ((with_reducible refine gate_callee (f := 27) rfl ?_); refine goesL_ (some 13) rfl rfl Try.func27 (by kernel_rfl) rfl #[.int .i64 a0] rfl (by (try simp only [List.map_toArray, List.map_cons, List.map_nil]); first | done | rfl | (simp only [List.length_drop, List.length_take]; rfl)) ?_; (with_reducible refine (spec_CountByDefect.calls k a0 t510 t511 _ A2.out).mono ?_); rintro e w5 ⟨v512, rfl, ho0, hb⟩; refine ⟨_, rfl, ?_⟩; have n0_ := Aside0.mk (Kd.R_lower ho0 (below_size (by repeat (first | (with_reducible first | exact HB.out | apply below_alloc | apply pw_below_drewN | apply below_drew1) | exact HB.out)))); have n1_ := Aside0.mk (below_step (by repeat (first | (with_reducible first | exact HB.out | apply below_alloc | apply pw_below_drewN | apply below_drew1) | exact HB.out)) hb); clear HB; have HO513 := n0_; have HB := n1_; clear n0_ n1_; (try clear hb); (try clear hb2); (try clear hk); (try clear hi); (try clear ho0)) | ((with_reducible refine gate_callee (f := 28) rfl ?_); refine goesL_ (some 18) rfl rfl Try.func28 (by kernel_rfl) rfl #[.int .i64 a0] rfl (by (try simp only [List.map_toArray, List.map_cons, List.map_nil]); first | done | rfl | (simp only [List.length_drop, List.length_take]; rfl)) ?_; (with_reducible refine (impl_CountByDefect.calls k a0 t514 t515 _ A3.out).mono ?_); rintro e w6 ⟨v516, rfl, ho0, hb⟩; refine ⟨_, rfl, ?_⟩; have n0_ := Aside0.mk (Kd.R_elder' (by (with_reducible repeat (first | apply Kd.R_alloc | apply Kd.R_drewN | apply Kd.R_drew)); exact HO513.out) (Kd.R_base ho0) hb); have n1_ := Aside0.mk (Kd.R_lower (Kd.R_new' ho0 (Kd.R_lt (by (with_reducible repeat (first | apply Kd.R_alloc | apply Kd.R_drewN | apply Kd.R_drew)); exact HO513.out))) (below_size (by repeat (first | (with_reducible first | exact HB.out | apply below_alloc | apply pw_below_drewN | apply below_drew1) | exact HB.out)))); have n2_ := Aside0.mk (below_step (by repeat (first | (with_reducible first | exact HB.out | apply below_alloc | apply pw_below_drewN | apply below_drew1) | exact HB.out)) hb); clear HO513; clear HB; have HO513 := n0_; have HO517 := n1_; have HB := n2_; clear n0_ n1_ n2_; (try clear hb); (try clear hb2); (try clear hk); (try clear hi); (try clear ho0)))
  (try simp only [Act.put, List.setIfInBounds_toArray, List.set_cons_zero, List.set_cons_succ])
  go_cut [29] (fun v29 wc => ∃ (kq : Nat) (x29_3 : Bool), v29 = .bool x29_3 ∧ Aside0 (laws_FnExactCountByDefect.j0 kq a0 t510 t511 t514 x29_3 = some r) ∧ Aside0 (kq ≤ k) ∧ Aside0 (Kd.R (Kd.int .i64) 3 wc w.heap.size (fun k_ => some k_ ≠ (v516 : Value).ownBlock) v512 t510) ∧ Aside0 (Kd.R (Kd.int .i64) 3 wc w.heap.size (fun k_ => some k_ ≠ (v512 : Value).ownBlock) v516 t514) ∧ Aside0 (Below w.heap.size w wc))
  case first =>
    have H := HC4.out
    clear HC4
    replace H := Option.bind_eq_some_iff.mp H
    obtain ⟨t518, A70, H⟩ := H
    replace H : (if t518 = true then (laws_FnExactCountByDefect.j0 k a0 t510 t511 t514 (t515 != t511)) else (laws_FnExactCountByDefect.j0 k a0 t510 t511 t514 true)) = some r := H
    have A7 := Aside0.mk A70
    clear A70
    by_cases c8 : t518 = true
    · subst c8
      have H1 : (laws_FnExactCountByDefect.j0 k a0 t510 t511 t514 (t515 != t511)) = some r := by rw [if_pos rfl] at H; exact H
      clear H
      have H := H1
      clear H1
      have H' := Aside0.mk H
      clear H
      obtain ⟨Ao9, co9, eo9⟩ := Kd.R_slice HO517.out
      subst eo9
      obtain ⟨Ao10, co10, eo10⟩ := Kd.R_slice HO513.out
      subst eo10
      go_wp2_with (first | ((with_reducible refine gate_callee (f := 14) rfl ?_); refine goesL_ (some 23) rfl rfl Try.func14 (by kernel_rfl) rfl #[.slice Ao9 t514.length co9, .slice Ao10 t510.length co10] rfl (by (try simp only [List.map_toArray, List.map_cons, List.map_nil]); first | done | rfl | (simp only [List.length_drop, List.length_take]; rfl)) ?_; (with_reducible refine (laws_eqIntS.calls k _ _ t514 _ _ t510 true _ ?side1 ?side2 ?side3 ?side4 A7.out).mono ?_); (case side1 => repeat (first | exact (Kd.R_reads' HO517.out).2.2 | (with_reducible refine Kd.C_alloc ?_ _) | (with_reducible refine Kd.C_drewN ?_ _) | (with_reducible refine Kd.C_drew ?_))); (case side2 => exact (Kd.R_reads' HO517.out).2.1); (case side3 => repeat (first | exact (Kd.R_reads' HO513.out).2.2 | (with_reducible refine Kd.C_alloc ?_ _) | (with_reducible refine Kd.C_drewN ?_ _) | (with_reducible refine Kd.C_drew ?_))); (case side4 => exact (Kd.R_reads' HO513.out).2.1); rintro e w' ⟨rfl, ⟨nd, rfl⟩⟩; refine ⟨_, rfl, ?_⟩))
      go_meet
      case rel => exact ⟨_, ((t515 != t511)), (by first | rfl | (simp; done) | (simp [*]; done)), H', ⟨by first | omega | exact Nat.le_refl _⟩, ⟨by (with_reducible repeat (first | apply Kd.R_alloc | apply Kd.R_drewN | apply Kd.R_drew)); exact Kd.R_mono HO513.out (fun _ hk => hk.2)⟩, ⟨by (with_reducible repeat (first | apply Kd.R_alloc | apply Kd.R_drewN | apply Kd.R_drew)); exact Kd.R_mono HO517.out (fun _ hk => hk.2)⟩, ⟨by repeat (first | (with_reducible first | exact HB.out | apply below_alloc | apply pw_below_drewN | apply below_drew1) | exact HB.out)⟩⟩
    · replace c8 := Bool.eq_false_iff.mpr c8
      subst c8
      have H1 : (laws_FnExactCountByDefect.j0 k a0 t510 t511 t514 true) = some r := by rw [if_neg (show ¬ (false = true) by decide)] at H; exact H
      clear H
      have H := H1
      clear H1
      have H' := Aside0.mk H
      clear H
      obtain ⟨Ao11, co11, eo11⟩ := Kd.R_slice HO517.out
      subst eo11
      obtain ⟨Ao12, co12, eo12⟩ := Kd.R_slice HO513.out
      subst eo12
      go_wp2_with (first | ((with_reducible refine gate_callee (f := 14) rfl ?_); refine goesL_ (some 23) rfl rfl Try.func14 (by kernel_rfl) rfl #[.slice Ao11 t514.length co11, .slice Ao12 t510.length co12] rfl (by (try simp only [List.map_toArray, List.map_cons, List.map_nil]); first | done | rfl | (simp only [List.length_drop, List.length_take]; rfl)) ?_; (with_reducible refine (laws_eqIntS.calls k _ _ t514 _ _ t510 false _ ?side1 ?side2 ?side3 ?side4 A7.out).mono ?_); (case side1 => repeat (first | exact (Kd.R_reads' HO517.out).2.2 | (with_reducible refine Kd.C_alloc ?_ _) | (with_reducible refine Kd.C_drewN ?_ _) | (with_reducible refine Kd.C_drew ?_))); (case side2 => exact (Kd.R_reads' HO517.out).2.1); (case side3 => repeat (first | exact (Kd.R_reads' HO513.out).2.2 | (with_reducible refine Kd.C_alloc ?_ _) | (with_reducible refine Kd.C_drewN ?_ _) | (with_reducible refine Kd.C_drew ?_))); (case side4 => exact (Kd.R_reads' HO513.out).2.1); rintro e w' ⟨rfl, ⟨nd, rfl⟩⟩; refine ⟨_, rfl, ?_⟩))
      go_meet
      case rel => exact ⟨_, (true), (by first | rfl | (simp; done) | (simp [*]; done)), H', ⟨by first | omega | exact Nat.le_refl _⟩, ⟨by (with_reducible repeat (first | apply Kd.R_alloc | apply Kd.R_drewN | apply Kd.R_drew)); exact Kd.R_mono HO513.out (fun _ hk => hk.2)⟩, ⟨by (with_reducible repeat (first | apply Kd.R_alloc | apply Kd.R_drewN | apply Kd.R_drew)); exact Kd.R_mono HO517.out (fun _ hk => hk.2)⟩, ⟨by repeat (first | (with_reducible first | exact HB.out | apply below_alloc | apply pw_below_drewN | apply below_drew1) | exact HB.out)⟩⟩
  case rest =>
    clear HC4
    try clear c1
    try clear c2
    try clear p2
    try clear c7
    try clear c8
    obtain ⟨kq, x29_3, rfl, HA, HJ3, HO_3, HO_5, HB⟩ := hcut
    cases kq with
    | zero => exact absurd HA.out (by simp [laws_FnExactCountByDefect.j0])
    | succ kj3 =>
      have H := HA.out
      clear HA
      simp only [laws_FnExactCountByDefect.j0] at H
      by_cases c13 : x29_3 = true
      · subst c13
        have H1 : (some false) = some r := by rw [if_pos rfl] at H; exact H
        clear H
        have H := H1
        clear H1
        obtain rfl := Option.some.inj H
        go_wp2
        go_ret
        exact ⟨by first | rfl | (simp [errW_none, errW_some] <;> rfl) | (simp [*, errW_none, errW_some] <;> rfl), by repeat (first | (with_reducible first | exact HB.out | apply below_alloc | apply pw_below_drewN | apply below_drew1) | exact HB.out)⟩
      · replace c13 := Bool.eq_false_iff.mpr c13
        subst c13
        have H1 : ((laws_markIntS.f kj3 t514 1).bind fun bt519 => ((laws_heldIntS.f kj3 bt519.2 1).bind fun t521 => (if t521 < 0 then (some false) else (if t521 = bt519.1 then ((impl_CountByDefect.f kj3 a0).bind fun bt522 => ((laws_eqIntS.f kj3 bt522.1 t510).bind fun t526 => (if t526 = true then (laws_FnExactCountByDefect.j1 kj3 bt519.2 bt519.1 (bt522.2 != t511)) else (laws_FnExactCountByDefect.j1 kj3 bt519.2 bt519.1 true)))) else (some false))))) = some r := by rw [if_neg (show ¬ (false = true) by decide)] at H; exact H
        clear H
        have H := H1
        clear H1
        replace H := Option.bind_eq_some_iff.mp H
        obtain ⟨⟨t519, t520⟩, A140, H⟩ := H
        replace H : ((laws_heldIntS.f kj3 t520 1).bind fun t521 => (if t521 < 0 then (some false) else (if t521 = t519 then ((impl_CountByDefect.f kj3 a0).bind fun bt522 => ((laws_eqIntS.f kj3 bt522.1 t510).bind fun t526 => (if t526 = true then (laws_FnExactCountByDefect.j1 kj3 t520 t519 (bt522.2 != t511)) else (laws_FnExactCountByDefect.j1 kj3 t520 t519 true)))) else (some false)))) = some r := H
        have A14 := Aside0.mk A140
        clear A140
        replace H := Option.bind_eq_some_iff.mp H
        obtain ⟨t521, A150, H⟩ := H
        replace H : (if t521 < 0 then (some false) else (if t521 = t519 then ((impl_CountByDefect.f kj3 a0).bind fun bt522 => ((laws_eqIntS.f kj3 bt522.1 t510).bind fun t526 => (if t526 = true then (laws_FnExactCountByDefect.j1 kj3 t520 t519 (bt522.2 != t511)) else (laws_FnExactCountByDefect.j1 kj3 t520 t519 true)))) else (some false))) = some r := H
        have A15 := Aside0.mk A150
        clear A150
        by_cases c16 : t521 < 0
        · rw [if_pos c16] at H
          have c16b0 : decide (t521 < 0) = true := decide_eq_true c16
          clear c16
          obtain rfl := Option.some.inj H
          obtain ⟨Ao17, co17, eo17⟩ := Kd.R_slice HO_5.out
          subst eo17
          go_wp2_with (first | ((with_reducible refine gate_callee (f := 15) rfl ?_); refine goesL_ (some 32) rfl rfl Try.func15 (by kernel_rfl) rfl #[.slice Ao17 t514.length co17, .int .i64 1] rfl (by (try simp only [List.map_toArray, List.map_cons, List.map_nil]); first | done | rfl | (simp only [List.length_drop, List.length_take]; rfl)) ?_; (with_reducible refine (laws_markIntS.calls kj3 (fun k_ => some k_ = (.slice Ao17 t514.length co17 : Value).ownBlock) (.slice Ao17 t514.length co17) t514 1 t519 t520 w _ ?side1 ?side2 A14.out).mono ?_); (case side1 => repeat (first | (with_reducible first | exact HB.out | apply below_alloc | apply pw_below_drewN | apply below_drew1) | exact HB.out)); (case side2 => exact Kd.R_tight rfl HO_5.out); rintro e w18 ⟨rfl, hy0, hb, hkp⟩; refine ⟨_, rfl, ?_⟩; have n0_ := Aside0.mk (Kd.R_mono (ok' := fun k_ => some k_ ≠ (.slice Ao17 t514.length co17 : Value).ownBlock) (Kd.R_keptB (HO_3.out) hkp (fun k_ hk_ hs_ => (hk_) hs_)) (fun k_ hk_ => hk_.1)); have n1_ := Aside0.mk (Kd.R_reok rfl hy0 (fun k_ e_ => HO_5.out.1 k_ e_)); have n2_ := Aside0.mk (hb); clear HO_3; clear HO_5; clear HB; have HO_3 := n0_; have HO_5 := n1_; have HB := n2_; clear n0_ n1_ n2_; (try clear hb); (try clear hkp); (try clear hy0)) | ((with_reducible refine gate_callee (f := 16) rfl ?_); refine goesL_ (some 35) rfl rfl Try.func16 (by kernel_rfl) rfl #[.slice Ao17 t520.length co17, .int .i64 1] rfl (by (try simp only [List.map_toArray, List.map_cons, List.map_nil]); first | done | (rw [show t520.length = t514.length from (Kd.R_reads' HO_5.out).1.symm] <;> rfl) | rfl | (simp only [List.length_drop, List.length_take]; rfl)) ?_; (with_reducible refine (laws_heldIntS.calls kj3 _ _ t520 1 t521 _ ?side1 ?side2 A15.out).mono ?_); (case side1 => repeat (first | exact (Kd.R_reads' HO_5.out).2.2 | (with_reducible refine Kd.C_alloc ?_ _) | (with_reducible refine Kd.C_drewN ?_ _) | (with_reducible refine Kd.C_drew ?_))); (case side2 => rw [show t520.length = t514.length from (Kd.R_reads' HO_5.out).1.symm]; exact (Kd.R_reads' HO_5.out).2.1); rintro e w' ⟨rfl, ⟨nd, rfl⟩⟩; refine ⟨_, rfl, ?_⟩))
          go_ret
          exact ⟨by first | rfl | (simp [errW_none, errW_some] <;> rfl) | (simp [*, errW_none, errW_some] <;> rfl), by repeat (first | (with_reducible first | exact HB.out | apply below_alloc | apply pw_below_drewN | apply below_drew1) | exact HB.out)⟩
        · rw [if_neg c16] at H
          have c16b0 : decide (t521 < 0) = false := decide_eq_false c16
          clear c16
          by_cases c19 : t521 = t519
          · rw [if_pos c19] at H
            have c19b0 : (t521 == t519) = true := beq_iff_eq.mpr c19
            have c19b1 : (t521 != t519) = false := bne_eq_false_iff_eq.mpr c19
            clear c19
            replace H := Option.bind_eq_some_iff.mp H
            obtain ⟨⟨t522, t523⟩, A200, H⟩ := H
            replace H : ((laws_eqIntS.f kj3 t522 t510).bind fun t526 => (if t526 = true then (laws_FnExactCountByDefect.j1 kj3 t520 t519 (t523 != t511)) else (laws_FnExactCountByDefect.j1 kj3 t520 t519 true))) = some r := H
            have A20 := Aside0.mk A200
            clear A200
            have HC21 := Aside0.mk H
            clear H
            obtain ⟨Ao22, co22, eo22⟩ := Kd.R_slice HO_5.out
            subst eo22
            go_upto_region 14 with (first | ((with_reducible refine gate_callee (f := 15) rfl ?_); refine goesL_ (some 32) rfl rfl Try.func15 (by kernel_rfl) rfl #[.slice Ao22 t514.length co22, .int .i64 1] rfl (by (try simp only [List.map_toArray, List.map_cons, List.map_nil]); first | done | rfl | (simp only [List.length_drop, List.length_take]; rfl)) ?_; (with_reducible refine (laws_markIntS.calls kj3 (fun k_ => some k_ = (.slice Ao22 t514.length co22 : Value).ownBlock) (.slice Ao22 t514.length co22) t514 1 t519 t520 w _ ?side1 ?side2 A14.out).mono ?_); (case side1 => repeat (first | (with_reducible first | exact HB.out | apply below_alloc | apply pw_below_drewN | apply below_drew1) | exact HB.out)); (case side2 => exact Kd.R_tight rfl HO_5.out); rintro e w23 ⟨rfl, hy0, hb, hkp⟩; refine ⟨_, rfl, ?_⟩; have n0_ := Aside0.mk (Kd.R_mono (ok' := fun k_ => some k_ ≠ (.slice Ao22 t514.length co22 : Value).ownBlock) (Kd.R_keptB (HO_3.out) hkp (fun k_ hk_ hs_ => (hk_) hs_)) (fun k_ hk_ => hk_.1)); have n1_ := Aside0.mk (Kd.R_reok rfl hy0 (fun k_ e_ => HO_5.out.1 k_ e_)); have n2_ := Aside0.mk (hb); clear HO_3; clear HO_5; clear HB; have HO_3 := n0_; have HO_5 := n1_; have HB := n2_; clear n0_ n1_ n2_; (try clear hb); (try clear hkp); (try clear hy0)) | ((with_reducible refine gate_callee (f := 16) rfl ?_); refine goesL_ (some 35) rfl rfl Try.func16 (by kernel_rfl) rfl #[.slice Ao22 t520.length co22, .int .i64 1] rfl (by (try simp only [List.map_toArray, List.map_cons, List.map_nil]); first | done | (rw [show t520.length = t514.length from (Kd.R_reads' HO_5.out).1.symm] <;> rfl) | rfl | (simp only [List.length_drop, List.length_take]; rfl)) ?_; (with_reducible refine (laws_heldIntS.calls kj3 _ _ t520 1 t521 _ ?side1 ?side2 A15.out).mono ?_); (case side1 => repeat (first | exact (Kd.R_reads' HO_5.out).2.2 | (with_reducible refine Kd.C_alloc ?_ _) | (with_reducible refine Kd.C_drewN ?_ _) | (with_reducible refine Kd.C_drew ?_))); (case side2 => rw [show t520.length = t514.length from (Kd.R_reads' HO_5.out).1.symm]; exact (Kd.R_reads' HO_5.out).2.1); rintro e w' ⟨rfl, ⟨nd, rfl⟩⟩; refine ⟨_, rfl, ?_⟩) | ((with_reducible refine gate_callee (f := 28) rfl ?_); refine goesL_ (some 43) rfl rfl Try.func28 (by kernel_rfl) rfl #[.int .i64 a0] rfl (by (try simp only [List.map_toArray, List.map_cons, List.map_nil]); first | done | rfl | (simp only [List.length_drop, List.length_take]; rfl)) ?_; (with_reducible refine (impl_CountByDefect.calls kj3 a0 t522 t523 _ A20.out).mono ?_); rintro e w24 ⟨v524, rfl, ho0, hb⟩; refine ⟨_, rfl, ?_⟩; have n0_ := Aside0.mk (Kd.R_elder' (by (with_reducible repeat (first | apply Kd.R_alloc | apply Kd.R_drewN | apply Kd.R_drew)); exact HO_3.out) (Kd.R_base ho0) hb); have n1_ := Aside0.mk (Kd.R_elder' (by (with_reducible repeat (first | apply Kd.R_alloc | apply Kd.R_drewN | apply Kd.R_drew)); exact HO_5.out) (Kd.R_base ho0) hb); have n2_ := Aside0.mk (Kd.R_lower (Kd.R_new' (Kd.R_new' ho0 (Kd.R_lt (by (with_reducible repeat (first | apply Kd.R_alloc | apply Kd.R_drewN | apply Kd.R_drew)); exact HO_3.out))) (Kd.R_lt (by (with_reducible repeat (first | apply Kd.R_alloc | apply Kd.R_drewN | apply Kd.R_drew)); exact HO_5.out))) (below_size (by repeat (first | (with_reducible first | exact HB.out | apply below_alloc | apply pw_below_drewN | apply below_drew1) | exact HB.out)))); have n3_ := Aside0.mk (below_step (by repeat (first | (with_reducible first | exact HB.out | apply below_alloc | apply pw_below_drewN | apply below_drew1) | exact HB.out)) hb); clear HO_3; clear HO_5; clear HB; have HO_3 := n0_; have HO_5 := n1_; have HO525 := n2_; have HB := n3_; clear n0_ n1_ n2_ n3_; (try clear hb); (try clear hb2); (try clear hk); (try clear hi); (try clear ho0)))
            (try simp only [Act.put, List.setIfInBounds_toArray, List.set_cons_zero, List.set_cons_succ])
            go_cut [54] (fun v54 wc => ∃ (kq : Nat) (x54_20 : Bool), v54 = .bool x54_20 ∧ Aside0 (laws_FnExactCountByDefect.j1 kq t520 t519 x54_20 = some r) ∧ Aside0 (kq ≤ kj3) ∧ Aside0 (Kd.R (Kd.int .i64) 3 wc w.heap.size (fun _ => True) (.slice Ao22 t514.length co22) t520) ∧ Aside0 (Below w.heap.size w wc))
            case first =>
              have H := HC21.out
              clear HC21
              replace H := Option.bind_eq_some_iff.mp H
              obtain ⟨t526, A250, H⟩ := H
              replace H : (if t526 = true then (laws_FnExactCountByDefect.j1 kj3 t520 t519 (t523 != t511)) else (laws_FnExactCountByDefect.j1 kj3 t520 t519 true)) = some r := H
              have A25 := Aside0.mk A250
              clear A250
              by_cases c26 : t526 = true
              · subst c26
                have H1 : (laws_FnExactCountByDefect.j1 kj3 t520 t519 (t523 != t511)) = some r := by rw [if_pos rfl] at H; exact H
                clear H
                have H := H1
                clear H1
                have H' := Aside0.mk H
                clear H
                obtain ⟨Ao27, co27, eo27⟩ := Kd.R_slice HO525.out
                subst eo27
                obtain ⟨Ao28, co28, eo28⟩ := Kd.R_slice HO_3.out
                subst eo28
                go_wp2_with (first | ((with_reducible refine gate_callee (f := 14) rfl ?_); refine goesL_ (some 48) rfl rfl Try.func14 (by kernel_rfl) rfl #[.slice Ao27 t522.length co27, .slice Ao28 t510.length co28] rfl (by (try simp only [List.map_toArray, List.map_cons, List.map_nil]); first | done | rfl | (simp only [List.length_drop, List.length_take]; rfl)) ?_; (with_reducible refine (laws_eqIntS.calls kj3 _ _ t522 _ _ t510 true _ ?side1 ?side2 ?side3 ?side4 A25.out).mono ?_); (case side1 => repeat (first | exact (Kd.R_reads' HO525.out).2.2 | (with_reducible refine Kd.C_alloc ?_ _) | (with_reducible refine Kd.C_drewN ?_ _) | (with_reducible refine Kd.C_drew ?_))); (case side2 => exact (Kd.R_reads' HO525.out).2.1); (case side3 => repeat (first | exact (Kd.R_reads' HO_3.out).2.2 | (with_reducible refine Kd.C_alloc ?_ _) | (with_reducible refine Kd.C_drewN ?_ _) | (with_reducible refine Kd.C_drew ?_))); (case side4 => exact (Kd.R_reads' HO_3.out).2.1); rintro e w' ⟨rfl, ⟨nd, rfl⟩⟩; refine ⟨_, rfl, ?_⟩))
                go_meet
                case rel => exact ⟨_, ((t523 != t511)), (by first | rfl | (simp; done) | (simp [*]; done)), H', ⟨by have := HJ3.out; first | omega | exact Nat.le_refl _⟩, ⟨by (with_reducible repeat (first | apply Kd.R_alloc | apply Kd.R_drewN | apply Kd.R_drew)); exact Kd.R_mono HO_5.out (fun _ hk => trivial)⟩, ⟨by repeat (first | (with_reducible first | exact HB.out | apply below_alloc | apply pw_below_drewN | apply below_drew1) | exact HB.out)⟩⟩
              · replace c26 := Bool.eq_false_iff.mpr c26
                subst c26
                have H1 : (laws_FnExactCountByDefect.j1 kj3 t520 t519 true) = some r := by rw [if_neg (show ¬ (false = true) by decide)] at H; exact H
                clear H
                have H := H1
                clear H1
                have H' := Aside0.mk H
                clear H
                obtain ⟨Ao29, co29, eo29⟩ := Kd.R_slice HO525.out
                subst eo29
                obtain ⟨Ao30, co30, eo30⟩ := Kd.R_slice HO_3.out
                subst eo30
                go_wp2_with (first | ((with_reducible refine gate_callee (f := 14) rfl ?_); refine goesL_ (some 48) rfl rfl Try.func14 (by kernel_rfl) rfl #[.slice Ao29 t522.length co29, .slice Ao30 t510.length co30] rfl (by (try simp only [List.map_toArray, List.map_cons, List.map_nil]); first | done | rfl | (simp only [List.length_drop, List.length_take]; rfl)) ?_; (with_reducible refine (laws_eqIntS.calls kj3 _ _ t522 _ _ t510 false _ ?side1 ?side2 ?side3 ?side4 A25.out).mono ?_); (case side1 => repeat (first | exact (Kd.R_reads' HO525.out).2.2 | (with_reducible refine Kd.C_alloc ?_ _) | (with_reducible refine Kd.C_drewN ?_ _) | (with_reducible refine Kd.C_drew ?_))); (case side2 => exact (Kd.R_reads' HO525.out).2.1); (case side3 => repeat (first | exact (Kd.R_reads' HO_3.out).2.2 | (with_reducible refine Kd.C_alloc ?_ _) | (with_reducible refine Kd.C_drewN ?_ _) | (with_reducible refine Kd.C_drew ?_))); (case side4 => exact (Kd.R_reads' HO_3.out).2.1); rintro e w' ⟨rfl, ⟨nd, rfl⟩⟩; refine ⟨_, rfl, ?_⟩))
                go_meet
                case rel => exact ⟨_, (true), (by first | rfl | (simp; done) | (simp [*]; done)), H', ⟨by have := HJ3.out; first | omega | exact Nat.le_refl _⟩, ⟨by (with_reducible repeat (first | apply Kd.R_alloc | apply Kd.R_drewN | apply Kd.R_drew)); exact Kd.R_mono HO_5.out (fun _ hk => trivial)⟩, ⟨by repeat (first | (with_reducible first | exact HB.out | apply below_alloc | apply pw_below_drewN | apply below_drew1) | exact HB.out)⟩⟩
            case rest =>
              clear HC21
              try clear c1
              try clear c2
              try clear p2
              try clear c7
              try clear c8
              try clear c13
              try clear c14
              try clear c15
              try clear c16
              try clear c16b0
              try clear c19
              try clear c19b0
              try clear c19b1
              try clear c26
              try clear c27
              try clear c28
              try clear p2
              obtain ⟨kq, x54_20, rfl, HA, HJ20, HO_5, HB⟩ := hcut
              have hl5_20 := (Kd.R_reads' HO_5.out).1
              rw [hl5_20] at HO_5
              (try simp only [hl5_20])
              cases kq with
              | zero => exact absurd HA.out (by simp [laws_FnExactCountByDefect.j1])
              | succ kj20 =>
                have H := HA.out
                clear HA
                simp only [laws_FnExactCountByDefect.j1] at H
                by_cases c31 : x54_20 = true
                · subst c31
                  have H1 : (some false) = some r := by rw [if_pos rfl] at H; exact H
                  clear H
                  have H := H1
                  clear H1
                  obtain rfl := Option.some.inj H
                  go_wp2
                  go_ret
                  exact ⟨by first | rfl | (simp [errW_none, errW_some] <;> rfl) | (simp [*, errW_none, errW_some] <;> rfl), by repeat (first | (with_reducible first | exact HB.out | apply below_alloc | apply pw_below_drewN | apply below_drew1) | exact HB.out)⟩
                · replace c31 := Bool.eq_false_iff.mpr c31
                  subst c31
                  have H1 : ((laws_heldIntS.f kj20 t520 1).bind fun t527 => (if t527 < 0 then (some false) else (if t527 = t519 then (some true) else (some false)))) = some r := by rw [if_neg (show ¬ (false = true) by decide)] at H; exact H
                  clear H
                  have H := H1
                  clear H1
                  replace H := Option.bind_eq_some_iff.mp H
                  obtain ⟨t527, A320, H⟩ := H
                  replace H : (if t527 < 0 then (some false) else (if t527 = t519 then (some true) else (some false))) = some r := H
                  have A32 := Aside0.mk A320
                  clear A320
                  by_cases c33 : t527 < 0
                  · rw [if_pos c33] at H
                    have c33b0 : decide (t527 < 0) = true := decide_eq_true c33
                    clear c33
                    obtain rfl := Option.some.inj H
                    go_wp2_with (first | ((with_reducible refine gate_callee (f := 16) rfl ?_); refine goesL_ (some 57) rfl rfl Try.func16 (by kernel_rfl) rfl #[.slice Ao22 t520.length co22, .int .i64 1] rfl (by (try simp only [List.map_toArray, List.map_cons, List.map_nil]); first | done | rfl | (simp only [List.length_drop, List.length_take]; rfl)) ?_; (with_reducible refine (laws_heldIntS.calls kj20 _ _ t520 1 t527 _ ?side1 ?side2 A32.out).mono ?_); (case side1 => repeat (first | exact (Kd.R_reads' HO_5.out).2.2 | (with_reducible refine Kd.C_alloc ?_ _) | (with_reducible refine Kd.C_drewN ?_ _) | (with_reducible refine Kd.C_drew ?_))); (case side2 => exact (Kd.R_reads' HO_5.out).2.1); rintro e w' ⟨rfl, ⟨nd, rfl⟩⟩; refine ⟨_, rfl, ?_⟩))
                    go_ret
                    exact ⟨by first | rfl | (simp [errW_none, errW_some] <;> rfl) | (simp [*, errW_none, errW_some] <;> rfl), by repeat (first | (with_reducible first | exact HB.out | apply below_alloc | apply pw_below_drewN | apply below_drew1) | exact HB.out)⟩
                  · rw [if_neg c33] at H
                    have c33b0 : decide (t527 < 0) = false := decide_eq_false c33
                    clear c33
                    by_cases c34 : t527 = t519
                    · rw [if_pos c34] at H
                      have c34b0 : (t527 == t519) = true := beq_iff_eq.mpr c34
                      have c34b1 : (t527 != t519) = false := bne_eq_false_iff_eq.mpr c34
                      clear c34
                      obtain rfl := Option.some.inj H
                      go_wp2_with (first | ((with_reducible refine gate_callee (f := 16) rfl ?_); refine goesL_ (some 57) rfl rfl Try.func16 (by kernel_rfl) rfl #[.slice Ao22 t520.length co22, .int .i64 1] rfl (by (try simp only [List.map_toArray, List.map_cons, List.map_nil]); first | done | rfl | (simp only [List.length_drop, List.length_take]; rfl)) ?_; (with_reducible refine (laws_heldIntS.calls kj20 _ _ t520 1 t527 _ ?side1 ?side2 A32.out).mono ?_); (case side1 => repeat (first | exact (Kd.R_reads' HO_5.out).2.2 | (with_reducible refine Kd.C_alloc ?_ _) | (with_reducible refine Kd.C_drewN ?_ _) | (with_reducible refine Kd.C_drew ?_))); (case side2 => exact (Kd.R_reads' HO_5.out).2.1); rintro e w' ⟨rfl, ⟨nd, rfl⟩⟩; refine ⟨_, rfl, ?_⟩))
                      go_ret
                      exact ⟨by first | rfl | (simp [errW_none, errW_some] <;> rfl) | (simp [*, errW_none, errW_some] <;> rfl), by repeat (first | (with_reducible first | exact HB.out | apply below_alloc | apply pw_below_drewN | apply below_drew1) | exact HB.out)⟩
                    · rw [if_neg c34] at H
                      have c34b0 : (t527 == t519) = false := beq_eq_false_iff_ne.mpr c34
                      have c34b1 : (t527 != t519) = true := bne_iff_ne.mpr c34
                      obtain rfl := Option.some.inj H
                      go_wp2_with (first | ((with_reducible refine gate_callee (f := 16) rfl ?_); refine goesL_ (some 57) rfl rfl Try.func16 (by kernel_rfl) rfl #[.slice Ao22 t520.length co22, .int .i64 1] rfl (by (try simp only [List.map_toArray, List.map_cons, List.map_nil]); first | done | rfl | (simp only [List.length_drop, List.length_take]; rfl)) ?_; (with_reducible refine (laws_heldIntS.calls kj20 _ _ t520 1 t527 _ ?side1 ?side2 A32.out).mono ?_); (case side1 => repeat (first | exact (Kd.R_reads' HO_5.out).2.2 | (with_reducible refine Kd.C_alloc ?_ _) | (with_reducible refine Kd.C_drewN ?_ _) | (with_reducible refine Kd.C_drew ?_))); (case side2 => exact (Kd.R_reads' HO_5.out).2.1); rintro e w' ⟨rfl, ⟨nd, rfl⟩⟩; refine ⟨_, rfl, ?_⟩))
                      go_ret
                      exact ⟨by first | rfl | (simp [errW_none, errW_some] <;> rfl) | (simp [*, errW_none, errW_some] <;> rfl), by repeat (first | (with_reducible first | exact HB.out | apply below_alloc | apply pw_below_drewN | apply below_drew1) | exact HB.out)⟩
          · rw [if_neg c19] at H
            have c19b0 : (t521 == t519) = false := beq_eq_false_iff_ne.mpr c19
            have c19b1 : (t521 != t519) = true := bne_iff_ne.mpr c19
            obtain rfl := Option.some.inj H
            obtain ⟨Ao35, co35, eo35⟩ := Kd.R_slice HO_5.out
            subst eo35
            go_wp2_with (first | ((with_reducible refine gate_callee (f := 15) rfl ?_); refine goesL_ (some 32) rfl rfl Try.func15 (by kernel_rfl) rfl #[.slice Ao35 t514.length co35, .int .i64 1] rfl (by (try simp only [List.map_toArray, List.map_cons, List.map_nil]); first | done | rfl | (simp only [List.length_drop, List.length_take]; rfl)) ?_; (with_reducible refine (laws_markIntS.calls kj3 (fun k_ => some k_ = (.slice Ao35 t514.length co35 : Value).ownBlock) (.slice Ao35 t514.length co35) t514 1 t519 t520 w _ ?side1 ?side2 A14.out).mono ?_); (case side1 => repeat (first | (with_reducible first | exact HB.out | apply below_alloc | apply pw_below_drewN | apply below_drew1) | exact HB.out)); (case side2 => exact Kd.R_tight rfl HO_5.out); rintro e w36 ⟨rfl, hy0, hb, hkp⟩; refine ⟨_, rfl, ?_⟩; have n0_ := Aside0.mk (Kd.R_mono (ok' := fun k_ => some k_ ≠ (.slice Ao35 t514.length co35 : Value).ownBlock) (Kd.R_keptB (HO_3.out) hkp (fun k_ hk_ hs_ => (hk_) hs_)) (fun k_ hk_ => hk_.1)); have n1_ := Aside0.mk (Kd.R_reok rfl hy0 (fun k_ e_ => HO_5.out.1 k_ e_)); have n2_ := Aside0.mk (hb); clear HO_3; clear HO_5; clear HB; have HO_3 := n0_; have HO_5 := n1_; have HB := n2_; clear n0_ n1_ n2_; (try clear hb); (try clear hkp); (try clear hy0)) | ((with_reducible refine gate_callee (f := 16) rfl ?_); refine goesL_ (some 35) rfl rfl Try.func16 (by kernel_rfl) rfl #[.slice Ao35 t520.length co35, .int .i64 1] rfl (by (try simp only [List.map_toArray, List.map_cons, List.map_nil]); first | done | (rw [show t520.length = t514.length from (Kd.R_reads' HO_5.out).1.symm] <;> rfl) | rfl | (simp only [List.length_drop, List.length_take]; rfl)) ?_; (with_reducible refine (laws_heldIntS.calls kj3 _ _ t520 1 t521 _ ?side1 ?side2 A15.out).mono ?_); (case side1 => repeat (first | exact (Kd.R_reads' HO_5.out).2.2 | (with_reducible refine Kd.C_alloc ?_ _) | (with_reducible refine Kd.C_drewN ?_ _) | (with_reducible refine Kd.C_drew ?_))); (case side2 => rw [show t520.length = t514.length from (Kd.R_reads' HO_5.out).1.symm]; exact (Kd.R_reads' HO_5.out).2.1); rintro e w' ⟨rfl, ⟨nd, rfl⟩⟩; refine ⟨_, rfl, ?_⟩))
            go_ret
            exact ⟨by first | rfl | (simp [errW_none, errW_some] <;> rfl) | (simp [*, errW_none, errW_some] <;> rfl), by repeat (first | (with_reducible first | exact HB.out | apply below_alloc | apply pw_below_drewN | apply below_drew1) | exact HB.out)⟩

/-- THE ONE PURE STATEMENT of laws_FnExactCountByDefect: yours. -/
def laws_FnExactCountByDefect.Pure : Prop := ∀ (a0 : Int), (Lit.int .i64 a0).wf = true → ∃ k, laws_FnExactCountByDefect.f k a0 = some true
theorem laws_FnExactCountByDefect.walk (P : laws_FnExactCountByDefect.Pure) (a0 : Int) (w : World) (w0 : (Lit.int .i64 a0).wf = true) :
    Calls Try.prog 7 #[.int .i64 a0] w fun e w' => e = .returned (.bool true) ∧ Below w.heap.size w w' := by
  obtain ⟨k, h⟩ := P a0 w0
  refine (laws_FnExactCountByDefect.calls k a0 true w h).mono ?_
  rintro e w' ⟨rfl, hd⟩
  exact ⟨rfl, hd⟩
end Go.Proofs.Ytfclfjengfmjaaa.G
namespace Go.Proofs.Ytfclfjengfmjaaa.G
open Go.RowKit Go.Proofs.YtfclfjengfmjaaaW.PrintWords Go.Proofs.YtfclfjengfmjaaaW.PrintLast Go.Proofs.YtfclfjengfmjaaaW.PrintMore
set_option linter.unusedVariables false
set_option linter.unusedSimpArgs false
theorem wrap_id {x : Int} (h1 : -9223372036854775808 ≤ x) (h2 : x ≤ 9223372036854775807) : wrap64 x = x := by unfold wrap64; omega
theorem wrap_next {i n : Nat} (h : i < n) (hn : n ≤ 4611686018427387904) : wrap64 ((i : Int) + 1) = ((i + 1 : Nat) : Int) := by rw [wrap_id (by omega) (by omega)]; rfl
theorem succ_of {d k : Nat} (h : d < k) : ∃ m, k = m + 1 := ⟨k - 1, by omega⟩
theorem rd_nat (l : List Int) (i : Nat) : rd l (i : Int) = l.getD i 0 := by unfold rd; rw [Int.toNat_natCast]
theorem drop_getD {l : List Int} {i : Nat} (h : i < l.length) : l.drop i = l.getD i 0 :: l.drop (i + 1) := by
  rw [List.drop_eq_getElem_cons h, List.getD_eq_getElem?_getD, List.getElem?_eq_getElem h]; rfl
theorem Ev.of_all {α : Type} {g : Nat → Option α} {r : α} (K : Nat) (h : ∀ k, K < k → g k = some r) : Ev g r := ⟨K + 1, fun k hk => h k (by omega)⟩
/-- A loop that counts up: its state at each count, what is left behind the last one. -/
theorem Ev.up {σ ρ : Type} (n : Nat) (S : Nat → σ) (L : Nat → σ → Int → Option ρ) (r : ρ)
    (hstep : ∀ i, i < n → Ev (fun k => L k (S (i + 1)) ((i + 1 : Nat) : Int)) r → Ev (fun k => L k (S i) (i : Int)) r)
    (hend : Ev (fun k => L k (S n) (n : Int)) r) : ∀ m, m ≤ n → Ev (fun k => L k (S m) (m : Int)) r := by
  intro m hm
  have key : ∀ d m, m + d = n → Ev (fun k => L k (S m) (m : Int)) r := by
    intro d
    induction d with
    | zero => intro m hd; obtain rfl : m = n := by omega
              exact hend
    | succ d ih => intro m hd; exact hstep m (by omega) (ih (m + 1) (by omega))
  exact key (n - m) m (by omega)
theorem Ev.up0 {σ ρ : Type} (n : Nat) (S : Nat → σ) (L : Nat → σ → Int → Option ρ) (r : ρ)
    (hstep : ∀ i, i < n → Ev (fun k => L k (S (i + 1)) ((i + 1 : Nat) : Int)) r → Ev (fun k => L k (S i) (i : Int)) r)
    (hend : Ev (fun k => L k (S n) (n : Int)) r) : Ev (fun k => L k (S 0) 0) r := Ev.up n S L r hstep hend 0 (Nat.zero_le _)
/-- A round that needs no rounds of others. -/
theorem Ev.one {α : Type} {g f : Nat → Option α} {r : α} (k : Ev f r) (h : ∀ k, g (k + 1) = f k) : Ev g r := Ev.step h k
theorem Ev.end_ {α : Type} {g : Nat → Option α} {r : α} (h : ∀ k, g (k + 1) = some r) : Ev g r := Ev.step h (Ev.now r)
theorem Ev.eq {α : Type} {g : Nat → Option α} {r : α} (h : ∀ k, g k = some r) : Ev g r := ⟨0, fun k _ => h k⟩
theorem eqIntS_l0 (a b : List Int) (hl : a.length = b.length) (hn : a.length ≤ 4611686018427387904) : ∀ (d k i : Nat), i + d = a.length → d < k → laws_eqIntS.l0 k a b i = some (decide (a.drop i = b.drop i)) := by
  intro d
  induction d with
  | zero =>
    intro k i hd hk
    obtain ⟨k, rfl⟩ := succ_of hk
    rw [laws_eqIntS.l0, if_neg (by omega), List.drop_of_length_le (by omega), List.drop_of_length_le (by omega)]; simp
  | succ d ih =>
    intro k i hd hk
    obtain ⟨k, rfl⟩ := succ_of hk
    rw [laws_eqIntS.l0, if_pos (by omega), if_pos (by omega), if_pos (by omega), wrap_next (n := a.length) (by omega) hn, rd_nat, rd_nat, ih k (i + 1) (by omega) (by omega), drop_getD (l := a) (i := i) (by omega), drop_getD (l := b) (i := i) (by omega)]
    by_cases e : a.getD i 0 = b.getD i 0
    · rw [if_pos e, e]; simp
    · rw [if_neg e]; simp only [List.cons.injEq, e, false_and, decide_false]
theorem eqIntS_ev (a b : List Int) (hn : a.length ≤ 4611686018427387904) : Ev (fun k => laws_eqIntS.f k a b) (decide (a = b)) := by
  refine Ev.of_all a.length fun k hk => ?_
  unfold laws_eqIntS.f
  by_cases hl : a.length = b.length
  · rw [if_pos (by omega), show (0 : Int) = ((0 : Nat) : Int) from rfl, eqIntS_l0 a b hl hn a.length k 0 (by omega) hk]; rfl
  · rw [if_neg (by omega)]
    have : a ≠ b := fun e => hl (by rw [e])
    simp [this]
/-- Numbers that rise from m on. -/
def rise (n : Nat) (m : Int) : List Int := (List.range n).map fun (j : Nat) => m + j
theorem getD_rise (n : Nat) (m : Int) (j : Nat) (h : j < n) : (rise n m).getD j 0 = m + j := by
  simp [rise, List.getD_eq_getElem?_getD, List.getElem?_map, List.getElem?_range h]
theorem markIntS_l0 (n : Nat) (hn : n ≤ 1152921504606846976) (m : Int) (hm : 0 ≤ m ∧ m ≤ 1152921504606846976) : ∀ (d k i : Nat) (a : List Int), a.length = n → i + d = n → d < k → a.take i = rise i m → laws_markIntS.l0 k a (m + i) i = some (m + n, rise n m) := by
  intro d
  induction d with
  | zero =>
    intro k i a hl hd hk ht
    obtain ⟨k, rfl⟩ := succ_of hk
    obtain rfl : i = n := by omega
    rw [List.take_of_length_le (by omega)] at ht
    rw [laws_markIntS.l0, if_neg (by omega), ht]
  | succ d ih =>
    intro k i a hl hd hk ht
    obtain ⟨k, rfl⟩ := succ_of hk
    rw [laws_markIntS.l0, if_pos (by omega), if_pos (by omega), wrap_next (n := n) (by omega) (by omega), Int.toNat_natCast, wrap_id (x := m + i + 1) (by omega) (by omega)]
    have := ih k (i + 1) (a.set i (m + i)) (by simpa using hl) (by omega) (by omega) (by
      apply List.ext_getElem
      · simp [rise]; omega
      · intro j h1 h2
        simp only [List.length_take, List.length_set] at h1
        simp only [List.getElem_take, List.getElem_set, rise, List.getElem_map, List.getElem_range]
        by_cases e : i = j
        · subst e; simp
        · have hj : j < i := by omega
          have : (a.take i)[j]? = (rise i m)[j]? := by rw [ht]
          rw [List.getElem?_eq_getElem (by simp; omega), List.getElem?_eq_getElem (by simp [rise]; omega)] at this
          simp [rise] at this
          simp [e, this])
    rw [show m + (i : Int) + 1 = m + ((i + 1 : Nat) : Int) by push_cast; omega]
    exact this
theorem markIntS_ev (a : List Int) (m : Int) (hm : 0 ≤ m ∧ m ≤ 1152921504606846976) (hn : a.length ≤ 1152921504606846976) : Ev (fun k => laws_markIntS.f k a m) (m + a.length, rise a.length m) := by
  refine Ev.of_all a.length fun k hk => ?_
  unfold laws_markIntS.f
  have := markIntS_l0 a.length hn m hm a.length k 0 a rfl (by omega) hk (by simp [rise])
  simpa using this
theorem heldIntS_l0 (n : Nat) (hn : n ≤ 1152921504606846976) (m : Int) (hm : 0 ≤ m ∧ m ≤ 1152921504606846976) : ∀ (d k i : Nat), i + d = n → d < k → laws_heldIntS.l0 k (rise n m) (m + i) i = some (m + n) := by
  intro d
  have hl : (rise n m).length = n := by simp [rise]
  induction d with
  | zero =>
    intro k i hd hk
    obtain ⟨k, rfl⟩ := succ_of hk
    obtain rfl : i = n := by omega
    rw [laws_heldIntS.l0, if_neg (by omega)]
  | succ d ih =>
    intro k i hd hk
    obtain ⟨k, rfl⟩ := succ_of hk
    rw [laws_heldIntS.l0, if_pos (by omega), if_pos (by omega), rd_nat, getD_rise _ _ _ (by omega), if_pos rfl, wrap_next (n := n) (by omega) (by omega), wrap_id (x := m + i + 1) (by omega) (by omega)]
    rw [show m + (i : Int) + 1 = m + ((i + 1 : Nat) : Int) by push_cast; omega]
    exact ih k (i + 1) (by omega) (by omega)
theorem heldIntS_ev (n : Nat) (m : Int) (hm : 0 ≤ m ∧ m ≤ 1152921504606846976) (hn : n ≤ 1152921504606846976) : Ev (fun k => laws_heldIntS.f k (rise n m) m) (m + n) := by
  refine Ev.of_all n fun k hk => ?_
  unfold laws_heldIntS.f
  have := heldIntS_l0 n hn m hm n k 0 (by omega) hk
  simpa using this
theorem l1In_eq (a b c : Int) : spec_l1In.f a b c = some (decide (b ≤ a ∧ a ≤ c)) := by
  unfold spec_l1In.f
  split
  · rename_i h; congr 1; rw [Bool.eq_iff_iff]; simp; omega
  · rename_i h; congr 1; rw [Bool.eq_iff_iff]; simp; omega
theorem nneg (n : Nat) : ((1 : Int) + (n : Int) < 0) = False := by simp; omega
def Bytes (l : List Int) : Prop := ∀ x ∈ l, 0 ≤ x ∧ x ≤ 255
theorem Bytes.get {l : List Int} (h : Bytes l) (j : Nat) : 0 ≤ l.getD j 0 ∧ l.getD j 0 ≤ 255 := by
  rcases Nat.lt_or_ge j l.length with hj | hj
  · exact h _ (by rw [List.getD_eq_getElem?_getD, List.getElem?_eq_getElem hj]; exact List.getElem_mem hj)
  · rw [List.getD_eq_getElem?_getD, List.getElem?_eq_none hj]; simp
end Go.Proofs.Ytfclfjengfmjaaa.G
namespace ParkT
/-- The first free place from a on, of d places. -/
def fwdF (S : Nat → Bool) : Nat → Nat → Option Nat
  | 0, _ => none
  | d + 1, a => if S a = false then some a else fwdF S d (a + 1)
theorem fwdF_some {S : Nat → Bool} : ∀ {d a p : Nat}, fwdF S d a = some p → a ≤ p ∧ p < a + d ∧ S p = false ∧ ∀ q, a ≤ q → q < p → S q = true
  | 0, a, p, h => by simp [fwdF] at h
  | d + 1, a, p, h => by
    unfold fwdF at h
    split at h
    · obtain rfl := Option.some.inj h
      exact ⟨Nat.le_refl _, by omega, ‹_›, fun q h1 h2 => by omega⟩
    · rename_i hs
      obtain ⟨h1, h2, h3, h4⟩ := fwdF_some h
      refine ⟨by omega, by omega, h3, fun q hq1 hq2 => ?_⟩
      rcases Nat.lt_or_ge a q with h5 | h5
      · exact h4 q (by omega) hq2
      · have : q = a := by omega
        rw [this]; simpa using hs
/-- How many of the places a, .., a + d - 1 are taken. -/
def cnt (S : Nat → Bool) : Nat → Nat → Nat
  | 0, _ => 0
  | d + 1, a => (if S a = true then 1 else 0) + cnt S d (a + 1)
def put (S : Nat → Bool) (p : Nat) : Nat → Bool := fun q => decide (q = p) || S q
/-- No more places are taken from any place on. -/
def Dom (N : Nat) (S' S : Nat → Bool) : Prop := ∀ j, j ≤ N → cnt S' (N - j) j ≤ cnt S (N - j) j
theorem Dom.refl (N : Nat) (S : Nat → Bool) : Dom N S S := fun _ _ => Nat.le_refl _
def driveS (N : Nat) : (Nat → Bool) → List Nat → List (Option Nat)
  | _, [] => []
  | S, a :: l => match fwdF S (N - a) a with
    | none => none :: driveS N S l
    | some p => some p :: driveS N (put S p) l
def fails (l : List (Option Nat)) : Nat := (l.filter fun x => x.isNone).length
theorem fails_cons_none (l : List (Option Nat)) : fails (none :: l) = fails l + 1 := by simp [fails]
theorem fails_cons_some (p : Nat) (l : List (Option Nat)) : fails (some p :: l) = fails l := by simp [fails]
end ParkT
namespace Go.Proofs.Ytfclfjengfmjaaa.G
open Go.RowKit Go.Proofs.YtfclfjengfmjaaaW.PrintWords Go.Proofs.YtfclfjengfmjaaaW.PrintLast Go.Proofs.YtfclfjengfmjaaaW.PrintMore
set_option linter.unusedVariables false
set_option linter.unusedSimpArgs false
def valP : Option Nat → Int
  | none => -1
  | some p => p
def occ (x : List Int) (q : Nat) : Bool := decide ((q : Int) ∈ x)
theorem occ_none (x : List Int) : occ (x ++ [-1]) = occ x := by
  funext q
  unfold occ
  have : ¬ ((q : Int) = -1) := by omega
  simp [this]
theorem occ_some (x : List Int) (p : Nat) : occ (x ++ [(p : Int)]) = ParkT.put (occ x) p := by
  funext q
  unfold occ ParkT.put
  have : ((q : Int) = (p : Int)) ↔ q = p := by omega
  simp [this, Bool.or_comm]
theorem l1Has_l0 (x : List Int) (a : Int) (hn : x.length ≤ 4611686018427387904) : ∀ (d i : Nat), i + d = x.length → Ev (fun k => spec_l1Has.l0 k a x (x.length : Int) i) (decide (a ∈ x.drop i)) := by
  intro d
  induction d with
  | zero =>
    intro i hd
    refine Ev.end_ fun k => ?_
    rw [spec_l1Has.l0, if_neg (by omega), List.drop_eq_nil_of_le (by omega)]
    simp
  | succ d ih =>
    intro i hd
    have e1 := drop_getD (l := x) (i := i) (by omega)
    by_cases h : x.getD i 0 = a
    · refine Ev.end_ fun k => ?_
      rw [spec_l1Has.l0, if_pos (by omega), if_pos (by omega), if_pos (by omega), rd_nat, if_pos h, e1, h, decide_eq_true (List.mem_cons_self)]
    · refine Ev.one (f := fun k => spec_l1Has.l0 k a x (x.length : Int) ((i + 1 : Nat) : Int)) ?_ fun k => ?_
      · have := ih (i + 1) (by omega)
        have e : decide (a ∈ x.drop i) = decide (a ∈ x.drop (i + 1)) := by
          rw [e1]
          have : ¬ a = x.getD i 0 := fun e => h e.symm
          simp only [List.mem_cons, this, false_or]
        rw [e]; exact this
      · rw [spec_l1Has.l0, if_pos (by omega), if_pos (by omega), if_pos (by omega), rd_nat, if_neg h, wrap_next (n := x.length) (by omega) hn]
theorem l1Has_ev (x : List Int) (a : Int) (hn : x.length ≤ 4611686018427387904) : Ev (fun k => spec_l1Has.f k x a) (decide (a ∈ x)) := by
  unfold spec_l1Has.f
  have := l1Has_l0 x a hn x.length 0 (by omega)
  simpa using this
theorem paDrive_l1 (N : Nat) (hN : N ≤ 1000) (x l : List Int) (hx : x.length ≤ 1000) (len : Int) (i : Int) (r : List Int) : ∀ (d a : Nat), a + d = N → Ev (fun k => spec_paDrive.l0 k (N : Int) (x ++ [valP (ParkT.fwdF (occ x) d a)]) l len (wrap64 (i + 1))) r → Ev (fun k => spec_paDrive.l1 k (N : Int) x (a : Int) l len i) r := by
  intro d
  induction d with
  | zero =>
    intro a ha h
    refine Ev.one h fun k => ?_
    rw [spec_paDrive.l1, if_neg (by omega), if_pos (by omega), if_pos (by omega)]
    rfl
  | succ d ih =>
    intro a ha h
    rw [ParkT.fwdF] at h
    refine Ev.step (f := fun k => (spec_l1Has.f k x (a : Int)).bind fun t369 => (if t369 = true then (spec_paDrive.l1 k (N : Int) x ((a + 1 : Nat) : Int) l len i) else (spec_paDrive.l0 k (N : Int) (x ++ [(a : Int)]) l len (wrap64 (i + 1))))) (fun k => by rw [spec_paDrive.l1, if_pos (by omega), wrap_next (n := N) (by omega) (by omega), if_neg (show ¬ ((a : Int) ≥ (N : Int)) by omega), if_pos (by omega)]) ?_
    refine Ev.bind (l1Has_ev x _ (by omega)) ?_
    by_cases hh : occ x a = true
    · rw [if_neg (by rw [hh]; simp)] at h
      have e : decide ((a : Int) ∈ x) = true := hh
      simp only [e, if_true]
      exact ih (a + 1) (by omega) h
    · rw [if_pos (by simpa using hh)] at h
      have e : decide ((a : Int) ∈ x) = false := by simpa [occ] using hh
      simp only [e, Bool.false_eq_true, if_false]
      exact h
def natL (l : List Int) : List Nat := l.map Int.toNat
theorem paDrive_l0 (l : List Int) (N : Nat) (hN : N ≤ 1000) (hl : l.length ≤ 900) (hr : ∀ j, j < l.length → 0 ≤ l.getD j 0 ∧ l.getD j 0 ≤ N) : ∀ (d i : Nat) (x : List Int), i + d = l.length → x.length ≤ i → Ev (fun k => spec_paDrive.l0 k (N : Int) x l (l.length : Int) i) (x ++ (ParkT.driveS N (occ x) (natL (l.drop i))).map valP) := by
  intro d
  induction d with
  | zero =>
    intro i x hd hx
    refine Ev.end_ fun k => ?_
    rw [spec_paDrive.l0, if_neg (by omega), List.drop_eq_nil_of_le (by omega)]
    simp [natL, ParkT.driveS]
  | succ d ih =>
    intro i x hd hx
    have hi : i < l.length := by omega
    have hri := hr i hi
    obtain ⟨a, ha⟩ : ∃ a : Nat, l.getD i 0 = a := ⟨(l.getD i 0).toNat, by omega⟩
    refine Ev.one (f := fun k => spec_paDrive.l1 k (N : Int) x (a : Int) l (l.length : Int) (i : Int)) ?_ fun k => by rw [spec_paDrive.l0, if_pos (by omega), if_pos (by omega), if_pos (by omega), rd_nat, ha]
    refine paDrive_l1 N hN x l (by omega) _ _ _ (N - a) a (by omega) ?_
    rw [wrap_next (n := l.length) hi (by omega)]
    have := ih (i + 1) (x ++ [valP (ParkT.fwdF (occ x) (N - a) a)]) (by omega) (by simp; omega)
    have e : x ++ (ParkT.driveS N (occ x) (natL (l.drop i))).map valP = x ++ [valP (ParkT.fwdF (occ x) (N - a) a)] ++ (ParkT.driveS N (occ (x ++ [valP (ParkT.fwdF (occ x) (N - a) a)])) (natL (l.drop (i + 1)))).map valP := by
      rw [drop_getD hi, ha]
      show x ++ (ParkT.driveS N (occ x) ((a : Int).toNat :: natL (l.drop (i + 1)))).map valP = _
      rw [Int.toNat_natCast, ParkT.driveS]
      cases hf : ParkT.fwdF (occ x) (N - a) a with
      | none => simp [valP, occ_none]
      | some p => simp [valP, occ_some]
    rw [e]
    exact this
def taken (x : List Bool) (q : Nat) : Bool := x.getD q false
theorem taken_set {x : List Bool} {p : Nat} (hp : p < x.length) : taken (x.set p true) = ParkT.put (taken x) p := by
  funext q
  show (x.set p true).getD q false = (decide (q = p) || x.getD q false)
  rw [List.getD_eq_getElem?_getD, List.getD_eq_getElem?_getD, List.getElem?_set]
  by_cases e : p = q
  · subst e; simp [hp]
  · have : ¬ q = p := fun h => e h.symm
    simp [e, this]
theorem own_eq (q : List Int) (h : q.length < 17592186044416) : spec_l1Own.f q = some q := by
  unfold spec_l1Own.f
  simp only [Option.bind_some, List.length_nil, Nat.zero_add, h, if_true, List.nil_append]
theorem between_eq (a b c : Int) : impl_between.f a b c = some (decide (b ≤ a ∧ a ≤ c)) := by
  unfold impl_between.f
  by_cases h : a ≥ b
  · rw [if_pos h]; congr 1; simp; omega
  · rw [if_neg h]; congr 1; simp; omega
theorem paDrive_ev (l : List Int) (N : Nat) (hN : N ≤ 1000) (hl : l.length ≤ 900) (hr : ∀ j, j < l.length → 0 ≤ l.getD j 0 ∧ l.getD j 0 ≤ N) : Ev (fun k => spec_paDrive.f k l (N : Int)) ((ParkT.driveS N (fun _ => false) (natL l)).map valP) := by
  unfold spec_paDrive.f
  have := paDrive_l0 l N hN hl hr l.length 0 [] (by omega) (by simp)
  have eo : occ [] = fun _ => false := by funext q; simp [occ]
  rw [eo] at this
  simpa using this
theorem taken_none (S : Nat) : taken (List.replicate S false) = fun _ => false := by
  funext q
  unfold taken
  rw [List.getD_eq_getElem?_getD, List.getElem?_replicate]
  split <;> rfl
theorem Ev.same {α : Type} {g f : Nat → Option α} {r : α} (h : ∀ k, g k = f k) (e : Ev f r) : Ev g r := by
  have : g = f := funext h
  rw [this]; exact e
def allL (n : Nat) : Nat → List Int → List (List Int)
  | 0, p => [p]
  | d + 1, p => (List.range n).flatMap fun (x : Nat) => allL n d (p ++ [(x : Int)])
theorem flat_len {α : Type} (f : Nat → List α) (M : Nat) (h : ∀ x, (f x).length = M) : ∀ q, ((List.range q).flatMap f).length = q * M
  | 0 => by simp
  | q + 1 => by
    rw [List.range_succ, List.flatMap_append, List.length_append, flat_len f M h q, Nat.add_mul]
    simp [h]
theorem allL_len (n : Nat) : ∀ (d : Nat) (p : List Int), (allL n d p).length = n ^ d
  | 0, p => by simp [allL]
  | d + 1, p => by
    rw [allL, flat_len _ (n ^ d) (fun x => allL_len n d _), Nat.pow_succ, Nat.mul_comm]
theorem flat_succ {α : Type} (f : Nat → List α) (q : Nat) : (List.range (q + 1)).flatMap f = (List.range q).flatMap f ++ f q := by
  rw [List.range_succ, List.flatMap_append]; simp
theorem pow_small {n d : Nat} (hn : n ≤ 5) (hd : d ≤ 5) : n ^ d ≤ 3125 := by
  have h1 : n ^ d ≤ 5 ^ d := Nat.pow_le_pow_left hn d
  have h2 : 5 ^ d ≤ 5 ^ 5 := Nat.pow_le_pow_right (by omega) hd
  have : (5 : Nat) ^ 5 = 3125 := by decide
  omega
theorem loAll_ev (n : Nat) (hn : n ≤ 5) : ∀ (d : Nat) (p : List Int), p.length + d = n → Ev (fun k => spec_loAll.f k p (n : Int)) (allL n d p) := by
  intro d
  induction d with
  | zero =>
    intro p hp
    refine Ev.end_ fun k => ?_
    rw [spec_loAll.f, if_pos (by omega), own_eq p (by omega), Option.bind_some]
    rfl
  | succ d ih =>
    intro p hp
    have hlp : ∀ x, (allL n d (p ++ [((x : Nat) : Int)])).length = n ^ d := fun x => allL_len n d _
    have hM := pow_small hn (show d ≤ 5 by omega)
    have hup := Ev.up0 n (fun q => (List.range q).flatMap fun (x : Nat) => allL n d (p ++ [(x : Int)])) (fun k s q => spec_loAll.l0 k p (n : Int) s q) (allL n (d + 1) p) (fun i hi h => ?_) (Ev.end_ fun k => ?_)
    · refine Ev.one hup fun k => ?_
      rw [spec_loAll.f, if_neg (by omega)]
      rfl
    · refine Ev.step (f := fun k => (spec_loAll.f k (p ++ [(i : Int)]) (n : Int)).bind fun t424 => (if ((List.range i).flatMap fun (x : Nat) => allL n d (p ++ [(x : Int)])).length + t424.length < 5864062014805 then (spec_loAll.l0 k p (n : Int) (((List.range i).flatMap fun (x : Nat) => allL n d (p ++ [(x : Int)])) ++ t424) (wrap64 ((i : Int) + 1))) else none)) (fun k => by
        rw [spec_loAll.l0, if_pos (by omega), own_eq p (by omega), Option.bind_some, if_pos (by omega)]) ?_
      refine Ev.bind (ih (p ++ [(i : Int)]) (by simp; omega)) ?_
      have hb : i * n ^ d ≤ 5 * 3125 := Nat.mul_le_mul (by omega) hM
      rw [wrap_next (n := n) hi (by omega)]
      simp only [show ((List.range i).flatMap fun (x : Nat) => allL n d (p ++ [(x : Int)])).length + (allL n d (p ++ [(i : Int)])).length < 5864062014805 by rw [flat_len _ (n ^ d) hlp, hlp]; omega, if_true]
      rw [flat_succ] at h
      exact h
    · rw [spec_loAll.l0, if_neg (by omega)]
      rfl
theorem digI_front (n : Nat) (hn : 0 < n) (x : Nat) (hx : x < n) : ∀ (m j : Nat), j < n ^ m → digI n (m + 1) (x * n ^ m + j) = (x : Int) :: digI n m j
  | 0, j, hj => by
    rw [Nat.pow_zero] at hj
    obtain rfl : j = 0 := by omega
    simp [digI, Nat.mod_eq_of_lt hx]
  | m + 1, j, hj => by
    have hj2 : j / n < n ^ m := by rw [Nat.div_lt_iff_lt_mul hn]; exact Nat.pow_succ .. ▸ hj
    have e1 : (x * n ^ (m + 1) + j) / n = x * n ^ m + j / n := by
      rw [Nat.pow_succ, ← Nat.mul_assoc, Nat.mul_comm _ n, Nat.mul_add_div hn]
    have e2 : (x * n ^ (m + 1) + j) % n = j % n := by
      rw [Nat.pow_succ, ← Nat.mul_assoc, Nat.mul_comm _ n, Nat.mul_add_mod]
    rw [digI, e1, e2, digI_front n hn x hx m (j / n) hj2, digI]
    rfl
theorem range_mul {α : Type} (f : Nat → α) (M : Nat) : ∀ (n : Nat), (List.range (n * M)).map f = (List.range n).flatMap fun x => (List.range M).map fun j => f (x * M + j)
  | 0 => by simp
  | n + 1 => by
    rw [Nat.add_mul, Nat.one_mul, List.range_add, List.map_append, range_mul f M n, flat_succ, List.map_map]
    rfl
theorem flat_congr {α : Type} (f g : Nat → List α) : ∀ (n : Nat), (∀ x, x < n → f x = g x) → (List.range n).flatMap f = (List.range n).flatMap g
  | 0, _ => rfl
  | n + 1, h => by rw [flat_succ, flat_succ, flat_congr f g n (fun x hx => h x (by omega)), h n (by omega)]
theorem allL_eq (n : Nat) (hn : 0 < n) : ∀ (d : Nat) (p : List Int), allL n d p = (List.range (n ^ d)).map fun j => p ++ digI n d j
  | 0, p => by simp [allL, digI, List.range_succ]
  | d + 1, p => by
    rw [allL, Nat.pow_succ, Nat.mul_comm, range_mul]
    refine flat_congr _ _ n fun x hx => ?_
    rw [allL_eq n hn d]
    refine List.map_congr_left fun j hj => ?_
    rw [digI_front n hn x hx d j (List.mem_range.1 hj)]
    simp
theorem digI_mem (n : Nat) (hn : 0 < n) : ∀ (m q : Nat), ∀ x ∈ digI n m q, 0 ≤ x ∧ x < (n : Int)
  | 0, q, x, h => by simp [digI] at h
  | m + 1, q, x, h => by
    rw [digI] at h
    rcases List.mem_append.1 h with h | h
    · exact digI_mem n hn m _ x h
    · rw [List.mem_singleton] at h
      have := Nat.mod_lt q hn
      omega
theorem digI_get (n : Nat) (hn : 0 < n) (m q : Nat) (j : Nat) (hj : j < (digI n m q).length) : 0 ≤ (digI n m q).getD j 0 ∧ (digI n m q).getD j 0 < (n : Int) := by
  have := digI_mem n hn m q _ (List.getElem_mem hj)
  rw [List.getD_eq_getElem?_getD, List.getElem?_eq_getElem hj]
  exact this
theorem isTried_eq (a0 : Int) : impl_isTried.f a0 = some (decide (1 ≤ a0 ∧ a0 ≤ 5)) := by unfold impl_isTried.f; rw [between_eq]; rfl
theorem some_l1 (N : Nat) (hN : N ≤ 1000) (x : List Bool) (hx : x.length = N) (o l : List Int) (ho : o.length ≤ 1000) (len i : Int) (r : List Int) :
    ∀ (d a : Nat), a + d = N → (match ParkT.fwdF (taken x) d a with | none => Ev (fun k => impl_driveSome.l0 k (N : Int) x (o ++ [-1]) l len (wrap64 (i + 1))) r | some p => Ev (fun k => impl_driveSome.l0 k (N : Int) (x.set p true) (o ++ [(p : Int)]) l len (wrap64 (i + 1))) r) → Ev (fun k => impl_driveSome.l1 k (N : Int) x o (a : Int) l len i) r := by
  intro d
  induction d with
  | zero =>
    intro a ha h
    rw [ParkT.fwdF] at h
    exact Ev.one h fun k => by rw [impl_driveSome.l1, if_neg (by omega), if_pos (by omega), if_pos (by omega)]
  | succ d ih =>
    intro a ha h
    rw [ParkT.fwdF] at h
    have hrd : rdOf false x (a : Int) = taken x a := by simp [rdOf, taken]
    by_cases hh : taken x a = true
    · rw [if_neg (by rw [hh]; simp)] at h
      refine Ev.one (ih (a + 1) (by omega) h) fun k => ?_
      rw [impl_driveSome.l1, if_pos (by omega), if_pos (by omega), if_pos (by omega), if_pos (by rw [hrd]; exact hh), wrap_next (n := N) (by omega) (by omega)]
    · rw [if_pos (by simpa using hh)] at h
      simp only at h
      refine Ev.one h fun k => ?_
      rw [impl_driveSome.l1, if_pos (by omega), if_pos (by omega), if_pos (by omega), if_neg (by rw [hrd]; exact hh), if_neg (by omega), if_pos (by omega), Int.toNat_natCast]
theorem some_l0 (l : List Int) (N : Nat) (hN : N ≤ 1000) (hl : l.length ≤ 900) (hr : ∀ j, j < l.length → 0 ≤ l.getD j 0 ∧ l.getD j 0 ≤ N) : ∀ (d i : Nat) (x : List Bool) (o : List Int), i + d = l.length → x.length = N → o.length ≤ i → Ev (fun k => impl_driveSome.l0 k (N : Int) x o l (l.length : Int) (i : Int)) (o ++ (ParkT.driveS N (taken x) (natL (l.drop i))).map valP) := by
  intro d
  induction d with
  | zero =>
    intro i x o hd hx ho
    refine Ev.end_ fun k => ?_
    rw [impl_driveSome.l0, if_neg (by omega), List.drop_eq_nil_of_le (by omega)]
    simp [natL, ParkT.driveS]
  | succ d ih =>
    intro i x o hd hx ho
    have hi : i < l.length := by omega
    have hri := hr i hi
    obtain ⟨a, ha⟩ : ∃ a : Nat, l.getD i 0 = a := ⟨(l.getD i 0).toNat, by omega⟩
    refine Ev.one (f := fun k => impl_driveSome.l1 k (N : Int) x o (a : Int) l (l.length : Int) (i : Int)) ?_ fun k => by rw [impl_driveSome.l0, if_pos (by omega), if_pos (by omega), if_pos (by omega), rd_nat, ha]
    have e0 : natL (l.drop i) = a :: natL (l.drop (i + 1)) := by
      rw [drop_getD hi, ha]
      show (a : Int).toNat :: natL (l.drop (i + 1)) = _
      rw [Int.toNat_natCast]
    rw [e0, ParkT.driveS]
    refine some_l1 N hN x hx o l (by omega) _ _ _ (N - a) a (by omega) ?_
    cases hf : ParkT.fwdF (taken x) (N - a) a with
    | none =>
      simp only
      rw [wrap_next (n := l.length) hi (by omega)]
      have := ih (i + 1) x (o ++ [-1]) (by omega) hx (by simp; omega)
      simpa [valP] using this
    | some p =>
      have hp := ParkT.fwdF_some hf
      simp only
      rw [wrap_next (n := l.length) hi (by omega)]
      have := ih (i + 1) (x.set p true) (o ++ [(p : Int)]) (by omega) (by simpa using hx) (by simp; omega)
      rw [taken_set (by omega)] at this
      simpa [valP] using this
/-- The place of each car, -1 for those that fail. -/
def plsS (N : Nat) (l : List Int) : List Int := (ParkT.driveS N (fun _ => false) (natL l)).map valP
theorem driveS_len (N : Nat) : ∀ (l : List Nat) (S : Nat → Bool), (ParkT.driveS N S l).length = l.length
  | [], _ => rfl
  | a :: l, S => by
    rw [ParkT.driveS]
    cases ParkT.fwdF S (N - a) a <;> simp [driveS_len N l]
theorem plsS_len (N : Nat) (l : List Int) : (plsS N l).length = l.length := by
  unfold plsS
  rw [List.length_map, driveS_len]
  simp [natL]
theorem driveSome_ev (l : List Int) (N : Nat) (hN : N ≤ 1000) (hl : l.length ≤ 900) (hr : ∀ j, j < l.length → 0 ≤ l.getD j 0 ∧ l.getD j 0 ≤ N) : Ev (fun k => impl_driveSome.f k l (N : Int)) (plsS N l) := by
  unfold impl_driveSome.f
  simp only [show (0 : Int) ≤ (N : Int) by omega, Int.toNat_natCast, show N ≤ 281474976710656 by omega, if_true]
  have := some_l0 l N hN hl hr l.length 0 (List.replicate N false) [] (by omega) (by simp) (by simp)
  rw [taken_none] at this
  simpa [plsS] using this
/-- How many cars fail. -/
def defI (N : Nat) (l : List Int) : Nat := (plsS N l).countP negP
theorem impl_defect_ev (l : List Int) (N : Nat) (hN : N ≤ 1000) (hl : l.length ≤ 900) (hr : ∀ j, j < l.length → 0 ≤ l.getD j 0 ∧ l.getD j 0 ≤ N) : Ev (fun k => impl_defect.f k l (N : Int)) ((defI N l : Nat) : Int) := by
  unfold impl_defect.f
  exact Ev.bind (driveSome_ev l N hN hl hr) (Ev.now _)
theorem loDefect_l0 (R : List Int) (hR : R.length ≤ 1000) : Ev (fun k => spec_loDefect.l0 k 0 R (R.length : Int) 0) ((R.countP negP : Nat) : Int) := by
  have := Ev.up0 R.length (fun q => ((R.take q).countP negP : Nat)) (fun k (s : Nat) q => spec_loDefect.l0 k (s : Int) R (R.length : Int) q) ((R.countP negP : Nat) : Int) (fun q hq h => Ev.one h fun k => ?_) (Ev.end_ fun k => ?_)
  · simpa using this
  · have hs := countP_snoc negP R q hq
    have hle : (R.take q).countP negP ≤ q := Nat.le_trans List.countP_le_length (by simp; omega)
    rw [spec_loDefect.l0, if_pos (by omega), if_pos (by omega), if_pos (by omega), rd_nat, wrap_next (n := R.length) hq (by omega), hs]
    by_cases hn : R.getD q 0 < 0
    · have e : negP (R.getD q 0) = true := decide_eq_true hn
      rw [if_pos hn, if_pos e, wrap_id (by omega) (by omega)]
    · have e : negP (R.getD q 0) = false := decide_eq_false hn
      rw [if_neg hn, if_neg (by rw [e]; decide), Int.add_zero]
  · rw [spec_loDefect.l0, if_neg (by omega), List.take_length]
theorem loDefect_ev (l : List Int) (N : Nat) (hN : N ≤ 1000) (hl : l.length ≤ 900) (hr : ∀ j, j < l.length → 0 ≤ l.getD j 0 ∧ l.getD j 0 ≤ N) : Ev (fun k => spec_loDefect.f k l (N : Int)) ((defI N l : Nat) : Int) := by
  unfold spec_loDefect.f defI
  have h := paDrive_ev l N hN hl hr
  refine Ev.bind h ?_
  exact loDefect_l0 (plsS N l) (by rw [plsS_len]; omega)
theorem neg_fails : ∀ (L : List (Option Nat)), (L.map valP).countP negP = ParkT.fails L
  | [] => rfl
  | none :: L => by
    rw [List.map_cons, List.countP_cons, neg_fails L, ParkT.fails_cons_none]; rfl
  | some p :: L => by
    have : negP (valP (some p)) = false := decide_eq_false (by simp only [valP]; omega)
    rw [List.map_cons, List.countP_cons, neg_fails L, ParkT.fails_cons_some, this]; rfl
theorem fails_le : ∀ (L : List (Option Nat)), ParkT.fails L ≤ L.length := fun L => by unfold ParkT.fails; exact List.length_filter_le _ _
/-- The first car parks. -/
theorem defI_lt (N : Nat) (l : List Int) (hl : 0 < l.length) (h0 : 0 ≤ l.getD 0 0 ∧ l.getD 0 0 < N) : defI N l < l.length := by
  unfold defI plsS
  rw [neg_fails]
  cases l with
  | nil => simp at hl
  | cons x l =>
    simp only [List.getD_cons_zero] at h0
    have hx : x.toNat < N := by omega
    show ParkT.fails (ParkT.driveS N (fun _ => false) (x.toNat :: natL l)) < _
    rw [ParkT.driveS]
    have hf : ParkT.fwdF (fun _ => false) (N - x.toNat) x.toNat = some x.toNat := by
      obtain ⟨d, hd⟩ : ∃ d, N - x.toNat = d + 1 := ⟨N - x.toNat - 1, by omega⟩
      rw [hd, ParkT.fwdF, if_pos rfl]
    rw [hf, ParkT.fails_cons_some]
    have := fails_le (ParkT.driveS N (ParkT.put (fun _ => false) x.toNat) (natL l))
    rw [driveS_len] at this
    simp only [natL, List.length_map] at this
    simp only [List.length_cons]
    exact Nat.lt_succ_of_le this
/-- How many of the first j lists have each defect. -/
def dval (n : Nat) : Nat → List Int
  | 0 => List.replicate n 0
  | j + 1 => (dval n j).set (defI n (digI n n j)) (wrap64 (rd (dval n j) (defI n (digI n n j) : Nat) + 1))
theorem dval_len (n : Nat) : ∀ j, (dval n j).length = n
  | 0 => by simp [dval]
  | j + 1 => by rw [dval, List.length_set, dval_len n j]
theorem def_lt (n j : Nat) (hn : 1 ≤ n) : defI n (digI n n j) < n := by
  have hl := digI_len n n j
  have h := defI_lt n (digI n n j) (by omega) (digI_get n (by omega) n j 0 (by omega))
  omega
theorem dig_le (n j : Nat) (hn : 1 ≤ n) (q : Nat) (hq : q < (digI n n j).length) : 0 ≤ (digI n n j).getD q 0 ∧ (digI n n j).getD q 0 ≤ (n : Int) := by
  have := digI_get n (by omega) n j q hq
  omega
theorem cntD_ev (n : Nat) (hn : 1 ≤ n) (hn5 : n ≤ 5) : ∀ j, Ev (fun k => cntD k n j) (dval n j)
  | 0 => Ev.eq fun k => rfl
  | j + 1 => by
    have hd := impl_defect_ev (digI n n j) n (by omega) (by rw [digI_len]; omega) (dig_le n j hn)
    have hlt := def_lt n j hn
    refine Ev.same (f := fun k => (cntD k n j).bind fun o => (impl_defect.f k (digI n n j) (n : Int)).bind fun d => if 0 ≤ d ∧ d < (n : Int) then some (o.set d.toNat (wrap64 (rd o d + 1))) else none) (fun k => rfl) ?_
    refine Ev.bind (cntD_ev n hn hn5 j) (Ev.bind hd ?_)
    simp only [show (0 : Int) ≤ ((defI n (digI n n j) : Nat) : Int) ∧ ((defI n (digI n n j) : Nat) : Int) < (n : Int) from ⟨by omega, by omega⟩, and_self, if_true, Int.toNat_natCast]
    exact Ev.now _
theorem spec_CBD_l0 (n : Nat) (hn : 1 ≤ n) (hn5 : n ≤ 5) (LL : List (List Int)) (hL : LL = (List.range (n ^ n)).map fun j => digI n n j) : ∀ (d j : Nat), j + d = n ^ n → Ev (fun k => spec_CountByDefect.l0 k (n : Int) (dval n j) LL (LL.length : Int) (j : Int)) (dval n (n ^ n), true) := by
  have hlen : LL.length = n ^ n := by rw [hL]; simp
  have hM := pow_small hn5 hn5
  intro d
  induction d with
  | zero =>
    intro j hd
    obtain rfl : j = n ^ n := by omega
    refine Ev.end_ fun k => ?_
    rw [spec_CountByDefect.l0, if_neg (by omega)]
  | succ d ih =>
    intro j hd
    have hrd : rd_L3 LL (j : Int) = digI n n j := by
      unfold rd_L3
      rw [Int.toNat_natCast, hL, List.getD_eq_getElem?_getD, List.getElem?_map, List.getElem?_range (by omega)]; rfl
    have hlt := def_lt n j hn
    have hdl := dval_len n j
    refine Ev.step (f := fun k => (spec_loDefect.f k (digI n n j) (n : Int)).bind fun t485 => (if 0 ≤ t485 then (if t485 < ((dval n j).length : Int) then (spec_CountByDefect.l0 k (n : Int) ((dval n j).set (t485 : Int).toNat (wrap64 ((rd (dval n j) t485) + 1))) LL (LL.length : Int) (wrap64 ((j : Int) + 1))) else (none)) else (none))) (fun k => by
      rw [spec_CountByDefect.l0, if_pos (by omega), if_pos (by omega), if_pos (by omega), hrd]) ?_
    refine Ev.bind (loDefect_ev (digI n n j) n (by omega) (by rw [digI_len]; omega) (dig_le n j hn)) ?_
    simp only [show (0 : Int) ≤ ((defI n (digI n n j) : Nat) : Int) by omega, show ((defI n (digI n n j) : Nat) : Int) < ((dval n j).length : Int) by omega, if_true, Int.toNat_natCast]
    rw [wrap_next (n := n ^ n) (by omega) (by omega)]
    exact ih (j + 1) (by omega)
def cdP (a0 : Int) : List Int × Bool := if 1 ≤ a0 ∧ a0 ≤ 5 then (dval a0.toNat (a0.toNat ^ a0.toNat), true) else ([], false)
theorem cdP_len (a0 : Int) : (cdP a0).1.length ≤ 5 := by
  unfold cdP
  split
  · rw [dval_len]; omega
  · simp
theorem impl_CountByDefect_ev (a0 : Int) : Ev (fun k => impl_CountByDefect.f k a0) (cdP a0) := by
  unfold impl_CountByDefect.f cdP
  simp only [isTried_eq, Option.bind_some, decide_eq_true_eq]
  by_cases h1 : 1 ≤ a0 ∧ a0 ≤ 5
  · simp only [h1, and_self, if_true]
    exact Ev.bind (cntD_ev a0.toNat (by omega) (by omega) _) (Ev.now _)
  · simp only [h1, if_false]; exact Ev.now _
theorem spec_CountByDefect_ev (a0 : Int) : Ev (fun k => spec_CountByDefect.f k a0) (cdP a0) := by
  unfold spec_CountByDefect.f cdP
  simp only [l1In_eq, Option.bind_some, decide_eq_true_eq]
  by_cases h1 : 1 ≤ a0 ∧ a0 ≤ 5
  · simp only [h1, and_self, if_true, show (0 : Int) ≤ a0 by omega, show a0.toNat ≤ 35184372088832 by omega]
    obtain ⟨n, rfl⟩ : ∃ n : Nat, a0 = n := ⟨a0.toNat, by omega⟩
    refine Ev.bind (loAll_ev n (by omega) n [] (by simp)) ?_
    rw [Int.toNat_natCast]
    exact spec_CBD_l0 n (by omega) (by omega) _ (by rw [allL_eq n (by omega)]; simp) (n ^ n) 0 (by omega)
  · simp only [h1, if_false]; exact Ev.now _
end Go.Proofs.Ytfclfjengfmjaaa.G
namespace Go.Proofs.Ytfclfjengfmjaaa.Pure
open Go.RowKit Go.Proofs.Ytfclfjengfmjaaa.G Go.Proofs.YtfclfjengfmjaaaW.PrintWords Go.Proofs.YtfclfjengfmjaaaW.PrintLast
set_option linter.unusedVariables false
set_option linter.unusedSimpArgs false
theorem FnExactCountByDefect : laws_FnExactCountByDefect.Pure := by
  intro a0 hw_a0
  refine Ev.rounds ?_
  unfold laws_FnExactCountByDefect.f
  have hv0 := cdP_len a0
  refine Ev.bind (spec_CountByDefect_ev a0) ?_
  refine Ev.bind (impl_CountByDefect_ev a0) ?_
  refine Ev.bind (eqIntS_ev _ _ (by omega)) ?_
  simp only [decide_true, if_true]
  (try simp only [bne_self_eq_false, Bool.false_eq_true, if_false, if_true])
  refine Ev.step (fun k => by rw [laws_FnExactCountByDefect.j0, if_neg (by simp)]) ?_
  refine Ev.bind (markIntS_ev _ 1 (by omega) (by omega)) ?_
  refine Ev.bind (heldIntS_ev _ 1 (by omega) (by omega)) ?_
  simp only [nneg, if_false, if_true]
  refine Ev.bind (impl_CountByDefect_ev a0) ?_
  refine Ev.bind (eqIntS_ev _ _ (by omega)) ?_
  simp only [decide_true, if_true]
  (try simp only [bne_self_eq_false, Bool.false_eq_true, if_false, if_true])
  refine Ev.step (fun k => by rw [laws_FnExactCountByDefect.j1, if_neg (by simp)]) ?_
  refine Ev.bind (heldIntS_ev _ 1 (by omega) (by omega)) ?_
  simp only [nneg, if_false, if_true]
  exact Ev.now _
end Go.Proofs.Ytfclfjengfmjaaa.Pure
namespace Go.Proofs.Ytfclfjengfmjaaa.fnExactCountByDefect
open Go.ChangeShapes Go.WideShapes Go.ChangeAt Go.RowKit
open Go.ChangeMaps (open_string shut_string)
set_option linter.unusedVariables false
theorem own : ownKnob Try.prog.godebug = none := by kernel_rfl
set_option maxRecDepth 100000 in
theorem lifted (os : Os) (started : os.Started) (H : Type) (enc : TypeId × Value → H) :
    ReturnsInHanded {} Try.checked os 7 .any (Rows.fnExactCountByDefectSpec.pre6 enc Try.prog Try.f7 Rows.fnExactCountByDefectRow.domain false) (Rows.fnExactCountByDefectSpec.post enc Try.prog Try.f7 false true false false) := by
  refine returnsInHanded_of_change_sized (C := Try.checked) own started (by kernel_rfl) Try.func7
    (ChangeSpec.witness6 (enc := enc) (C := Try.checked) false ⟨#[], #[.int .i64 0], []⟩ 8 (by kernel_rfl) (by kernel_rfl) (by kernel_rfl) (by kernel_rfl)) ?_
  intro W base args ds gs before hval0 hW hcnd hsz0 _
  have hsz : (DataW.weightsEach Try.prog (Try.f7.params.toList ++ Rows.fnExactCountByDefectSpec.plain.varTypes Try.prog) (ds ++ gs)).all (· ≤ reachBytes) = true := hsz0
  have hval : ∀ (j : Nat) t v, Try.f7.params[j]? = some t → args[j]? = some v → Value.okWide Try.prog W .any base t v := hval0
  have hW' := hW
  obtain ⟨p, q, hA0, hV, rfl, hfz, hnd⟩ := hW
  have hA : DataW.TrodAll enc Try.prog W 0 (fun _ => true) true Try.f7.params.toList args.toList ds p := hA0
  rw [Try.params7] at hA hval hsz
  obtain ⟨v0, vs0, d0, ds0, p0, q0, hargs, rfl, rfl, h0, r0⟩ := trodAll_cons hA
  obtain ⟨rfl, rfl, rfl⟩ := trodAll_nil r0
  obtain rfl : args = #[v0] := by cases args; simp_all
  obtain ⟨rfl, rfl⟩ := trodVars_none hV
  obtain ⟨a0, rfl, rfl, rfl, w0⟩ := open_int Try.underlying3 (hval 0 3 v0 rfl rfl) h0
  clear hA0 hval0 hsz0 hsz
  refine (G.laws_FnExactCountByDefect.walk Pure.FnExactCountByDefect a0 W w0).mono fun e W' ⟨he, bel⟩ => ?_
  subst he
  exact ⟨_, rfl, _, _, _, [], _, [], hW', trodAll_mk1 (shut_bool Try.underlying4 _), (trodAll_cons_mk (shut_int Try.underlying3 w0) trodAll_mk0), rfl, bel.frame _, fun h => by cases h⟩
theorem over : Rows.fnExactCountByDefectRow.holds Try.pinned (OpenSpec.ofChange Rows.fnExactCountByDefectSpec) :=
  OpenClaim.holds_of_wide 7 Try.f7 rfl rfl rfl rfl rfl rfl rfl ⟨rfl, rfl, rfl, rfl, rfl⟩ rfl rfl rfl rfl rfl (by kernel_rfl) Try.func7 (by kernel_rfl)
    (of_decide_eq_true (by kernel_rfl)) (by unfold Func.isWrapper; first | (rw [if_pos (by decide +kernel)]; kernel_rfl) | (rw [if_neg (by decide +kernel)]; exact ⟨rfl, rfl⟩))
    (fun os started H enc _ => lifted os started H enc)
theorem proved : Rows.FnExactCountByDefectSaid := over
#print axioms proved
end Go.Proofs.Ytfclfjengfmjaaa.fnExactCountByDefect
namespace Go.Proofs.Ytfclfjengfmjaaa
/-- The row, under a short name, for the claim. -/
theorem fnExactCountByDefect_holds : Rows.FnExactCountByDefectSaid := fnExactCountByDefect.proved
end Go.Proofs.Ytfclfjengfmjaaa
