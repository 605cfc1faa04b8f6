/- The law FnCarsThatLookBack: part 3 of the printed functions and the facts on them that its row leans on (merged by this session's slim.py). -/
import Derived.Test.YtfclfjengfmjaaaZFnCarsThatLookBack2
namespace Go.Proofs.Ytfclfjengfmjaaa.G
open Go.RowKit Go.Proofs.YtfclfjengfmjaaaW.PrintWords Go.Proofs.YtfclfjengfmjaaaW.PrintLast Go.Proofs.YtfclfjengfmjaaaW.PrintMore
attribute [local go_sem] max2_int min2_int max_two min_two max_three min_three max_four min_four   -- for this text's walks alone
set_option linter.unusedVariables false
set_option linter.unusedSimpArgs false
/-! ### spec_LeastBack: function 36 -/
def spec_LeastBack.l0 : Nat → List Int → Int → Int → Option (Int × Bool)
  | 0, _, _, _ => none
  | k + 1, x0, x1, x6 => if x6 ≤ 8 then ((spec_loBack.f k x0 x1 x6).bind fun t626 => ((spec_l1Has.f k t626 (-1)).bind fun t629 => (if t629 = true then (spec_LeastBack.l0 k x0 x1 (wrap64 (x6 + 1))) else (some (x6, true))))) else (some (0, false))
def spec_LeastBack.f (k : Nat) (l0 : List Int) (a1 : Int) : Option (Int × Bool) := (spec_paGood.f k l0 a1).bind fun t625 => (if t625 = true then (spec_LeastBack.l0 k l0 a1 0) else (some (0, false)))
theorem spec_LeastBack.mono_l : ∀ k, (∀ y0 y1 y2, LeO (spec_LeastBack.l0 k y0 y1 y2) (spec_LeastBack.l0 (k + 1) y0 y1 y2))
  | 0 => fun _ _ _ r h => by simp [spec_LeastBack.l0] at h
  | k + 1 => by
    have ih0 := spec_LeastBack.mono_l k
    · intro y0 y1 y2
      unfold spec_LeastBack.l0
      repeat' first
      | (with_reducible exact ih0 _ _ _)
      | (with_reducible exact spec_l1Has.mono _ _ _)
      | (with_reducible exact spec_loBack.mono _ _ _ _)
      | (with_reducible exact spec_paGood.mono _ _ _)
      | (with_reducible exact LeO.refl _)
      | (with_reducible exact LeO.none _)
      | (with_reducible refine LeO.ite ?_ ?_)
      | (with_reducible refine LeO.bind ?_ (fun _ => ?_))
      | exact ih0 _ _ _
      | exact spec_l1Has.mono _ _ _
      | exact spec_loBack.mono _ _ _ _
      | exact spec_paGood.mono _ _ _
      | exact LeO.none _
      | refine LeO.ite ?_ ?_
      | refine LeO.bind ?_ (fun _ => ?_)
theorem spec_LeastBack.mono : ∀ a0 a1 k, LeO (spec_LeastBack.f k a0 a1) (spec_LeastBack.f (k + 1) a0 a1) := by
  intro a0 a1 k
  have ih0 := spec_LeastBack.mono_l k
  unfold spec_LeastBack.f
  repeat' first
      | (with_reducible exact ih0 _ _ _)
      | (with_reducible exact spec_l1Has.mono _ _ _)
      | (with_reducible exact spec_loBack.mono _ _ _ _)
      | (with_reducible exact spec_paGood.mono _ _ _)
      | (with_reducible exact LeO.refl _)
      | (with_reducible exact LeO.none _)
      | (with_reducible refine LeO.ite ?_ ?_)
      | (with_reducible refine LeO.bind ?_ (fun _ => ?_))
      | exact ih0 _ _ _
      | exact spec_l1Has.mono _ _ _
      | exact spec_loBack.mono _ _ _ _
      | exact spec_paGood.mono _ _ _
      | exact LeO.none _
      | refine LeO.ite ?_ ?_
      | refine LeO.bind ?_ (fun _ => ?_)
set_option maxHeartbeats 8000000 in
set_option maxRecDepth 100000 in
theorem spec_LeastBack.calls (k : Nat) (A0 : Option Addr) (c0 : Nat) (l0 : List Int) (a1 : Int) (r1 : Int) (r2 : Bool) (w : World) (hr0 : Kd.C (Kd.int .i64) w A0 l0.length l0) (hc0 : l0.length ≤ c0) (h : spec_LeastBack.f k l0 a1 = some (r1, r2)) :
    Calls Try.prog 36 #[.slice A0 l0.length c0, .int .i64 a1] w fun e w' => e = .returned (.tuple #[.int .i64 r1, .bool r2]) ∧ Below w.heap.size w w' := by
  have HR0 := Aside0.mk hr0
  have HC0 := Aside0.mk hc0
  clear hr0 hc0
  have HB := Aside0.mk (Below.refl w.heap.size w)
  have H : ((spec_paGood.f k l0 a1).bind fun t625 => (if t625 = true then (spec_LeastBack.l0 k l0 a1 0) else (some (0, false)))) = some (r1, r2) := h
  clear h
  replace H := Option.bind_eq_some_iff.mp H
  obtain ⟨t625, A30, H⟩ := H
  replace H : (if t625 = true then (spec_LeastBack.l0 k l0 a1 0) else (some (0, false))) = some (r1, r2) := H
  have A3 := Aside0.mk A30
  clear A30
  by_cases c4 : t625 = true
  · subst c4
    have H1 : (spec_LeastBack.l0 k l0 a1 0) = some (r1, r2) := by rw [if_pos rfl] at H; exact H
    clear H
    have H := H1
    clear H1
    have H' := Aside0.mk H
    clear H
    go_enter Try.func36, Try.ntmps36
    go_wp2_with (first | ((with_reducible refine gate_callee (f := 86) rfl ?_); refine goesL_ (some 9) rfl rfl Try.func86 (by kernel_rfl) rfl #[.slice A0 l0.length c0, .int .i64 a1] rfl (by (try simp only [List.map_toArray, List.map_cons, List.map_nil]); first | done | rfl | (simp only [List.length_drop, List.length_take]; rfl)) ?_; (with_reducible refine (spec_paGood.calls k _ _ l0 a1 true _ ?side1 ?side2 A3.out).mono ?_); (case side1 => repeat (first | exact HR0.out | (with_reducible refine Kd.C_alloc ?_ _) | (with_reducible refine Kd.C_drewN ?_ _) | (with_reducible refine Kd.C_drew ?_))); (case side2 => exact HC0.out); rintro e w' ⟨rfl, ⟨nd, rfl⟩⟩; refine ⟨_, rfl, ?_⟩))
    go_loopg [6] k (fun kq v6 w' => ∃ (x6_1 : Int), v6 = .int .i64 x6_1 ∧ Aside0 (spec_LeastBack.l0 kq l0 a1 x6_1 = some (r1, r2)) ∧ Aside0 (kq ≤ k) ∧ Aside0 (Below w.heap.size w w'))
    case atStart => exact ⟨(0), (by first | rfl | (simp; done) | (simp [*]; done)), H', ⟨Nat.le_refl _⟩, ⟨by repeat (first | (with_reducible first | exact HB.out | apply below_alloc | apply pw_below_drewN | apply below_drew1) | exact HB.out)⟩⟩
    case round =>
      clear H'
      try clear p2
      try clear c3
      try clear c4
      obtain ⟨x6_1, rfl, HA, HK1, HB⟩ := hrel
      cases gk with
      | zero => exact absurd HA.out (by simp [spec_LeastBack.l0])
      | succ k1 =>
        have H := HA.out
        clear HA
        simp only [spec_LeastBack.l0] at H
        by_cases c5 : x6_1 ≤ 8
        · rw [if_pos c5] at H
          have c5b0 : decide (x6_1 ≤ 8) = true := decide_eq_true c5
          clear c5
          replace H := Option.bind_eq_some_iff.mp H
          obtain ⟨t626, A60, H⟩ := H
          replace H : ((spec_l1Has.f k1 t626 (-1)).bind fun t629 => (if t629 = true then (spec_LeastBack.l0 k1 l0 a1 (wrap64 (x6_1 + 1))) else (some (x6_1, true)))) = some (r1, r2) := H
          have A6 := Aside0.mk A60
          clear A60
          replace H := Option.bind_eq_some_iff.mp H
          obtain ⟨t629, A70, H⟩ := H
          replace H : (if t629 = true then (spec_LeastBack.l0 k1 l0 a1 (wrap64 (x6_1 + 1))) else (some (x6_1, true))) = some (r1, r2) := H
          have A7 := Aside0.mk A70
          clear A70
          by_cases c8 : t629 = true
          · subst c8
            have H1 : (spec_LeastBack.l0 k1 l0 a1 (wrap64 (x6_1 + 1))) = some (r1, r2) := by rw [if_pos rfl] at H; exact H
            clear H
            have H := H1
            clear H1
            have H' := Aside0.mk H
            clear H
            go_wp2_with (first | ((with_reducible refine gate_callee (f := 75) rfl ?_); refine goesL_ (some 18) rfl rfl Try.func75 (by kernel_rfl) rfl #[.slice A0 l0.length c0, .int .i64 a1, .int .i64 x6_1] rfl (by (try simp only [List.map_toArray, List.map_cons, List.map_nil]); first | done | rfl | (simp only [List.length_drop, List.length_take]; rfl)) ?_; (with_reducible refine (spec_loBack.calls k1 _ _ l0 a1 x6_1 t626 _ ?side1 ?side2 A6.out).mono ?_); (case side1 => repeat (first | exact (Kd.C_below HR0.out HB.out) | (with_reducible refine Kd.C_alloc ?_ _) | (with_reducible refine Kd.C_drewN ?_ _) | (with_reducible refine Kd.C_drew ?_))); (case side2 => exact HC0.out); rintro e w9 ⟨v627, rfl, ho0, hb⟩; refine ⟨_, rfl, ?_⟩; have n0_ := Aside0.mk (Kd.R_lower ho0 (below_size (by repeat (first | (with_reducible first | exact HB.out | apply below_alloc | apply pw_below_drewN | apply below_drew1) | exact HB.out)))); have n1_ := Aside0.mk (below_step (by repeat (first | (with_reducible first | exact HB.out | apply below_alloc | apply pw_below_drewN | apply below_drew1) | exact HB.out)) hb); clear HB; have HO628 := n0_; have HB := n1_; clear n0_ n1_; (try clear hb); (try clear hb2); (try clear hk); (try clear hi); (try clear ho0); obtain ⟨Ao10, co10, eo10⟩ := Kd.R_slice HO628.out; subst eo10) | ((with_reducible refine gate_callee (f := 74) rfl ?_); refine goesL_ (some 19) rfl rfl Try.func74 (by kernel_rfl) rfl #[.slice Ao10 t626.length co10, .int .i64 (-1)] rfl (by (try simp only [List.map_toArray, List.map_cons, List.map_nil]); first | done | rfl | (simp only [List.length_drop, List.length_take]; rfl)) ?_; (with_reducible refine (spec_l1Has.calls k1 _ _ t626 (-1) true _ ?side1 ?side2 A7.out).mono ?_); (case side1 => repeat (first | exact (Kd.R_reads' HO628.out).2.2 | (with_reducible refine Kd.C_alloc ?_ _) | (with_reducible refine Kd.C_drewN ?_ _) | (with_reducible refine Kd.C_drew ?_))); (case side2 => exact (Kd.R_reads' HO628.out).2.1); rintro e w' ⟨rfl, ⟨nd, rfl⟩⟩; refine ⟨_, rfl, ?_⟩))
            go_roundg k1
            case measure => have := HK1.out; omega
            case rel => exact ⟨(wrap64 (x6_1 + 1)), (by first | rfl | (simp; done) | (simp [*]; done)), H', ⟨by have := HK1.out; omega⟩, ⟨by repeat (first | (with_reducible first | exact HB.out | apply below_alloc | apply pw_below_drewN | apply below_drew1) | exact HB.out)⟩⟩
          · replace c8 := Bool.eq_false_iff.mpr c8
            subst c8
            have H1 : (some (x6_1, true)) = some (r1, r2) := by rw [if_neg (show ¬ (false = true) by decide)] at H; exact H
            clear H
            have H := H1
            clear H1
            simp only [Option.some.injEq, Prod.mk.injEq] at H
            obtain ⟨rfl, rfl⟩ := H
            go_wp2_with (first | ((with_reducible refine gate_callee (f := 75) rfl ?_); refine goesL_ (some 18) rfl rfl Try.func75 (by kernel_rfl) rfl #[.slice A0 l0.length c0, .int .i64 a1, .int .i64 x6_1] rfl (by (try simp only [List.map_toArray, List.map_cons, List.map_nil]); first | done | rfl | (simp only [List.length_drop, List.length_take]; rfl)) ?_; (with_reducible refine (spec_loBack.calls k1 _ _ l0 a1 x6_1 t626 _ ?side1 ?side2 A6.out).mono ?_); (case side1 => repeat (first | exact (Kd.C_below HR0.out HB.out) | (with_reducible refine Kd.C_alloc ?_ _) | (with_reducible refine Kd.C_drewN ?_ _) | (with_reducible refine Kd.C_drew ?_))); (case side2 => exact HC0.out); rintro e w11 ⟨v627, rfl, ho0, hb⟩; refine ⟨_, rfl, ?_⟩; have n0_ := Aside0.mk (Kd.R_lower ho0 (below_size (by repeat (first | (with_reducible first | exact HB.out | apply below_alloc | apply pw_below_drewN | apply below_drew1) | exact HB.out)))); have n1_ := Aside0.mk (below_step (by repeat (first | (with_reducible first | exact HB.out | apply below_alloc | apply pw_below_drewN | apply below_drew1) | exact HB.out)) hb); clear HB; have HO628 := n0_; have HB := n1_; clear n0_ n1_; (try clear hb); (try clear hb2); (try clear hk); (try clear hi); (try clear ho0); obtain ⟨Ao12, co12, eo12⟩ := Kd.R_slice HO628.out; subst eo12) | ((with_reducible refine gate_callee (f := 74) rfl ?_); refine goesL_ (some 19) rfl rfl Try.func74 (by kernel_rfl) rfl #[.slice Ao12 t626.length co12, .int .i64 (-1)] rfl (by (try simp only [List.map_toArray, List.map_cons, List.map_nil]); first | done | rfl | (simp only [List.length_drop, List.length_take]; rfl)) ?_; (with_reducible refine (spec_l1Has.calls k1 _ _ t626 (-1) false _ ?side1 ?side2 A7.out).mono ?_); (case side1 => repeat (first | exact (Kd.R_reads' HO628.out).2.2 | (with_reducible refine Kd.C_alloc ?_ _) | (with_reducible refine Kd.C_drewN ?_ _) | (with_reducible refine Kd.C_drew ?_))); (case side2 => exact (Kd.R_reads' HO628.out).2.1); rintro e w' ⟨rfl, ⟨nd, rfl⟩⟩; refine ⟨_, rfl, ?_⟩))
            go_ret2
            exact ⟨by first | rfl | (simp [errW_none, errW_some] <;> rfl) | (simp [*, errW_none, errW_some] <;> rfl), by repeat (first | (with_reducible first | exact HB.out | apply below_alloc | apply pw_below_drewN | apply below_drew1) | exact HB.out)⟩
        · rw [if_neg c5] at H
          have c5b0 : decide (x6_1 ≤ 8) = false := decide_eq_false c5
          clear c5
          simp only [Option.some.injEq, Prod.mk.injEq] at H
          obtain ⟨rfl, rfl⟩ := H
          go_wp2
          go_ret2
          exact ⟨by first | rfl | (simp [errW_none, errW_some] <;> rfl) | (simp [*, errW_none, errW_some] <;> rfl), by repeat (first | (with_reducible first | exact HB.out | apply below_alloc | apply pw_below_drewN | apply below_drew1) | exact HB.out)⟩
  · replace c4 := Bool.eq_false_iff.mpr c4
    subst c4
    have H1 : (some (0, false)) = some (r1, r2) := by rw [if_neg (show ¬ (false = true) by decide)] at H; exact H
    clear H
    have H := H1
    clear H1
    simp only [Option.some.injEq, Prod.mk.injEq] at H
    obtain ⟨rfl, rfl⟩ := H
    go_enter Try.func36, Try.ntmps36
    go_wp2_with (first | ((with_reducible refine gate_callee (f := 86) rfl ?_); refine goesL_ (some 9) rfl rfl Try.func86 (by kernel_rfl) rfl #[.slice A0 l0.length c0, .int .i64 a1] rfl (by (try simp only [List.map_toArray, List.map_cons, List.map_nil]); first | done | rfl | (simp only [List.length_drop, List.length_take]; rfl)) ?_; (with_reducible refine (spec_paGood.calls k _ _ l0 a1 false _ ?side1 ?side2 A3.out).mono ?_); (case side1 => repeat (first | exact HR0.out | (with_reducible refine Kd.C_alloc ?_ _) | (with_reducible refine Kd.C_drewN ?_ _) | (with_reducible refine Kd.C_drew ?_))); (case side2 => exact HC0.out); rintro e w' ⟨rfl, ⟨nd, rfl⟩⟩; refine ⟨_, rfl, ?_⟩))
    go_ret2
    exact ⟨by first | rfl | (simp [errW_none, errW_some] <;> rfl) | (simp [*, errW_none, errW_some] <;> rfl), by repeat (first | (with_reducible first | exact HB.out | apply below_alloc | apply pw_below_drewN | apply below_drew1) | exact HB.out)⟩
/-! ### impl_DriveCars: function 38 -/
def impl_DriveCars.f (k : Nat) (l0 : List Int) (a1 : Int) : Option (List Int × Bool) := (impl_AreFavourites.f l0 a1).bind fun t630 => (if t630 = true then ((impl_drive.f k l0 a1).bind fun bt631 => (some (bt631.1, bt631.2))) else (some (([] : List Int), false)))
theorem impl_DriveCars.mono : ∀ a0 a1 k, LeO (impl_DriveCars.f k a0 a1) (impl_DriveCars.f (k + 1) a0 a1) := by
  intro a0 a1 k
  unfold impl_DriveCars.f
  repeat' first
      | (with_reducible exact impl_drive.mono _ _ _)
      | (with_reducible exact LeO.refl _)
      | (with_reducible exact LeO.none _)
      | (with_reducible refine LeO.ite ?_ ?_)
      | (with_reducible refine LeO.bind ?_ (fun _ => ?_))
      | exact impl_drive.mono _ _ _
      | exact LeO.none _
      | refine LeO.ite ?_ ?_
      | refine LeO.bind ?_ (fun _ => ?_)
set_option maxHeartbeats 8000000 in
set_option maxRecDepth 100000 in
theorem impl_DriveCars.calls (k : Nat) (A0 : Option Addr) (c0 : Nat) (l0 : List Int) (a1 : Int) (r1 : List Int) (r2 : Bool) (w : World) (hr0 : Kd.C (Kd.int .i64) w A0 l0.length l0) (hc0 : l0.length ≤ c0) (h : impl_DriveCars.f k l0 a1 = some (r1, r2)) :
    Calls Try.prog 38 #[.slice A0 l0.length c0, .int .i64 a1] w fun e w' => ∃ v0_ : Value, e = .returned (.tuple #[v0_, .bool r2]) ∧ Kd.R (Kd.int .i64) 3 w' w.heap.size (fun _ => True) v0_ r1 ∧ Below w.heap.size w w' := by
  have HR0 := Aside0.mk hr0
  have HC0 := Aside0.mk hc0
  clear hr0 hc0
  have HB := Aside0.mk (Below.refl w.heap.size w)
  have H : ((impl_AreFavourites.f l0 a1).bind fun t630 => (if t630 = true then ((impl_drive.f k l0 a1).bind fun bt631 => (some (bt631.1, bt631.2))) else (some (([] : List Int), false)))) = some (r1, r2) := h
  clear h
  replace H := Option.bind_eq_some_iff.mp H
  obtain ⟨t630, A30, H⟩ := H
  replace H : (if t630 = true then ((impl_drive.f k l0 a1).bind fun bt631 => (some (bt631.1, bt631.2))) else (some (([] : List Int), false))) = some (r1, r2) := H
  have A3 := Aside0.mk A30
  clear A30
  by_cases c4 : t630 = true
  · subst c4
    have H1 : ((impl_drive.f k l0 a1).bind fun bt631 => (some (bt631.1, bt631.2))) = some (r1, r2) := by rw [if_pos rfl] at H; exact H
    clear H
    have H := H1
    clear H1
    replace H := Option.bind_eq_some_iff.mp H
    obtain ⟨⟨t631, t632⟩, A50, H⟩ := H
    replace H : (some (t631, t632)) = some (r1, r2) := H
    have A5 := Aside0.mk A50
    clear A50
    simp only [Option.some.injEq, Prod.mk.injEq] at H
    obtain ⟨rfl, rfl⟩ := H
    go_enter Try.func38, Try.ntmps38
    go_wp2_with (first | ((with_reducible refine gate_callee (f := 37) rfl ?_); refine goesL_ (some 8) rfl rfl Try.func37 (by kernel_rfl) rfl #[.slice A0 l0.length c0, .int .i64 a1] rfl (by (try simp only [List.map_toArray, List.map_cons, List.map_nil]); first | done | rfl | (simp only [List.length_drop, List.length_take]; rfl)) ?_; (with_reducible refine (impl_AreFavourites.calls _ _ l0 a1 true _ ?side1 ?side2 A3.out).mono ?_); (case side1 => repeat (first | exact HR0.out | (with_reducible refine Kd.C_alloc ?_ _) | (with_reducible refine Kd.C_drewN ?_ _) | (with_reducible refine Kd.C_drew ?_))); (case side2 => exact HC0.out); rintro e w6 ⟨rfl, hb⟩; refine ⟨_, rfl, ?_⟩; have n0_ := Aside0.mk (below_step (by repeat (first | (with_reducible first | exact HB.out | apply below_alloc | apply pw_below_drewN | apply below_drew1) | exact HB.out)) hb); clear HB; have HB := n0_; clear n0_; (try clear hb); (try clear hb2); (try clear hk); (try clear hi)) | ((with_reducible refine gate_callee (f := 70) rfl ?_); refine goesL_ (some 12) rfl rfl Try.func70 (by kernel_rfl) rfl #[.slice A0 l0.length c0, .int .i64 a1] rfl (by (try simp only [List.map_toArray, List.map_cons, List.map_nil]); first | done | rfl | (simp only [List.length_drop, List.length_take]; rfl)) ?_; (with_reducible refine (impl_drive.calls k _ _ l0 a1 t631 t632 _ ?side1 ?side2 A5.out).mono ?_); (case side1 => repeat (first | exact (Kd.C_below HR0.out HB.out) | (with_reducible refine Kd.C_alloc ?_ _) | (with_reducible refine Kd.C_drewN ?_ _) | (with_reducible refine Kd.C_drew ?_))); (case side2 => exact HC0.out); rintro e w7 ⟨v633, rfl, ho0, hb⟩; refine ⟨_, rfl, ?_⟩; have n0_ := Aside0.mk (Kd.R_lower ho0 (below_size (by repeat (first | (with_reducible first | exact HB.out | apply below_alloc | apply pw_below_drewN | apply below_drew1) | exact HB.out)))); have n1_ := Aside0.mk (below_step (by repeat (first | (with_reducible first | exact HB.out | apply below_alloc | apply pw_below_drewN | apply below_drew1) | exact HB.out)) hb); clear HB; have HO634 := n0_; have HB := n1_; clear n0_ n1_; (try clear hb); (try clear hb2); (try clear hk); (try clear hi); (try clear ho0)))
    go_ret2
    exact ⟨_, by first | rfl | (simp [errW_none, errW_some] <;> rfl) | (simp [*, errW_none, errW_some] <;> rfl), by (with_reducible repeat (first | apply Kd.R_alloc | apply Kd.R_drewN | apply Kd.R_drew)); exact HO634.out, by repeat (first | (with_reducible first | exact HB.out | apply below_alloc | apply pw_below_drewN | apply below_drew1) | exact HB.out)⟩
  · replace c4 := Bool.eq_false_iff.mpr c4
    subst c4
    have H1 : (some (([] : List Int), false)) = some (r1, r2) := by rw [if_neg (show ¬ (false = true) by decide)] at H; exact H
    clear H
    have H := H1
    clear H1
    simp only [Option.some.injEq, Prod.mk.injEq] at H
    obtain ⟨rfl, rfl⟩ := H
    go_enter Try.func38, Try.ntmps38
    go_wp2_with (first | ((with_reducible refine gate_callee (f := 37) rfl ?_); refine goesL_ (some 8) rfl rfl Try.func37 (by kernel_rfl) rfl #[.slice A0 l0.length c0, .int .i64 a1] rfl (by (try simp only [List.map_toArray, List.map_cons, List.map_nil]); first | done | rfl | (simp only [List.length_drop, List.length_take]; rfl)) ?_; (with_reducible refine (impl_AreFavourites.calls _ _ l0 a1 false _ ?side1 ?side2 A3.out).mono ?_); (case side1 => repeat (first | exact HR0.out | (with_reducible refine Kd.C_alloc ?_ _) | (with_reducible refine Kd.C_drewN ?_ _) | (with_reducible refine Kd.C_drew ?_))); (case side2 => exact HC0.out); rintro e w8 ⟨rfl, hb⟩; refine ⟨_, rfl, ?_⟩; have n0_ := Aside0.mk (below_step (by repeat (first | (with_reducible first | exact HB.out | apply below_alloc | apply pw_below_drewN | apply below_drew1) | exact HB.out)) hb); clear HB; have HB := n0_; clear n0_; (try clear hb); (try clear hb2); (try clear hk); (try clear hi)))
    go_ret2
    exact ⟨_, by first | rfl | (simp [errW_none, errW_some] <;> rfl) | (simp [*, errW_none, errW_some] <;> rfl), by first | exact Kd.R_nil _ _ _ _ _ | exact Kd.N_nil _ _ _ _ _ | exact Kd.V_nil _ _ _ _ _ | exact Kd.Q_nil _ _ _ _ _ | exact Kd.S_nil _ _ _ _ _, by repeat (first | (with_reducible first | exact HB.out | apply below_alloc | apply pw_below_drewN | apply below_drew1) | exact HB.out)⟩
/-! ### spec_DrawCountBack: function 39 -/
def spec_DrawCountBack.f (l0 : List Int) : Option (Int × Int) := (spec_l1Cur_among.f l0 0 0 (([1, 2, 3, 4, 4, 5, 6, 0] : List Int))).bind fun bt639 => ((spec_l1Cur_among.f l0 bt639.2.1 bt639.2.2 (([0, 1, 2, 3, 8, 9, (-1)] : List Int))).bind fun bt645 => (some (bt639.1, bt645.1)))
set_option maxHeartbeats 8000000 in
set_option maxRecDepth 100000 in
theorem spec_DrawCountBack.calls (A0 : Option Addr) (c0 : Nat) (l0 : List Int) (r1 : Int) (r2 : Int) (w : World) (hr0 : Kd.C (Kd.int .u8) w A0 l0.length l0) (hc0 : l0.length ≤ c0) (h : spec_DrawCountBack.f l0 = some (r1, r2)) :
    Calls Try.prog 39 #[.slice A0 l0.length c0] w fun e w' => e = .returned (.tuple #[.int .i64 r1, .int .i64 r2]) ∧ Below w.heap.size w w' := by
  have hu63 := Try.underlying63
  have HR0 := Aside0.mk hr0
  have HC0 := Aside0.mk hc0
  clear hr0 hc0
  have HB := Aside0.mk (Below.refl w.heap.size w)
  have H : ((spec_l1Cur_among.f l0 0 0 (([1, 2, 3, 4, 4, 5, 6, 0] : List Int))).bind fun bt639 => ((spec_l1Cur_among.f l0 bt639.2.1 bt639.2.2 (([0, 1, 2, 3, 8, 9, (-1)] : List Int))).bind fun bt645 => (some (bt639.1, bt645.1)))) = some (r1, r2) := h
  clear h
  obtain ⟨y636, hy636⟩ : ∃ y_ : List Int, y_ = (([1, 2, 3, 4, 4, 5, 6, 0] : List Int)) := ⟨_, rfl⟩
  replace H : ((spec_l1Cur_among.f l0 0 0 y636).bind fun bt639 => ((spec_l1Cur_among.f l0 bt639.2.1 bt639.2.2 (([0, 1, 2, 3, 8, 9, (-1)] : List Int))).bind fun bt645 => (some (bt639.1, bt645.1)))) = some (r1, r2) := by first | (rw [hy636]; with_reducible exact H) | (have H2_ := (Option.bind_some _ _).symm.trans H; rw [hy636]; with_reducible exact H2_) | (have H2_ := (Option.bind_some _ _).symm.trans H; with_reducible exact H2_) | with_reducible exact H | (rw [hy636]; exact H) | exact H
  have Ny636 := Aside0.mk hy636
  clear hy636
  replace H := Option.bind_eq_some_iff.mp H
  obtain ⟨⟨t639, t640, t641⟩, A20, H⟩ := H
  replace H : ((spec_l1Cur_among.f l0 t640 t641 (([0, 1, 2, 3, 8, 9, (-1)] : List Int))).bind fun bt645 => (some (t639, bt645.1))) = some (r1, r2) := H
  have A2 := Aside0.mk A20
  clear A20
  obtain ⟨y642, hy642⟩ : ∃ y_ : List Int, y_ = (([0, 1, 2, 3, 8, 9, (-1)] : List Int)) := ⟨_, rfl⟩
  replace H : ((spec_l1Cur_among.f l0 t640 t641 y642).bind fun bt645 => (some (t639, bt645.1))) = some (r1, r2) := by first | (rw [hy642]; with_reducible exact H) | (have H2_ := (Option.bind_some _ _).symm.trans H; rw [hy642]; with_reducible exact H2_) | (have H2_ := (Option.bind_some _ _).symm.trans H; with_reducible exact H2_) | with_reducible exact H | (rw [hy642]; exact H) | exact H
  have Ny642 := Aside0.mk hy642
  clear hy642
  replace H := Option.bind_eq_some_iff.mp H
  obtain ⟨⟨t645, t646, t647⟩, A30, H⟩ := H
  replace H : (some (t639, t645)) = some (r1, r2) := H
  have A3 := Aside0.mk A30
  clear A30
  simp only [Option.some.injEq, Prod.mk.injEq] at H
  obtain ⟨rfl, rfl⟩ := H
  go_enter Try.func39, Try.ntmps39
  go_wp2_with (first | ((with_reducible refine gate_dst (N := 7) rfl ?_); refine box_event ?hg (N := 7) ?hd (cs := #[.slice A0 l0.length c0, .int .i64 0, .int .u64 0]) (t := 63) ?hr ?_; (case hd => rfl); (case hg => rfl); (case hr => first | (go_simp; done) | (go_simp; rfl)); intro gb635 hg w4 hbox hb; have n0_ := Aside0.mk (below_step (by repeat (first | (with_reducible first | exact HB.out | apply below_alloc | apply pw_below_drewN | apply below_drew1) | exact HB.out)) hb); have n1_ := Aside0.mk ((by rw [hg]; exact (below_size (by repeat (first | (with_reducible first | exact HB.out | apply below_alloc | apply pw_below_drewN | apply below_drew1) | exact HB.out))) : w.heap.size ≤ gb635)); have n2_ := Aside0.mk ((by rw [hg]; exact (below_size (by repeat (first | (with_reducible first | exact HB.out | apply below_alloc | apply pw_below_drewN | apply below_drew1) | exact HB.out))) : w.heap.size ≤ gb635)); have n3_ := Aside0.mk ((⟨_, _,  hbox, (by rw [hg]; exact (below_size (by repeat (first | (with_reducible first | exact HB.out | apply below_alloc | apply pw_below_drewN | apply below_drew1) | exact HB.out)))), HR0.out⟩ : IsS63 w w4 gb635 l0 0 0)); clear HB; have HB := n0_; have GW635 := n1_; have GE635 := n2_; have HI635 := n3_; clear n0_ n1_ n2_ n3_; clear hb hbox hg) | ((with_reducible refine gate_dst (N := 9) rfl ?_); refine Kd.R_lit (Kd.int .i64) _ 3 ?hg (N := 9) ?hd (xs := ([1, 2, 3, 4, 4, 5, 6, 0] : List Int)) (inner := [.int .i64 1, .int .i64 2, .int .i64 3, .int .i64 4, .int .i64 4, .int .i64 5, .int .i64 6, .int .i64 0]) (ok := fun _ => True) (okp := fun _ => True) ?hr ?hp (fun _ hk => hk) trivial (Below.refl _ _) (Nat.le_refl _) (by simp) ?_; (case hd => rfl); (case hg => rfl); (case hr => first | (go_simp; done) | (go_simp; rfl)); (case hp => exact (Reps.one (show Kd.M (Kd.int .i64) _ _ _ 1 [.int .i64 1] from rfl) (Reps.one (show Kd.M (Kd.int .i64) _ _ _ 2 [.int .i64 2] from rfl) (Reps.one (show Kd.M (Kd.int .i64) _ _ _ 3 [.int .i64 3] from rfl) (Reps.one (show Kd.M (Kd.int .i64) _ _ _ 4 [.int .i64 4] from rfl) (Reps.one (show Kd.M (Kd.int .i64) _ _ _ 4 [.int .i64 4] from rfl) (Reps.one (show Kd.M (Kd.int .i64) _ _ _ 5 [.int .i64 5] from rfl) (Reps.one (show Kd.M (Kd.int .i64) _ _ _ 6 [.int .i64 6] from rfl) (Reps.one (show Kd.M (Kd.int .i64) _ _ _ 0 [.int .i64 0] from rfl) (Reps.none _ _)))))))))); intro v637 w5 ho6 hb hg_ hnew_; clear hg_ hnew_; (first | rw [← Ny636.out] at ho6 | (simp only [Int.reduceToNat] at ho6; rw [← Ny636.out] at ho6)); have n0_ := Aside0.mk (Kd.R_lower ho6 (below_size (by repeat (first | (with_reducible first | exact HB.out | apply below_alloc | apply pw_below_drewN | apply below_drew1 | refine below_set ?_ (IsS63.ge HI635.out)) | exact HB.out)))); have n1_ := Aside0.mk (IsS63.below (by repeat (first | (with_reducible first | exact HI635.out | apply IsS63.alloc | apply IsS63.drewN | apply IsS63.drew | apply IsS63.set_1 | apply IsS63.set_2) | exact HI635.out)) hb); have n2_ := Aside0.mk (below_step (by repeat (first | (with_reducible first | exact HB.out | apply below_alloc | apply pw_below_drewN | apply below_drew1 | refine below_set ?_ (IsS63.ge HI635.out)) | exact HB.out)) hb); clear HI635; clear HB; have HO638 := n0_; have HI635 := n1_; have HB := n2_; clear n0_ n1_ n2_; clear hb ho6; obtain ⟨Ao7, co7, eo7⟩ := Kd.R_slice HO638.out; subst eo7) | ((with_reducible refine gate_callee (f := 85) rfl ?_); refine goesL_ (some 10) rfl rfl Try.func85 (by kernel_rfl) rfl #[.pointer (some ⟨gb635, 0, none⟩), .slice Ao7 y636.length co7] rfl (by (try simp only [List.map_toArray, List.map_cons, List.map_nil]); first | done | rfl | (simp only [List.length_drop, List.length_take]; rfl)) ?_; (with_reducible refine (spec_l1Cur_among.calls gb635 l0 0 0 _ _ y636 t639 t640 t641 w _ ?side1 ?side2 ?side3 ?side4 ?side5 A2.out).mono ?_); (case side1 => repeat (first | (with_reducible first | exact HI635.out | apply IsS63.alloc | apply IsS63.drewN | apply IsS63.drew | apply IsS63.set_1 | apply IsS63.set_2) | exact HI635.out)); (case side2 => repeat (first | (with_reducible first | exact HB.out | apply below_alloc | apply pw_below_drewN | apply below_drew1 | refine below_set ?_ (IsS63.ge HI635.out)) | exact HB.out)); (case side3 => repeat (first | exact (Kd.R_reads' HO638.out).2.2 | (with_reducible refine Kd.C_alloc ?_ _) | (with_reducible refine Kd.C_drewN ?_ _) | (with_reducible refine Kd.C_drew ?_))); (case side4 => exact (Kd.R_reads' HO638.out).2.1); (case side5 => exact far_slice (IsS63.own_ne HI635.out HO638.out (by decide))); rintro e w8 ⟨rfl, hi, hb, hk⟩; refine ⟨_, rfl, ?_⟩; have n0_ := Aside0.mk (Kd.R_mono (Kd.R_keep (IsS63.apart (show IsS63 w _ gb635 l0 0 0 from by repeat (first | (with_reducible first | exact HI635.out | apply IsS63.alloc | apply IsS63.drewN | apply IsS63.drew | apply IsS63.set_1 | apply IsS63.set_2) | exact HI635.out)) (by (with_reducible repeat (first | apply Kd.R_alloc | apply Kd.R_drewN | apply Kd.R_drew)); exact HO638.out) (by decide)) hk (fun _ h => h.2)) (fun _ h => h.1)); have n1_ := Aside0.mk (hb); have n2_ := Aside0.mk (hi); clear HO638; clear HB; clear HI635; have HO638 := n0_; have HB := n1_; have HI635 := n2_; clear n0_ n1_ n2_; (try clear hb); (try clear hb2); (try clear hk); (try clear hi)) | ((with_reducible refine gate_dst (N := 12) rfl ?_); refine Kd.R_lit (Kd.int .i64) _ 3 ?hg (N := 12) ?hd (xs := ([0, 1, 2, 3, 8, 9, (-1)] : List Int)) (inner := [.int .i64 0, .int .i64 1, .int .i64 2, .int .i64 3, .int .i64 8, .int .i64 9, .int .i64 (-1)]) (ok := fun _ => True) (okp := fun _ => True) ?hr ?hp (fun _ hk => hk) trivial (Below.refl _ _) (Nat.le_refl _) (by simp) ?_; (case hd => rfl); (case hg => rfl); (case hr => first | (go_simp; done) | (go_simp; rfl)); (case hp => exact (Reps.one (show Kd.M (Kd.int .i64) _ _ _ 0 [.int .i64 0] from rfl) (Reps.one (show Kd.M (Kd.int .i64) _ _ _ 1 [.int .i64 1] from rfl) (Reps.one (show Kd.M (Kd.int .i64) _ _ _ 2 [.int .i64 2] from rfl) (Reps.one (show Kd.M (Kd.int .i64) _ _ _ 3 [.int .i64 3] from rfl) (Reps.one (show Kd.M (Kd.int .i64) _ _ _ 8 [.int .i64 8] from rfl) (Reps.one (show Kd.M (Kd.int .i64) _ _ _ 9 [.int .i64 9] from rfl) (Reps.one (show Kd.M (Kd.int .i64) _ _ _ (-1) [.int .i64 (-1)] from rfl) (Reps.none _ _))))))))); intro v643 w9 ho10 hb hg_ hnew_; clear hg_ hnew_; (first | rw [← Ny642.out] at ho10 | (simp only [Int.reduceToNat] at ho10; rw [← Ny642.out] at ho10)); have n0_ := Aside0.mk (Kd.R_elder' (by (with_reducible repeat (first | apply Kd.R_alloc | apply Kd.R_drewN | apply Kd.R_drew)); exact HO638.out) (Kd.R_base ho10) hb); have n1_ := Aside0.mk (Kd.R_lower (Kd.R_new' ho10 (Kd.R_lt (by (with_reducible repeat (first | apply Kd.R_alloc | apply Kd.R_drewN | apply Kd.R_drew)); exact HO638.out))) (below_size (by repeat (first | (with_reducible first | exact HB.out | apply below_alloc | apply pw_below_drewN | apply below_drew1 | refine below_set ?_ (IsS63.ge HI635.out)) | exact HB.out)))); have n2_ := Aside0.mk (IsS63.below (by repeat (first | (with_reducible first | exact HI635.out | apply IsS63.alloc | apply IsS63.drewN | apply IsS63.drew | apply IsS63.set_1 | apply IsS63.set_2) | exact HI635.out)) hb); have n3_ := Aside0.mk (below_step (by repeat (first | (with_reducible first | exact HB.out | apply below_alloc | apply pw_below_drewN | apply below_drew1 | refine below_set ?_ (IsS63.ge HI635.out)) | exact HB.out)) hb); clear HO638; clear HI635; clear HB; have HO638 := n0_; have HO644 := n1_; have HI635 := n2_; have HB := n3_; clear n0_ n1_ n2_ n3_; clear hb ho10; obtain ⟨Ao11, co11, eo11⟩ := Kd.R_slice HO644.out; subst eo11) | ((with_reducible refine gate_callee (f := 85) rfl ?_); refine goesL_ (some 13) rfl rfl Try.func85 (by kernel_rfl) rfl #[.pointer (some ⟨gb635, 0, none⟩), .slice Ao11 y642.length co11] rfl (by (try simp only [List.map_toArray, List.map_cons, List.map_nil]); first | done | rfl | (simp only [List.length_drop, List.length_take]; rfl)) ?_; (with_reducible refine (spec_l1Cur_among.calls gb635 l0 t640 t641 _ _ y642 t645 t646 t647 w _ ?side1 ?side2 ?side3 ?side4 ?side5 A3.out).mono ?_); (case side1 => repeat (first | (with_reducible first | exact HI635.out | apply IsS63.alloc | apply IsS63.drewN | apply IsS63.drew | apply IsS63.set_1 | apply IsS63.set_2) | exact HI635.out)); (case side2 => repeat (first | (with_reducible first | exact HB.out | apply below_alloc | apply pw_below_drewN | apply below_drew1 | refine below_set ?_ (IsS63.ge HI635.out)) | exact HB.out)); (case side3 => repeat (first | exact (Kd.R_reads' HO644.out).2.2 | (with_reducible refine Kd.C_alloc ?_ _) | (with_reducible refine Kd.C_drewN ?_ _) | (with_reducible refine Kd.C_drew ?_))); (case side4 => exact (Kd.R_reads' HO644.out).2.1); (case side5 => exact far_slice (IsS63.own_ne HI635.out HO644.out (by decide))); rintro e w12 ⟨rfl, hi, hb, hk⟩; refine ⟨_, rfl, ?_⟩; have n0_ := Aside0.mk (Kd.R_mono (Kd.R_keep (IsS63.apart (show IsS63 w _ gb635 l0 t640 t641 from by repeat (first | (with_reducible first | exact HI635.out | apply IsS63.alloc | apply IsS63.drewN | apply IsS63.drew | apply IsS63.set_1 | apply IsS63.set_2) | exact HI635.out)) (by (with_reducible repeat (first | apply Kd.R_alloc | apply Kd.R_drewN | apply Kd.R_drew)); exact HO638.out) (by decide)) hk (fun _ h => h.2)) (fun _ h => h.1)); have n1_ := Aside0.mk (Kd.R_mono (Kd.R_keep (IsS63.apart (show IsS63 w _ gb635 l0 t640 t641 from by repeat (first | (with_reducible first | exact HI635.out | apply IsS63.alloc | apply IsS63.drewN | apply IsS63.drew | apply IsS63.set_1 | apply IsS63.set_2) | exact HI635.out)) (by (with_reducible repeat (first | apply Kd.R_alloc | apply Kd.R_drewN | apply Kd.R_drew)); exact HO644.out) (by decide)) hk (fun _ h => h.2)) (fun _ h => h.1)); have n2_ := Aside0.mk (hb); have n3_ := Aside0.mk (hi); clear HO638; clear HO644; clear HB; clear HI635; have HO638 := n0_; have HO644 := n1_; have HB := n2_; have HI635 := n3_; clear n0_ n1_ n2_ n3_; (try clear hb); (try clear hb2); (try clear hk); (try clear hi)))
  go_ret2
  exact ⟨by first | rfl | (simp [errW_none, errW_some] <;> rfl) | (simp [*, errW_none, errW_some] <;> rfl), by repeat (first | (with_reducible first | exact HB.out | apply below_alloc | apply pw_below_drewN | apply below_drew1 | refine below_set ?_ (IsS63.ge HI635.out)) | exact HB.out)⟩
/-! ### impl_isCars: function 89 -/
def impl_isCars.f (a0 : Int) : Option (Bool) := (impl_between.f a0 0 8).bind fun t648 => (some t648)
set_option maxHeartbeats 8000000 in
set_option maxRecDepth 100000 in
theorem impl_isCars.calls (a0 : Int) (r : Bool) (w : World) (h : impl_isCars.f a0 = some r) :
    Calls Try.prog 89 #[.int .i64 a0] w fun e w' => e = .returned (.bool r) ∧ Drawn0 w w' := by
  have H : ((impl_between.f a0 0 8).bind fun t648 => (some t648)) = some r := h
  clear h
  replace H := Option.bind_eq_some_iff.mp H
  obtain ⟨t648, A20, H⟩ := H
  replace H : (some t648) = some r := H
  have A2 := Aside0.mk A20
  clear A20
  obtain rfl := Option.some.inj H
  go_enter Try.func89, Try.ntmps89
  go_wp2_with (first | ((with_reducible refine gate_callee (f := 87) rfl ?_); refine goesL_ (some 4) rfl rfl Try.func87 (by kernel_rfl) rfl #[.int .i64 a0, .int .i64 0, .int .i64 8] rfl (by (try simp only [List.map_toArray, List.map_cons, List.map_nil]); first | done | rfl | (simp only [List.length_drop, List.length_take]; rfl)) ?_; (with_reducible refine (impl_between.calls a0 0 8 t648 _ A2.out).mono ?_); rintro e w' ⟨rfl, ⟨nd, rfl⟩⟩; refine ⟨_, rfl, ?_⟩))
  go_ret
  exact ⟨by first | rfl | (simp; done) | (simp [*]; done), by repeat (first | exact Drawn0.refl _ | apply Drawn0.step)⟩
/-! ### impl_power: function 111 -/
def impl_power.l0 : Nat → Int → Int → Int → Int → Option (Int)
  | 0, _, _, _, _ => none
  | k + 1, x0, x5, x6, x7 => if x7 < x6 then (impl_power.l0 k x0 (wrap64 (x5 * x0)) x6 (wrap64 (x7 + 1))) else (some x5)
def impl_power.f (k : Nat) (a0 : Int) (a1 : Int) : Option (Int) := impl_power.l0 k a0 1 a1 0
theorem impl_power.mono_l : ∀ k, (∀ y0 y1 y2 y3, LeO (impl_power.l0 k y0 y1 y2 y3) (impl_power.l0 (k + 1) y0 y1 y2 y3))
  | 0 => fun _ _ _ _ r h => by simp [impl_power.l0] at h
  | k + 1 => by
    have ih0 := impl_power.mono_l k
    · intro y0 y1 y2 y3
      unfold impl_power.l0
      repeat' first
      | (with_reducible exact ih0 _ _ _ _)
      | (with_reducible exact LeO.refl _)
      | (with_reducible exact LeO.none _)
      | (with_reducible refine LeO.ite ?_ ?_)
      | (with_reducible refine LeO.bind ?_ (fun _ => ?_))
      | exact ih0 _ _ _ _
      | exact LeO.none _
      | refine LeO.ite ?_ ?_
      | refine LeO.bind ?_ (fun _ => ?_)
theorem impl_power.mono : ∀ a0 a1 k, LeO (impl_power.f k a0 a1) (impl_power.f (k + 1) a0 a1) := by
  intro a0 a1 k
  have ih0 := impl_power.mono_l k
  unfold impl_power.f
  repeat' first
      | (with_reducible exact ih0 _ _ _ _)
      | (with_reducible exact LeO.refl _)
      | (with_reducible exact LeO.none _)
      | (with_reducible refine LeO.ite ?_ ?_)
      | (with_reducible refine LeO.bind ?_ (fun _ => ?_))
      | exact ih0 _ _ _ _
      | exact LeO.none _
      | refine LeO.ite ?_ ?_
      | refine LeO.bind ?_ (fun _ => ?_)
set_option maxHeartbeats 8000000 in
set_option maxRecDepth 100000 in
theorem impl_power.calls (k : Nat) (a0 : Int) (a1 : Int) (r : Int) (w : World) (h : impl_power.f k a0 a1 = some r) :
    Calls Try.prog 111 #[.int .i64 a0, .int .i64 a1] w fun e w' => e = .returned (.int .i64 r) ∧ Drawn0 w w' := by
  have H : (impl_power.l0 k a0 1 a1 0) = some r := h
  clear h
  have H' := Aside0.mk H
  clear H
  go_enter Try.func111, Try.ntmps111
  go_wp2
  go_loopg [5, 7] k (fun kq v5 v7 w' => ∃ (x5_1 : Int) (x7_1 : Int), v5 = .int .i64 x5_1 ∧ v7 = .int .i64 x7_1 ∧ Aside0 (impl_power.l0 kq a0 x5_1 a1 x7_1 = some r) ∧ Aside0 (kq ≤ k) ∧ Drawn0 w w')
  case atStart => exact ⟨(1), (0), (by first | rfl | (simp; done) | (simp [*]; done)), (by first | rfl | (simp; done) | (simp [*]; done)), H', ⟨Nat.le_refl _⟩, by repeat (first | exact Drawn0.refl _ | apply Drawn0.step)⟩
  case round =>
    clear H'
    try clear c1
    try clear p2
    obtain ⟨x5_1, x7_1, rfl, rfl, HA, HK1, ⟨m1, rfl⟩⟩ := hrel
    cases gk with
    | zero => exact absurd HA.out (by simp [impl_power.l0])
    | succ k1 =>
      have H := HA.out
      clear HA
      simp only [impl_power.l0] at H
      by_cases c3 : x7_1 < a1
      · rw [if_pos c3] at H
        have c3b0 : decide (x7_1 < a1) = true := decide_eq_true c3
        clear c3
        have H' := Aside0.mk H
        clear H
        go_wp2
        go_roundg k1
        case measure => have := HK1.out; omega
        case rel => exact ⟨(wrap64 (x5_1 * a0)), (wrap64 (x7_1 + 1)), (by first | rfl | (simp; done) | (simp [*]; done)), (by first | rfl | (simp; done) | (simp [*]; done)), H', ⟨by have := HK1.out; omega⟩, by repeat (first | exact Drawn0.refl _ | apply Drawn0.step)⟩
      · rw [if_neg c3] at H
        have c3b0 : decide (x7_1 < a1) = false := decide_eq_false c3
        clear c3
        obtain rfl := Option.some.inj H
        go_wp2
        go_ret
        exact ⟨by first | rfl | (simp; done) | (simp [*]; done), by repeat (first | exact Drawn0.refl _ | apply Drawn0.step)⟩
/-! ### impl_countParking: function 90 -/
def impl_countParking.f (k : Nat) (a0 : Int) : Option (Int) := (impl_power.f k (wrap64 (a0 + 1)) (mx (wrap64 (a0 - 1)) 0)).bind fun t649 => (some t649)
theorem impl_countParking.mono : ∀ a0 k, LeO (impl_countParking.f k a0) (impl_countParking.f (k + 1) a0) := by
  intro a0 k
  unfold impl_countParking.f
  repeat' first
      | (with_reducible exact impl_power.mono _ _ _)
      | (with_reducible exact LeO.refl _)
      | (with_reducible exact LeO.none _)
      | (with_reducible refine LeO.ite ?_ ?_)
      | (with_reducible refine LeO.bind ?_ (fun _ => ?_))
      | exact impl_power.mono _ _ _
      | exact LeO.none _
      | refine LeO.ite ?_ ?_
      | refine LeO.bind ?_ (fun _ => ?_)
set_option maxHeartbeats 8000000 in
set_option maxRecDepth 100000 in
theorem impl_countParking.calls (k : Nat) (a0 : Int) (r : Int) (w : World) (h : impl_countParking.f k a0 = some r) :
    Calls Try.prog 90 #[.int .i64 a0] w fun e w' => e = .returned (.int .i64 r) ∧ Below w.heap.size w w' := by
  have HB := Aside0.mk (Below.refl w.heap.size w)
  have H : ((impl_power.f k (wrap64 (a0 + 1)) (mx (wrap64 (a0 - 1)) 0)).bind fun t649 => (some t649)) = some r := h
  clear h
  obtain ⟨ji2, hji2⟩ : ∃ j_ : Int, (mx (wrap64 (a0 - 1)) 0) = j_ := ⟨_, rfl⟩
  replace H : ((impl_power.f k (wrap64 (a0 + 1)) (ji2)).bind fun t649 => (some t649)) = some r := by first | (rw [hji2] at H; exact H) | (simp only [hji2] at H ⊢; exact H)
  (try (have hji2l : 0 ≤ ji2 := by (rw [← hji2]; unfold mx; (repeat' split) <;> omega)))
  (try (have hji2m : 0 ≤ ji2 := by omega))
  have hji2_ : (if (wrap64 (a0 - 1)) < 0 then 0 else (wrap64 (a0 - 1))) = ji2 := hji2
  replace H := Option.bind_eq_some_iff.mp H
  obtain ⟨t649, A30, H⟩ := H
  replace H : (some t649) = some r := H
  have A3 := Aside0.mk A30
  clear A30
  obtain rfl := Option.some.inj H
  go_enter Try.func90, Try.ntmps90
  go_wp2_with (first | ((with_reducible refine gate_callee (f := 111) rfl ?_); refine goesL_ (some 8) rfl rfl Try.func111 (by kernel_rfl) rfl #[.int .i64 (wrap64 (a0 + 1)), .int .i64 ji2] rfl (by (try simp only [List.map_toArray, List.map_cons, List.map_nil]); first | done | (simp only [hji2]; rfl) | rfl | (simp only [List.length_drop, List.length_take]; rfl)) ?_; (with_reducible refine (impl_power.calls k (wrap64 (a0 + 1)) ji2 t649 _ A3.out).mono ?_); rintro e w' ⟨rfl, ⟨nd, rfl⟩⟩; refine ⟨_, rfl, ?_⟩))
  go_ret
  exact ⟨by first | rfl | (simp [errW_none, errW_some] <;> rfl) | (simp only [← hji2]; first | rfl | (simp [errW_none, errW_some] <;> rfl)) | (simp [*, errW_none, errW_some] <;> rfl), by repeat (first | (with_reducible first | exact HB.out | apply below_alloc | apply pw_below_drewN | apply below_drew1) | exact HB.out)⟩
/-! ### impl_CountParking: function 40 -/
def impl_CountParking.f (k : Nat) (a0 : Int) : Option (Int × Bool) := (impl_isCars.f a0).bind fun t650 => (if t650 = true then ((impl_countParking.f k a0).bind fun t651 => (some (t651, true))) else (some (0, false)))
theorem impl_CountParking.mono : ∀ a0 k, LeO (impl_CountParking.f k a0) (impl_CountParking.f (k + 1) a0) := by
  intro a0 k
  unfold impl_CountParking.f
  repeat' first
      | (with_reducible exact impl_countParking.mono _ _)
      | (with_reducible exact LeO.refl _)
      | (with_reducible exact LeO.none _)
      | (with_reducible refine LeO.ite ?_ ?_)
      | (with_reducible refine LeO.bind ?_ (fun _ => ?_))
      | exact impl_countParking.mono _ _
      | exact LeO.none _
      | refine LeO.ite ?_ ?_
      | refine LeO.bind ?_ (fun _ => ?_)
set_option maxHeartbeats 8000000 in
set_option maxRecDepth 100000 in
theorem impl_CountParking.calls (k : Nat) (a0 : Int) (r1 : Int) (r2 : Bool) (w : World) (h : impl_CountParking.f k a0 = some (r1, r2)) :
    Calls Try.prog 40 #[.int .i64 a0] w fun e w' => e = .returned (.tuple #[.int .i64 r1, .bool r2]) ∧ Below w.heap.size w w' := by
  have HB := Aside0.mk (Below.refl w.heap.size w)
  have H : ((impl_isCars.f a0).bind fun t650 => (if t650 = true then ((impl_countParking.f k a0).bind fun t651 => (some (t651, true))) else (some (0, false)))) = some (r1, r2) := h
  clear h
  replace H := Option.bind_eq_some_iff.mp H
  obtain ⟨t650, A20, H⟩ := H
  replace H : (if t650 = true then ((impl_countParking.f k a0).bind fun t651 => (some (t651, true))) else (some (0, false))) = some (r1, r2) := H
  have A2 := Aside0.mk A20
  clear A20
  by_cases c3 : t650 = true
  · subst c3
    have H1 : ((impl_countParking.f k a0).bind fun t651 => (some (t651, true))) = some (r1, r2) := by rw [if_pos rfl] at H; exact H
    clear H
    have H := H1
    clear H1
    replace H := Option.bind_eq_some_iff.mp H
    obtain ⟨t651, A40, H⟩ := H
    replace H : (some (t651, true)) = some (r1, r2) := H
    have A4 := Aside0.mk A40
    clear A40
    simp only [Option.some.injEq, Prod.mk.injEq] at H
    obtain ⟨rfl, rfl⟩ := H
    go_enter Try.func40, Try.ntmps40
    go_wp2_with (first | ((with_reducible refine gate_callee (f := 89) rfl ?_); refine goesL_ (some 5) rfl rfl Try.func89 (by kernel_rfl) rfl #[.int .i64 a0] rfl (by (try simp only [List.map_toArray, List.map_cons, List.map_nil]); first | done | rfl | (simp only [List.length_drop, List.length_take]; rfl)) ?_; (with_reducible refine (impl_isCars.calls a0 true _ A2.out).mono ?_); rintro e w' ⟨rfl, ⟨nd, rfl⟩⟩; refine ⟨_, rfl, ?_⟩) | ((with_reducible refine gate_callee (f := 90) rfl ?_); refine goesL_ (some 8) rfl rfl Try.func90 (by kernel_rfl) rfl #[.int .i64 a0] rfl (by (try simp only [List.map_toArray, List.map_cons, List.map_nil]); first | done | rfl | (simp only [List.length_drop, List.length_take]; rfl)) ?_; (with_reducible refine (impl_countParking.calls k a0 t651 _ A4.out).mono ?_); rintro e w5 ⟨rfl, hb⟩; refine ⟨_, rfl, ?_⟩; have n0_ := Aside0.mk (below_step (by repeat (first | (with_reducible first | exact HB.out | apply below_alloc | apply pw_below_drewN | apply below_drew1) | exact HB.out)) hb); clear HB; have HB := n0_; clear n0_; (try clear hb); (try clear hb2); (try clear hk); (try clear hi)))
    go_ret2
    exact ⟨by first | rfl | (simp [errW_none, errW_some] <;> rfl) | (simp [*, errW_none, errW_some] <;> rfl), by repeat (first | (with_reducible first | exact HB.out | apply below_alloc | apply pw_below_drewN | apply below_drew1) | exact HB.out)⟩
  · replace c3 := Bool.eq_false_iff.mpr c3
    subst c3
    have H1 : (some (0, false)) = some (r1, r2) := by rw [if_neg (show ¬ (false = true) by decide)] at H; exact H
    clear H
    have H := H1
    clear H1
    simp only [Option.some.injEq, Prod.mk.injEq] at H
    obtain ⟨rfl, rfl⟩ := H
    go_enter Try.func40, Try.ntmps40
    go_wp2_with (first | ((with_reducible refine gate_callee (f := 89) rfl ?_); refine goesL_ (some 5) rfl rfl Try.func89 (by kernel_rfl) rfl #[.int .i64 a0] rfl (by (try simp only [List.map_toArray, List.map_cons, List.map_nil]); first | done | rfl | (simp only [List.length_drop, List.length_take]; rfl)) ?_; (with_reducible refine (impl_isCars.calls a0 false _ A2.out).mono ?_); rintro e w' ⟨rfl, ⟨nd, rfl⟩⟩; refine ⟨_, rfl, ?_⟩))
    go_ret2
    exact ⟨by first | rfl | (simp [errW_none, errW_some] <;> rfl) | (simp [*, errW_none, errW_some] <;> rfl), by repeat (first | (with_reducible first | exact HB.out | apply below_alloc | apply pw_below_drewN | apply below_drew1) | exact HB.out)⟩
/-! ### laws_FnCarsThatLookBack: function 8 -/
mutual
def laws_FnCarsThatLookBack.j0 : Nat → List Int → List Int → Int → Bool → Option (Bool)
  | 0, _, _, _, _ => none
  | k + 1, x1, x5, x6, x97 => if x97 = true then (some false) else ((impl_LeastBack.f k x5 x6).bind fun bt671 => ((spec_LeastBack.f k x5 x6).bind fun bt673 => (if (bt671.2 != bt673.2) = true then (laws_FnCarsThatLookBack.j1 k x1 x5 x6 bt671.1 bt671.2 true) else (laws_FnCarsThatLookBack.j1 k x1 x5 x6 bt671.1 bt671.2 (bt671.1 != bt673.1)))))
def laws_FnCarsThatLookBack.j1 : Nat → List Int → List Int → Int → Int → Bool → Bool → Option (Bool)
  | 0, _, _, _, _, _, _ => none
  | k + 1, x1, x5, x6, x16, x17, x117 => if x117 = true then (some false) else ((impl_AreFavourites.f x5 x6).bind fun t675 => (if t675 = true then (laws_FnCarsThatLookBack.l0 k x1 x5 x6 x16 x17 0) else (laws_FnCarsThatLookBack.j3 k x1)))
def laws_FnCarsThatLookBack.j3 : Nat → List Int → Option (Bool)
  | 0, _ => none
  | k + 1, x1 => (spec_DrawCountBack.f x1).bind fun bt687 => ((impl_CountBack.f k bt687.1 bt687.2).bind fun bt689 => ((spec_CountBack.f k bt687.1 bt687.2).bind fun bt691 => (if (bt689.2 != bt691.2) = true then (laws_FnCarsThatLookBack.j4 k bt687.1 bt687.2 bt689.1 bt689.2 true) else (laws_FnCarsThatLookBack.j4 k bt687.1 bt687.2 bt689.1 bt689.2 (bt689.1 != bt691.1)))))
def laws_FnCarsThatLookBack.j4 : Nat → Int → Int → Int → Bool → Bool → Option (Bool)
  | 0, _, _, _, _, _ => none
  | k + 1, x27, x28, x29, x30, x189 => if x189 = true then (some false) else (if x30 = true then ((impl_CountParking.f k x27).bind fun bt693 => (laws_FnCarsThatLookBack.l1 k x27 x28 x29 bt693.1 bt693.2 1 0)) else (some true))
def laws_FnCarsThatLookBack.l1 : Nat → Int → Int → Int → Int → Bool → Int → Int → Option (Bool)
  | 0, _, _, _, _, _, _, _ => none
  | k + 1, x27, x28, x29, x33, x34, x35, x36 => if x36 < x27 then (laws_FnCarsThatLookBack.l1 k x27 x28 x29 x33 x34 (wrap64 (x35 * x27)) (wrap64 (x36 + 1))) else (if x34 = true then (if x33 ≤ x29 then (if x29 ≤ x35 then (if x28 > 0 then (if x28 < (wrap64 (x27 - 1)) then (some true) else (some (x29 == x35))) else (if x29 = x33 then (if x28 < (wrap64 (x27 - 1)) then (some true) else (some (x29 == x35))) else (some false))) else (some false)) else (some false)) else (some false))
def laws_FnCarsThatLookBack.l0 : Nat → List Int → List Int → Int → Int → Bool → Int → Option (Bool)
  | 0, _, _, _, _, _, _ => none
  | k + 1, x1, x5, x6, x16, x17, x20 => if x20 ≤ 8 then ((impl_DoParkBack.f k x5 x6 x20).bind fun bt676 => (if bt676.2 = true then (if x17 = true then (if (bt676.1 != (decide (x20 ≥ x16))) = true then (some false) else (laws_FnCarsThatLookBack.l0 k x1 x5 x6 x16 x17 (wrap64 (x20 + 1)))) else (if (bt676.1 != false) = true then (some false) else (laws_FnCarsThatLookBack.l0 k x1 x5 x6 x16 x17 (wrap64 (x20 + 1))))) else (some false))) else ((impl_DriveCars.f k x5 x6).bind fun bt678 => ((impl_DriveBack.f k x5 x6 0).bind fun bt682 => (if (bt678.2 != bt682.2) = true then (some false) else ((laws_jSame.f k bt678.1 bt682.1).bind fun t686 => (if t686 = true then (laws_FnCarsThatLookBack.j3 k x1) else (some false))))))
end
def laws_FnCarsThatLookBack.f (k : Nat) (l0 : List Int) (l1 : List Int) : Option (Bool) := (laws_big.f l0 l1).bind fun t652 => (if t652 = true then (some true) else ((spec_DrawDriveBack.f k l0).bind fun bt653 => ((impl_DriveBack.f k bt653.1 bt653.2.1 bt653.2.2).bind fun bt658 => ((spec_DriveBack.f k bt653.1 bt653.2.1 bt653.2.2).bind fun bt662 => ((impl_DoParkBack.f k bt653.1 bt653.2.1 bt653.2.2).bind fun bt666 => ((spec_DoParkBack.f k bt653.1 bt653.2.1 bt653.2.2).bind fun bt668 => (if (bt658.2 != bt662.2) = true then (laws_FnCarsThatLookBack.j0 k l1 bt653.1 bt653.2.1 true) else ((laws_jSame.f k bt658.1 bt662.1).bind fun t670 => (if t670 = true then (if (bt666.2 != bt668.2) = true then (laws_FnCarsThatLookBack.j0 k l1 bt653.1 bt653.2.1 true) else (if (bt666.1 != bt668.1) = true then (laws_FnCarsThatLookBack.j0 k l1 bt653.1 bt653.2.1 true) else (laws_FnCarsThatLookBack.j0 k l1 bt653.1 bt653.2.1 (bt658.2 != bt666.1)))) else (laws_FnCarsThatLookBack.j0 k l1 bt653.1 bt653.2.1 true))))))))))
theorem laws_FnCarsThatLookBack.mono_l : ∀ k, (∀ y0 y1 y2 y3, LeO (laws_FnCarsThatLookBack.j0 k y0 y1 y2 y3) (laws_FnCarsThatLookBack.j0 (k + 1) y0 y1 y2 y3)) ∧ (∀ y0 y1 y2 y3 y4 y5, LeO (laws_FnCarsThatLookBack.j1 k y0 y1 y2 y3 y4 y5) (laws_FnCarsThatLookBack.j1 (k + 1) y0 y1 y2 y3 y4 y5)) ∧ (∀ y0, LeO (laws_FnCarsThatLookBack.j3 k y0) (laws_FnCarsThatLookBack.j3 (k + 1) y0)) ∧ (∀ y0 y1 y2 y3 y4, LeO (laws_FnCarsThatLookBack.j4 k y0 y1 y2 y3 y4) (laws_FnCarsThatLookBack.j4 (k + 1) y0 y1 y2 y3 y4)) ∧ (∀ y0 y1 y2 y3 y4 y5 y6, LeO (laws_FnCarsThatLookBack.l1 k y0 y1 y2 y3 y4 y5 y6) (laws_FnCarsThatLookBack.l1 (k + 1) y0 y1 y2 y3 y4 y5 y6)) ∧ (∀ y0 y1 y2 y3 y4 y5, LeO (laws_FnCarsThatLookBack.l0 k y0 y1 y2 y3 y4 y5) (laws_FnCarsThatLookBack.l0 (k + 1) y0 y1 y2 y3 y4 y5))
  | 0 => ⟨fun _ _ _ _ r h => by simp [laws_FnCarsThatLookBack.j0] at h, fun _ _ _ _ _ _ r h => by simp [laws_FnCarsThatLookBack.j1] at h, fun _ r h => by simp [laws_FnCarsThatLookBack.j3] at h, fun _ _ _ _ _ r h => by simp [laws_FnCarsThatLookBack.j4] at h, fun _ _ _ _ _ _ _ r h => by simp [laws_FnCarsThatLookBack.l1] at h, fun _ _ _ _ _ _ r h => by simp [laws_FnCarsThatLookBack.l0] at h⟩
  | k + 1 => by
    obtain ⟨ih0, ih1, ih2, ih3, ih4, ih5⟩ := laws_FnCarsThatLookBack.mono_l k
    refine ⟨?_, ?_, ?_, ?_, ?_, ?_⟩
    · intro y0 y1 y2 y3
      unfold laws_FnCarsThatLookBack.j0
      repeat' first
      | (with_reducible exact ih0 _ _ _ _)
      | (with_reducible exact ih1 _ _ _ _ _ _)
      | (with_reducible exact ih2 _)
      | (with_reducible exact ih3 _ _ _ _ _)
      | (with_reducible exact ih4 _ _ _ _ _ _ _)
      | (with_reducible exact ih5 _ _ _ _ _ _)
      | (with_reducible exact impl_CountBack.mono _ _ _)
      | (with_reducible exact impl_CountParking.mono _ _)
      | (with_reducible exact impl_DoParkBack.mono _ _ _ _)
      | (with_reducible exact impl_DriveBack.mono _ _ _ _)
      | (with_reducible exact impl_DriveCars.mono _ _ _)
      | (with_reducible exact impl_LeastBack.mono _ _ _)
      | (with_reducible exact laws_jSame.mono _ _ _)
      | (with_reducible exact spec_CountBack.mono _ _ _)
      | (with_reducible exact spec_DoParkBack.mono _ _ _ _)
      | (with_reducible exact spec_DrawDriveBack.mono _ _)
      | (with_reducible exact spec_DriveBack.mono _ _ _ _)
      | (with_reducible exact spec_LeastBack.mono _ _ _)
      | (with_reducible exact LeO.refl _)
      | (with_reducible exact LeO.none _)
      | (with_reducible refine LeO.ite ?_ ?_)
      | (with_reducible refine LeO.bind ?_ (fun _ => ?_))
      | exact ih0 _ _ _ _
      | exact ih1 _ _ _ _ _ _
      | exact ih2 _
      | exact ih3 _ _ _ _ _
      | exact ih4 _ _ _ _ _ _ _
      | exact ih5 _ _ _ _ _ _
      | exact impl_CountBack.mono _ _ _
      | exact impl_CountParking.mono _ _
      | exact impl_DoParkBack.mono _ _ _ _
      | exact impl_DriveBack.mono _ _ _ _
      | exact impl_DriveCars.mono _ _ _
      | exact impl_LeastBack.mono _ _ _
      | exact laws_jSame.mono _ _ _
      | exact spec_CountBack.mono _ _ _
      | exact spec_DoParkBack.mono _ _ _ _
      | exact spec_DrawDriveBack.mono _ _
      | exact spec_DriveBack.mono _ _ _ _
      | exact spec_LeastBack.mono _ _ _
      | exact LeO.none _
      | refine LeO.ite ?_ ?_
      | refine LeO.bind ?_ (fun _ => ?_)
    · intro y0 y1 y2 y3 y4 y5
      unfold laws_FnCarsThatLookBack.j1
      repeat' first
      | (with_reducible exact ih0 _ _ _ _)
      | (with_reducible exact ih1 _ _ _ _ _ _)
      | (with_reducible exact ih2 _)
      | (with_reducible exact ih3 _ _ _ _ _)
      | (with_reducible exact ih4 _ _ _ _ _ _ _)
      | (with_reducible exact ih5 _ _ _ _ _ _)
      | (with_reducible exact impl_CountBack.mono _ _ _)
      | (with_reducible exact impl_CountParking.mono _ _)
      | (with_reducible exact impl_DoParkBack.mono _ _ _ _)
      | (with_reducible exact impl_DriveBack.mono _ _ _ _)
      | (with_reducible exact impl_DriveCars.mono _ _ _)
      | (with_reducible exact impl_LeastBack.mono _ _ _)
      | (with_reducible exact laws_jSame.mono _ _ _)
      | (with_reducible exact spec_CountBack.mono _ _ _)
      | (with_reducible exact spec_DoParkBack.mono _ _ _ _)
      | (with_reducible exact spec_DrawDriveBack.mono _ _)
      | (with_reducible exact spec_DriveBack.mono _ _ _ _)
      | (with_reducible exact spec_LeastBack.mono _ _ _)
      | (with_reducible exact LeO.refl _)
      | (with_reducible exact LeO.none _)
      | (with_reducible refine LeO.ite ?_ ?_)
      | (with_reducible refine LeO.bind ?_ (fun _ => ?_))
      | exact ih0 _ _ _ _
      | exact ih1 _ _ _ _ _ _
      | exact ih2 _
      | exact ih3 _ _ _ _ _
      | exact ih4 _ _ _ _ _ _ _
      | exact ih5 _ _ _ _ _ _
      | exact impl_CountBack.mono _ _ _
      | exact impl_CountParking.mono _ _
      | exact impl_DoParkBack.mono _ _ _ _
      | exact impl_DriveBack.mono _ _ _ _
      | exact impl_DriveCars.mono _ _ _
      | exact impl_LeastBack.mono _ _ _
      | exact laws_jSame.mono _ _ _
      | exact spec_CountBack.mono _ _ _
      | exact spec_DoParkBack.mono _ _ _ _
      | exact spec_DrawDriveBack.mono _ _
      | exact spec_DriveBack.mono _ _ _ _
      | exact spec_LeastBack.mono _ _ _
      | exact LeO.none _
      | refine LeO.ite ?_ ?_
      | refine LeO.bind ?_ (fun _ => ?_)
    · intro y0
      unfold laws_FnCarsThatLookBack.j3
      repeat' first
      | (with_reducible exact ih0 _ _ _ _)
      | (with_reducible exact ih1 _ _ _ _ _ _)
      | (with_reducible exact ih2 _)
      | (with_reducible exact ih3 _ _ _ _ _)
      | (with_reducible exact ih4 _ _ _ _ _ _ _)
      | (with_reducible exact ih5 _ _ _ _ _ _)
      | (with_reducible exact impl_CountBack.mono _ _ _)
      | (with_reducible exact impl_CountParking.mono _ _)
      | (with_reducible exact impl_DoParkBack.mono _ _ _ _)
      | (with_reducible exact impl_DriveBack.mono _ _ _ _)
      | (with_reducible exact impl_DriveCars.mono _ _ _)
      | (with_reducible exact impl_LeastBack.mono _ _ _)
      | (with_reducible exact laws_jSame.mono _ _ _)
      | (with_reducible exact spec_CountBack.mono _ _ _)
      | (with_reducible exact spec_DoParkBack.mono _ _ _ _)
      | (with_reducible exact spec_DrawDriveBack.mono _ _)
      | (with_reducible exact spec_DriveBack.mono _ _ _ _)
      | (with_reducible exact spec_LeastBack.mono _ _ _)
      | (with_reducible exact LeO.refl _)
      | (with_reducible exact LeO.none _)
      | (with_reducible refine LeO.ite ?_ ?_)
      | (with_reducible refine LeO.bind ?_ (fun _ => ?_))
      | exact ih0 _ _ _ _
      | exact ih1 _ _ _ _ _ _
      | exact ih2 _
      | exact ih3 _ _ _ _ _
      | exact ih4 _ _ _ _ _ _ _
      | exact ih5 _ _ _ _ _ _
      | exact impl_CountBack.mono _ _ _
      | exact impl_CountParking.mono _ _
      | exact impl_DoParkBack.mono _ _ _ _
      | exact impl_DriveBack.mono _ _ _ _
      | exact impl_DriveCars.mono _ _ _
      | exact impl_LeastBack.mono _ _ _
      | exact laws_jSame.mono _ _ _
      | exact spec_CountBack.mono _ _ _
      | exact spec_DoParkBack.mono _ _ _ _
      | exact spec_DrawDriveBack.mono _ _
      | exact spec_DriveBack.mono _ _ _ _
      | exact spec_LeastBack.mono _ _ _
      | exact LeO.none _
      | refine LeO.ite ?_ ?_
      | refine LeO.bind ?_ (fun _ => ?_)
    · intro y0 y1 y2 y3 y4
      unfold laws_FnCarsThatLookBack.j4
      repeat' first
      | (with_reducible exact ih0 _ _ _ _)
      | (with_reducible exact ih1 _ _ _ _ _ _)
      | (with_reducible exact ih2 _)
      | (with_reducible exact ih3 _ _ _ _ _)
      | (with_reducible exact ih4 _ _ _ _ _ _ _)
      | (with_reducible exact ih5 _ _ _ _ _ _)
      | (with_reducible exact impl_CountBack.mono _ _ _)
      | (with_reducible exact impl_CountParking.mono _ _)
      | (with_reducible exact impl_DoParkBack.mono _ _ _ _)
      | (with_reducible exact impl_DriveBack.mono _ _ _ _)
      | (with_reducible exact impl_DriveCars.mono _ _ _)
      | (with_reducible exact impl_LeastBack.mono _ _ _)
      | (with_reducible exact laws_jSame.mono _ _ _)
      | (with_reducible exact spec_CountBack.mono _ _ _)
      | (with_reducible exact spec_DoParkBack.mono _ _ _ _)
      | (with_reducible exact spec_DrawDriveBack.mono _ _)
      | (with_reducible exact spec_DriveBack.mono _ _ _ _)
      | (with_reducible exact spec_LeastBack.mono _ _ _)
      | (with_reducible exact LeO.refl _)
      | (with_reducible exact LeO.none _)
      | (with_reducible refine LeO.ite ?_ ?_)
      | (with_reducible refine LeO.bind ?_ (fun _ => ?_))
      | exact ih0 _ _ _ _
      | exact ih1 _ _ _ _ _ _
      | exact ih2 _
      | exact ih3 _ _ _ _ _
      | exact ih4 _ _ _ _ _ _ _
      | exact ih5 _ _ _ _ _ _
      | exact impl_CountBack.mono _ _ _
      | exact impl_CountParking.mono _ _
      | exact impl_DoParkBack.mono _ _ _ _
      | exact impl_DriveBack.mono _ _ _ _
      | exact impl_DriveCars.mono _ _ _
      | exact impl_LeastBack.mono _ _ _
      | exact laws_jSame.mono _ _ _
      | exact spec_CountBack.mono _ _ _
      | exact spec_DoParkBack.mono _ _ _ _
      | exact spec_DrawDriveBack.mono _ _
      | exact spec_DriveBack.mono _ _ _ _
      | exact spec_LeastBack.mono _ _ _
      | exact LeO.none _
      | refine LeO.ite ?_ ?_
      | refine LeO.bind ?_ (fun _ => ?_)
    · intro y0 y1 y2 y3 y4 y5 y6
      unfold laws_FnCarsThatLookBack.l1
      repeat' first
      | (with_reducible exact ih0 _ _ _ _)
      | (with_reducible exact ih1 _ _ _ _ _ _)
      | (with_reducible exact ih2 _)
      | (with_reducible exact ih3 _ _ _ _ _)
      | (with_reducible exact ih4 _ _ _ _ _ _ _)
      | (with_reducible exact ih5 _ _ _ _ _ _)
      | (with_reducible exact impl_CountBack.mono _ _ _)
      | (with_reducible exact impl_CountParking.mono _ _)
      | (with_reducible exact impl_DoParkBack.mono _ _ _ _)
      | (with_reducible exact impl_DriveBack.mono _ _ _ _)
      | (with_reducible exact impl_DriveCars.mono _ _ _)
      | (with_reducible exact impl_LeastBack.mono _ _ _)
      | (with_reducible exact laws_jSame.mono _ _ _)
      | (with_reducible exact spec_CountBack.mono _ _ _)
      | (with_reducible exact spec_DoParkBack.mono _ _ _ _)
      | (with_reducible exact spec_DrawDriveBack.mono _ _)
      | (with_reducible exact spec_DriveBack.mono _ _ _ _)
      | (with_reducible exact spec_LeastBack.mono _ _ _)
      | (with_reducible exact LeO.refl _)
      | (with_reducible exact LeO.none _)
      | (with_reducible refine LeO.ite ?_ ?_)
      | (with_reducible refine LeO.bind ?_ (fun _ => ?_))
      | exact ih0 _ _ _ _
      | exact ih1 _ _ _ _ _ _
      | exact ih2 _
      | exact ih3 _ _ _ _ _
      | exact ih4 _ _ _ _ _ _ _
      | exact ih5 _ _ _ _ _ _
      | exact impl_CountBack.mono _ _ _
      | exact impl_CountParking.mono _ _
      | exact impl_DoParkBack.mono _ _ _ _
      | exact impl_DriveBack.mono _ _ _ _
      | exact impl_DriveCars.mono _ _ _
      | exact impl_LeastBack.mono _ _ _
      | exact laws_jSame.mono _ _ _
      | exact spec_CountBack.mono _ _ _
      | exact spec_DoParkBack.mono _ _ _ _
      | exact spec_DrawDriveBack.mono _ _
      | exact spec_DriveBack.mono _ _ _ _
      | exact spec_LeastBack.mono _ _ _
      | exact LeO.none _
      | refine LeO.ite ?_ ?_
      | refine LeO.bind ?_ (fun _ => ?_)
    · intro y0 y1 y2 y3 y4 y5
      unfold laws_FnCarsThatLookBack.l0
      repeat' first
      | (with_reducible exact ih0 _ _ _ _)
      | (with_reducible exact ih1 _ _ _ _ _ _)
      | (with_reducible exact ih2 _)
      | (with_reducible exact ih3 _ _ _ _ _)
      | (with_reducible exact ih4 _ _ _ _ _ _ _)
      | (with_reducible exact ih5 _ _ _ _ _ _)
      | (with_reducible exact impl_CountBack.mono _ _ _)
      | (with_reducible exact impl_CountParking.mono _ _)
      | (with_reducible exact impl_DoParkBack.mono _ _ _ _)
      | (with_reducible exact impl_DriveBack.mono _ _ _ _)
      | (with_reducible exact impl_DriveCars.mono _ _ _)
      | (with_reducible exact impl_LeastBack.mono _ _ _)
      | (with_reducible exact laws_jSame.mono _ _ _)
      | (with_reducible exact spec_CountBack.mono _ _ _)
      | (with_reducible exact spec_DoParkBack.mono _ _ _ _)
      | (with_reducible exact spec_DrawDriveBack.mono _ _)
      | (with_reducible exact spec_DriveBack.mono _ _ _ _)
      | (with_reducible exact spec_LeastBack.mono _ _ _)
      | (with_reducible exact LeO.refl _)
      | (with_reducible exact LeO.none _)
      | (with_reducible refine LeO.ite ?_ ?_)
      | (with_reducible refine LeO.bind ?_ (fun _ => ?_))
      | exact ih0 _ _ _ _
      | exact ih1 _ _ _ _ _ _
      | exact ih2 _
      | exact ih3 _ _ _ _ _
      | exact ih4 _ _ _ _ _ _ _
      | exact ih5 _ _ _ _ _ _
      | exact impl_CountBack.mono _ _ _
      | exact impl_CountParking.mono _ _
      | exact impl_DoParkBack.mono _ _ _ _
      | exact impl_DriveBack.mono _ _ _ _
      | exact impl_DriveCars.mono _ _ _
      | exact impl_LeastBack.mono _ _ _
      | exact laws_jSame.mono _ _ _
      | exact spec_CountBack.mono _ _ _
      | exact spec_DoParkBack.mono _ _ _ _
      | exact spec_DrawDriveBack.mono _ _
      | exact spec_DriveBack.mono _ _ _ _
      | exact spec_LeastBack.mono _ _ _
      | exact LeO.none _
      | refine LeO.ite ?_ ?_
      | refine LeO.bind ?_ (fun _ => ?_)
theorem laws_FnCarsThatLookBack.mono : ∀ a0 a1 k, LeO (laws_FnCarsThatLookBack.f k a0 a1) (laws_FnCarsThatLookBack.f (k + 1) a0 a1) := by
  intro a0 a1 k
  obtain ⟨ih0, ih1, ih2, ih3, ih4, ih5⟩ := laws_FnCarsThatLookBack.mono_l k
  unfold laws_FnCarsThatLookBack.f
  repeat' first
      | (with_reducible exact ih0 _ _ _ _)
      | (with_reducible exact ih1 _ _ _ _ _ _)
      | (with_reducible exact ih2 _)
      | (with_reducible exact ih3 _ _ _ _ _)
      | (with_reducible exact ih4 _ _ _ _ _ _ _)
      | (with_reducible exact ih5 _ _ _ _ _ _)
      | (with_reducible exact impl_CountBack.mono _ _ _)
      | (with_reducible exact impl_CountParking.mono _ _)
      | (with_reducible exact impl_DoParkBack.mono _ _ _ _)
      | (with_reducible exact impl_DriveBack.mono _ _ _ _)
      | (with_reducible exact impl_DriveCars.mono _ _ _)
      | (with_reducible exact impl_LeastBack.mono _ _ _)
      | (with_reducible exact laws_jSame.mono _ _ _)
      | (with_reducible exact spec_CountBack.mono _ _ _)
      | (with_reducible exact spec_DoParkBack.mono _ _ _ _)
      | (with_reducible exact spec_DrawDriveBack.mono _ _)
      | (with_reducible exact spec_DriveBack.mono _ _ _ _)
      | (with_reducible exact spec_LeastBack.mono _ _ _)
      | (with_reducible exact LeO.refl _)
      | (with_reducible exact LeO.none _)
      | (with_reducible refine LeO.ite ?_ ?_)
      | (with_reducible refine LeO.bind ?_ (fun _ => ?_))
      | exact ih0 _ _ _ _
      | exact ih1 _ _ _ _ _ _
      | exact ih2 _
      | exact ih3 _ _ _ _ _
      | exact ih4 _ _ _ _ _ _ _
      | exact ih5 _ _ _ _ _ _
      | exact impl_CountBack.mono _ _ _
      | exact impl_CountParking.mono _ _
      | exact impl_DoParkBack.mono _ _ _ _
      | exact impl_DriveBack.mono _ _ _ _
      | exact impl_DriveCars.mono _ _ _
      | exact impl_LeastBack.mono _ _ _
      | exact laws_jSame.mono _ _ _
      | exact spec_CountBack.mono _ _ _
      | exact spec_DoParkBack.mono _ _ _ _
      | exact spec_DrawDriveBack.mono _ _
      | exact spec_DriveBack.mono _ _ _ _
      | exact spec_LeastBack.mono _ _ _
      | exact LeO.none _
      | refine LeO.ite ?_ ?_
      | refine LeO.bind ?_ (fun _ => ?_)
set_option maxHeartbeats 8000000 in
set_option maxRecDepth 100000 in
theorem laws_FnCarsThatLookBack.calls (k : Nat) (A0 : Option Addr) (c0 : Nat) (l0 : List Int) (A1 : Option Addr) (c1 : Nat) (l1 : List Int) (r : Bool) (w : World) (hr0 : Kd.C (Kd.int .u8) w A0 l0.length l0) (hc0 : l0.length ≤ c0) (hr1 : Kd.C (Kd.int .u8) w A1 l1.length l1) (hc1 : l1.length ≤ c1) (h : laws_FnCarsThatLookBack.f k l0 l1 = some r) :
    Calls Try.prog 8 #[.slice A0 l0.length c0, .slice A1 l1.length c1] w fun e w' => e = .returned (.bool r) ∧ Below w.heap.size w w' := by
  have HR0 := Aside0.mk hr0
  have HC0 := Aside0.mk hc0
  clear hr0 hc0
  have HR1 := Aside0.mk hr1
  have HC1 := Aside0.mk hc1
  clear hr1 hc1
  have HB := Aside0.mk (Below.refl w.heap.size w)
  have H : ((laws_big.f l0 l1).bind fun t652 => (if t652 = true then (some true) else ((spec_DrawDriveBack.f k l0).bind fun bt653 => ((impl_DriveBack.f k bt653.1 bt653.2.1 bt653.2.2).bind fun bt658 => ((spec_DriveBack.f k bt653.1 bt653.2.1 bt653.2.2).bind fun bt662 => ((impl_DoParkBack.f k bt653.1 bt653.2.1 bt653.2.2).bind fun bt666 => ((spec_DoParkBack.f k bt653.1 bt653.2.1 bt653.2.2).bind fun bt668 => (if (bt658.2 != bt662.2) = true then (laws_FnCarsThatLookBack.j0 k l1 bt653.1 bt653.2.1 true) else ((laws_jSame.f k bt658.1 bt662.1).bind fun t670 => (if t670 = true then (if (bt666.2 != bt668.2) = true then (laws_FnCarsThatLookBack.j0 k l1 bt653.1 bt653.2.1 true) else (if (bt666.1 != bt668.1) = true then (laws_FnCarsThatLookBack.j0 k l1 bt653.1 bt653.2.1 true) else (laws_FnCarsThatLookBack.j0 k l1 bt653.1 bt653.2.1 (bt658.2 != bt666.1)))) else (laws_FnCarsThatLookBack.j0 k l1 bt653.1 bt653.2.1 true))))))))))) = some r := h
  clear h
  replace H := Option.bind_eq_some_iff.mp H
  obtain ⟨t652, A30, H⟩ := H
  replace H : (if t652 = true then (some true) else ((spec_DrawDriveBack.f k l0).bind fun bt653 => ((impl_DriveBack.f k bt653.1 bt653.2.1 bt653.2.2).bind fun bt658 => ((spec_DriveBack.f k bt653.1 bt653.2.1 bt653.2.2).bind fun bt662 => ((impl_DoParkBack.f k bt653.1 bt653.2.1 bt653.2.2).bind fun bt666 => ((spec_DoParkBack.f k bt653.1 bt653.2.1 bt653.2.2).bind fun bt668 => (if (bt658.2 != bt662.2) = true then (laws_FnCarsThatLookBack.j0 k l1 bt653.1 bt653.2.1 true) else ((laws_jSame.f k bt658.1 bt662.1).bind fun t670 => (if t670 = true then (if (bt666.2 != bt668.2) = true then (laws_FnCarsThatLookBack.j0 k l1 bt653.1 bt653.2.1 true) else (if (bt666.1 != bt668.1) = true then (laws_FnCarsThatLookBack.j0 k l1 bt653.1 bt653.2.1 true) else (laws_FnCarsThatLookBack.j0 k l1 bt653.1 bt653.2.1 (bt658.2 != bt666.1)))) else (laws_FnCarsThatLookBack.j0 k l1 bt653.1 bt653.2.1 true)))))))))) = some r := H
  have A3 := Aside0.mk A30
  clear A30
  by_cases c4 : t652 = true
  · subst c4
    have H1 : (some true) = some r := by rw [if_pos rfl] at H; exact H
    clear H
    have H := H1
    clear H1
    obtain rfl := Option.some.inj H
    go_enter Try.func8, Try.ntmps8
    go_wp2_with (first | ((with_reducible refine gate_callee (f := 17) rfl ?_); refine goesL_ (some 39) rfl rfl Try.func17 (by kernel_rfl) rfl #[.slice A0 l0.length c0, .slice A1 l1.length c1] rfl (by (try simp only [List.map_toArray, List.map_cons, List.map_nil]); first | done | rfl | (simp only [List.length_drop, List.length_take]; rfl)) ?_; (with_reducible refine (laws_big.calls _ _ l0 _ _ l1 true _ ?side1 ?side2 ?side3 ?side4 A3.out).mono ?_); (case side1 => repeat (first | exact HR0.out | (with_reducible refine Kd.C_alloc ?_ _) | (with_reducible refine Kd.C_drewN ?_ _) | (with_reducible refine Kd.C_drew ?_))); (case side2 => exact HC0.out); (case side3 => repeat (first | exact HR1.out | (with_reducible refine Kd.C_alloc ?_ _) | (with_reducible refine Kd.C_drewN ?_ _) | (with_reducible refine Kd.C_drew ?_))); (case side4 => exact HC1.out); rintro e w' ⟨rfl, ⟨nd, rfl⟩⟩; refine ⟨_, rfl, ?_⟩))
    go_ret
    exact ⟨by first | rfl | (simp [errW_none, errW_some] <;> rfl) | (simp [*, errW_none, errW_some] <;> rfl), by repeat (first | (with_reducible first | exact HB.out | apply below_alloc | apply pw_below_drewN | apply below_drew1) | exact HB.out)⟩
  · as_aux_lemma =>
    replace c4 := Bool.eq_false_iff.mpr c4
    subst c4
    have H1 : ((spec_DrawDriveBack.f k l0).bind fun bt653 => ((impl_DriveBack.f k bt653.1 bt653.2.1 bt653.2.2).bind fun bt658 => ((spec_DriveBack.f k bt653.1 bt653.2.1 bt653.2.2).bind fun bt662 => ((impl_DoParkBack.f k bt653.1 bt653.2.1 bt653.2.2).bind fun bt666 => ((spec_DoParkBack.f k bt653.1 bt653.2.1 bt653.2.2).bind fun bt668 => (if (bt658.2 != bt662.2) = true then (laws_FnCarsThatLookBack.j0 k l1 bt653.1 bt653.2.1 true) else ((laws_jSame.f k bt658.1 bt662.1).bind fun t670 => (if t670 = true then (if (bt666.2 != bt668.2) = true then (laws_FnCarsThatLookBack.j0 k l1 bt653.1 bt653.2.1 true) else (if (bt666.1 != bt668.1) = true then (laws_FnCarsThatLookBack.j0 k l1 bt653.1 bt653.2.1 true) else (laws_FnCarsThatLookBack.j0 k l1 bt653.1 bt653.2.1 (bt658.2 != bt666.1)))) else (laws_FnCarsThatLookBack.j0 k l1 bt653.1 bt653.2.1 true))))))))) = some r := by rw [if_neg (show ¬ (false = true) by decide)] at H; exact H
    clear H
    have H := H1
    clear H1
    replace H := Option.bind_eq_some_iff.mp H
    obtain ⟨⟨t653, t654, t655⟩, A50, H⟩ := H
    replace H : ((impl_DriveBack.f k t653 t654 t655).bind fun bt658 => ((spec_DriveBack.f k t653 t654 t655).bind fun bt662 => ((impl_DoParkBack.f k t653 t654 t655).bind fun bt666 => ((spec_DoParkBack.f k t653 t654 t655).bind fun bt668 => (if (bt658.2 != bt662.2) = true then (laws_FnCarsThatLookBack.j0 k l1 t653 t654 true) else ((laws_jSame.f k bt658.1 bt662.1).bind fun t670 => (if t670 = true then (if (bt666.2 != bt668.2) = true then (laws_FnCarsThatLookBack.j0 k l1 t653 t654 true) else (if (bt666.1 != bt668.1) = true then (laws_FnCarsThatLookBack.j0 k l1 t653 t654 true) else (laws_FnCarsThatLookBack.j0 k l1 t653 t654 (bt658.2 != bt666.1)))) else (laws_FnCarsThatLookBack.j0 k l1 t653 t654 true)))))))) = some r := H
    have A5 := Aside0.mk A50
    clear A50
    replace H := Option.bind_eq_some_iff.mp H
    obtain ⟨⟨t658, t659⟩, A60, H⟩ := H
    replace H : ((spec_DriveBack.f k t653 t654 t655).bind fun bt662 => ((impl_DoParkBack.f k t653 t654 t655).bind fun bt666 => ((spec_DoParkBack.f k t653 t654 t655).bind fun bt668 => (if (t659 != bt662.2) = true then (laws_FnCarsThatLookBack.j0 k l1 t653 t654 true) else ((laws_jSame.f k t658 bt662.1).bind fun t670 => (if t670 = true then (if (bt666.2 != bt668.2) = true then (laws_FnCarsThatLookBack.j0 k l1 t653 t654 true) else (if (bt666.1 != bt668.1) = true then (laws_FnCarsThatLookBack.j0 k l1 t653 t654 true) else (laws_FnCarsThatLookBack.j0 k l1 t653 t654 (t659 != bt666.1)))) else (laws_FnCarsThatLookBack.j0 k l1 t653 t654 true))))))) = some r := H
    have A6 := Aside0.mk A60
    clear A60
    replace H := Option.bind_eq_some_iff.mp H
    obtain ⟨⟨t662, t663⟩, A70, H⟩ := H
    replace H : ((impl_DoParkBack.f k t653 t654 t655).bind fun bt666 => ((spec_DoParkBack.f k t653 t654 t655).bind fun bt668 => (if (t659 != t663) = true then (laws_FnCarsThatLookBack.j0 k l1 t653 t654 true) else ((laws_jSame.f k t658 t662).bind fun t670 => (if t670 = true then (if (bt666.2 != bt668.2) = true then (laws_FnCarsThatLookBack.j0 k l1 t653 t654 true) else (if (bt666.1 != bt668.1) = true then (laws_FnCarsThatLookBack.j0 k l1 t653 t654 true) else (laws_FnCarsThatLookBack.j0 k l1 t653 t654 (t659 != bt666.1)))) else (laws_FnCarsThatLookBack.j0 k l1 t653 t654 true)))))) = some r := H
    have A7 := Aside0.mk A70
    clear A70
    replace H := Option.bind_eq_some_iff.mp H
    obtain ⟨⟨t666, t667⟩, A80, H⟩ := H
    replace H : ((spec_DoParkBack.f k t653 t654 t655).bind fun bt668 => (if (t659 != t663) = true then (laws_FnCarsThatLookBack.j0 k l1 t653 t654 true) else ((laws_jSame.f k t658 t662).bind fun t670 => (if t670 = true then (if (t667 != bt668.2) = true then (laws_FnCarsThatLookBack.j0 k l1 t653 t654 true) else (if (t666 != bt668.1) = true then (laws_FnCarsThatLookBack.j0 k l1 t653 t654 true) else (laws_FnCarsThatLookBack.j0 k l1 t653 t654 (t659 != t666)))) else (laws_FnCarsThatLookBack.j0 k l1 t653 t654 true))))) = some r := H
    have A8 := Aside0.mk A80
    clear A80
    replace H := Option.bind_eq_some_iff.mp H
    obtain ⟨⟨t668, t669⟩, A90, H⟩ := H
    replace H : (if (t659 != t663) = true then (laws_FnCarsThatLookBack.j0 k l1 t653 t654 true) else ((laws_jSame.f k t658 t662).bind fun t670 => (if t670 = true then (if (t667 != t669) = true then (laws_FnCarsThatLookBack.j0 k l1 t653 t654 true) else (if (t666 != t668) = true then (laws_FnCarsThatLookBack.j0 k l1 t653 t654 true) else (laws_FnCarsThatLookBack.j0 k l1 t653 t654 (t659 != t666)))) else (laws_FnCarsThatLookBack.j0 k l1 t653 t654 true)))) = some r := H
    have A9 := Aside0.mk A90
    clear A90
    have HC10 := Aside0.mk H
    clear H
    go_enter Try.func8, Try.ntmps8
    go_upto_region 8 with (first | ((with_reducible refine gate_callee (f := 17) rfl ?_); refine goesL_ (some 39) rfl rfl Try.func17 (by kernel_rfl) rfl #[.slice A0 l0.length c0, .slice A1 l1.length c1] rfl (by (try simp only [List.map_toArray, List.map_cons, List.map_nil]); first | done | rfl | (simp only [List.length_drop, List.length_take]; rfl)) ?_; (with_reducible refine (laws_big.calls _ _ l0 _ _ l1 false _ ?side1 ?side2 ?side3 ?side4 A3.out).mono ?_); (case side1 => repeat (first | exact HR0.out | (with_reducible refine Kd.C_alloc ?_ _) | (with_reducible refine Kd.C_drewN ?_ _) | (with_reducible refine Kd.C_drew ?_))); (case side2 => exact HC0.out); (case side3 => repeat (first | exact HR1.out | (with_reducible refine Kd.C_alloc ?_ _) | (with_reducible refine Kd.C_drewN ?_ _) | (with_reducible refine Kd.C_drew ?_))); (case side4 => exact HC1.out); rintro e w' ⟨rfl, ⟨nd, rfl⟩⟩; refine ⟨_, rfl, ?_⟩) | ((with_reducible refine gate_callee (f := 29) rfl ?_); refine goesL_ (some 42) rfl rfl Try.func29 (by kernel_rfl) rfl #[.slice A0 l0.length c0] rfl (by (try simp only [List.map_toArray, List.map_cons, List.map_nil]); first | done | rfl | (simp only [List.length_drop, List.length_take]; rfl)) ?_; (with_reducible refine (spec_DrawDriveBack.calls k _ _ l0 t653 t654 t655 _ ?side1 ?side2 A5.out).mono ?_); (case side1 => repeat (first | exact HR0.out | (with_reducible refine Kd.C_alloc ?_ _) | (with_reducible refine Kd.C_drewN ?_ _) | (with_reducible refine Kd.C_drew ?_))); (case side2 => exact HC0.out); rintro e w11 ⟨v656, rfl, ho0, hb⟩; refine ⟨_, rfl, ?_⟩; have n0_ := Aside0.mk (Kd.R_lower ho0 (below_size (by repeat (first | (with_reducible first | exact HB.out | apply below_alloc | apply pw_below_drewN | apply below_drew1) | exact HB.out)))); have n1_ := Aside0.mk (below_step (by repeat (first | (with_reducible first | exact HB.out | apply below_alloc | apply pw_below_drewN | apply below_drew1) | exact HB.out)) hb); clear HB; have HO657 := n0_; have HB := n1_; clear n0_ n1_; (try clear hb); (try clear hb2); (try clear hk); (try clear hi); (try clear ho0); obtain ⟨Ao12, co12, eo12⟩ := Kd.R_slice HO657.out; subst eo12) | ((with_reducible refine gate_callee (f := 30) rfl ?_); refine goesL_ (some 50) rfl rfl Try.func30 (by kernel_rfl) rfl #[.slice Ao12 t653.length co12, .int .i64 t654, .int .i64 t655] rfl (by (try simp only [List.map_toArray, List.map_cons, List.map_nil]); first | done | rfl | (simp only [List.length_drop, List.length_take]; rfl)) ?_; (with_reducible refine (impl_DriveBack.calls k _ _ t653 t654 t655 t658 t659 _ ?side1 ?side2 A6.out).mono ?_); (case side1 => repeat (first | exact (Kd.R_reads' HO657.out).2.2 | (with_reducible refine Kd.C_alloc ?_ _) | (with_reducible refine Kd.C_drewN ?_ _) | (with_reducible refine Kd.C_drew ?_))); (case side2 => exact (Kd.R_reads' HO657.out).2.1); rintro e w13 ⟨v660, rfl, ho0, hb⟩; refine ⟨_, rfl, ?_⟩; have n0_ := Aside0.mk (Kd.R_elder' (by (with_reducible repeat (first | apply Kd.R_alloc | apply Kd.R_drewN | apply Kd.R_drew)); exact HO657.out) (Kd.R_base ho0) hb); have n1_ := Aside0.mk (Kd.R_lower (Kd.R_new' ho0 (Kd.R_lt (by (with_reducible repeat (first | apply Kd.R_alloc | apply Kd.R_drewN | apply Kd.R_drew)); exact HO657.out))) (below_size (by repeat (first | (with_reducible first | exact HB.out | apply below_alloc | apply pw_below_drewN | apply below_drew1) | exact HB.out)))); have n2_ := Aside0.mk (below_step (by repeat (first | (with_reducible first | exact HB.out | apply below_alloc | apply pw_below_drewN | apply below_drew1) | exact HB.out)) hb); clear HO657; clear HB; have HO657 := n0_; have HO661 := n1_; have HB := n2_; clear n0_ n1_ n2_; (try clear hb); (try clear hb2); (try clear hk); (try clear hi); (try clear ho0)) | ((with_reducible refine gate_callee (f := 31) rfl ?_); refine goesL_ (some 57) rfl rfl Try.func31 (by kernel_rfl) rfl #[.slice Ao12 t653.length co12, .int .i64 t654, .int .i64 t655] rfl (by (try simp only [List.map_toArray, List.map_cons, List.map_nil]); first | done | rfl | (simp only [List.length_drop, List.length_take]; rfl)) ?_; (with_reducible refine (spec_DriveBack.calls k _ _ t653 t654 t655 t662 t663 _ ?side1 ?side2 A7.out).mono ?_); (case side1 => repeat (first | exact (Kd.R_reads' HO657.out).2.2 | (with_reducible refine Kd.C_alloc ?_ _) | (with_reducible refine Kd.C_drewN ?_ _) | (with_reducible refine Kd.C_drew ?_))); (case side2 => exact (Kd.R_reads' HO657.out).2.1); rintro e w14 ⟨v664, rfl, ho0, hb⟩; refine ⟨_, rfl, ?_⟩; have n0_ := Aside0.mk (Kd.R_elder' (by (with_reducible repeat (first | apply Kd.R_alloc | apply Kd.R_drewN | apply Kd.R_drew)); exact HO657.out) (Kd.R_base ho0) hb); have n1_ := Aside0.mk (Kd.R_elder' (by (with_reducible repeat (first | apply Kd.R_alloc | apply Kd.R_drewN | apply Kd.R_drew)); exact HO661.out) (Kd.R_base ho0) hb); have n2_ := Aside0.mk (Kd.R_lower (Kd.R_new' (Kd.R_new' ho0 (Kd.R_lt (by (with_reducible repeat (first | apply Kd.R_alloc | apply Kd.R_drewN | apply Kd.R_drew)); exact HO657.out))) (Kd.R_lt (by (with_reducible repeat (first | apply Kd.R_alloc | apply Kd.R_drewN | apply Kd.R_drew)); exact HO661.out))) (below_size (by repeat (first | (with_reducible first | exact HB.out | apply below_alloc | apply pw_below_drewN | apply below_drew1) | exact HB.out)))); have n3_ := Aside0.mk (below_step (by repeat (first | (with_reducible first | exact HB.out | apply below_alloc | apply pw_below_drewN | apply below_drew1) | exact HB.out)) hb); clear HO657; clear HO661; clear HB; have HO657 := n0_; have HO661 := n1_; have HO665 := n2_; have HB := n3_; clear n0_ n1_ n2_ n3_; (try clear hb); (try clear hb2); (try clear hk); (try clear hi); (try clear ho0)) | ((with_reducible refine gate_callee (f := 32) rfl ?_); refine goesL_ (some 64) rfl rfl Try.func32 (by kernel_rfl) rfl #[.slice Ao12 t653.length co12, .int .i64 t654, .int .i64 t655] rfl (by (try simp only [List.map_toArray, List.map_cons, List.map_nil]); first | done | rfl | (simp only [List.length_drop, List.length_take]; rfl)) ?_; (with_reducible refine (impl_DoParkBack.calls k _ _ t653 t654 t655 t666 t667 _ ?side1 ?side2 A8.out).mono ?_); (case side1 => repeat (first | exact (Kd.R_reads' HO657.out).2.2 | (with_reducible refine Kd.C_alloc ?_ _) | (with_reducible refine Kd.C_drewN ?_ _) | (with_reducible refine Kd.C_drew ?_))); (case side2 => exact (Kd.R_reads' HO657.out).2.1); rintro e w15 ⟨rfl, hb⟩; refine ⟨_, rfl, ?_⟩; have n0_ := Aside0.mk (Kd.R_below (by (with_reducible repeat (first | apply Kd.R_alloc | apply Kd.R_drewN | apply Kd.R_drew)); exact HO657.out) hb); have n1_ := Aside0.mk (Kd.R_below (by (with_reducible repeat (first | apply Kd.R_alloc | apply Kd.R_drewN | apply Kd.R_drew)); exact HO661.out) hb); have n2_ := Aside0.mk (Kd.R_below (by (with_reducible repeat (first | apply Kd.R_alloc | apply Kd.R_drewN | apply Kd.R_drew)); exact HO665.out) hb); have n3_ := Aside0.mk (below_step (by repeat (first | (with_reducible first | exact HB.out | apply below_alloc | apply pw_below_drewN | apply below_drew1) | exact HB.out)) hb); clear HO657; clear HO661; clear HO665; clear HB; have HO657 := n0_; have HO661 := n1_; have HO665 := n2_; have HB := n3_; clear n0_ n1_ n2_ n3_; (try clear hb); (try clear hb2); (try clear hk); (try clear hi)) | ((with_reducible refine gate_callee (f := 33) rfl ?_); refine goesL_ (some 71) rfl rfl Try.func33 (by kernel_rfl) rfl #[.slice Ao12 t653.length co12, .int .i64 t654, .int .i64 t655] rfl (by (try simp only [List.map_toArray, List.map_cons, List.map_nil]); first | done | rfl | (simp only [List.length_drop, List.length_take]; rfl)) ?_; (with_reducible refine (spec_DoParkBack.calls k _ _ t653 t654 t655 t668 t669 _ ?side1 ?side2 A9.out).mono ?_); (case side1 => repeat (first | exact (Kd.R_reads' HO657.out).2.2 | (with_reducible refine Kd.C_alloc ?_ _) | (with_reducible refine Kd.C_drewN ?_ _) | (with_reducible refine Kd.C_drew ?_))); (case side2 => exact (Kd.R_reads' HO657.out).2.1); rintro e w16 ⟨rfl, hb⟩; refine ⟨_, rfl, ?_⟩; have n0_ := Aside0.mk (Kd.R_below (by (with_reducible repeat (first | apply Kd.R_alloc | apply Kd.R_drewN | apply Kd.R_drew)); exact HO657.out) hb); have n1_ := Aside0.mk (Kd.R_below (by (with_reducible repeat (first | apply Kd.R_alloc | apply Kd.R_drewN | apply Kd.R_drew)); exact HO661.out) hb); have n2_ := Aside0.mk (Kd.R_below (by (with_reducible repeat (first | apply Kd.R_alloc | apply Kd.R_drewN | apply Kd.R_drew)); exact HO665.out) hb); have n3_ := Aside0.mk (below_step (by repeat (first | (with_reducible first | exact HB.out | apply below_alloc | apply pw_below_drewN | apply below_drew1) | exact HB.out)) hb); clear HO657; clear HO661; clear HO665; clear HB; have HO657 := n0_; have HO661 := n1_; have HO665 := n2_; have HB := n3_; clear n0_ n1_ n2_ n3_; (try clear hb); (try clear hb2); (try clear hk); (try clear hi)))
    (try simp only [Act.put, List.setIfInBounds_toArray, List.set_cons_zero, List.set_cons_succ])
    go_cut [97] (fun v97 wc => ∃ (kq : Nat) (x97_9 : Bool), v97 = .bool x97_9 ∧ Aside0 (laws_FnCarsThatLookBack.j0 kq l1 t653 t654 x97_9 = some r) ∧ Aside0 (kq ≤ k) ∧ Aside0 (Kd.R (Kd.int .i64) 3 wc w.heap.size (fun _ => True) (.slice Ao12 t653.length co12) t653) ∧ Aside0 (Below w.heap.size w wc))
    case first =>
      have H := HC10.out
      clear HC10
      by_cases c17 : (t659 != t663) = true
      · rw [if_pos c17] at H
        have c17b0 : (t659 != t663) = true := c17
        (try (have c17b1 : decide (t659 = t663) = false := by simpa using c17))
        (try (have c17b2 : (t659 == t663) = false := by simpa using c17))
        (try (have c17b3 : ¬ (t659 = t663) := by simpa using c17))
        clear c17
        (first | rw [c17b0] | (simp only [i64_w, i32_w]; rw [c17b0]) | skip)
        have H' := Aside0.mk H
        clear H
        go_wp2
        go_meet
        case rel => exact ⟨_, (true), (by first | rfl | (simp; done) | (simp [*]; done)), H', ⟨by first | omega | exact Nat.le_refl _⟩, ⟨by (with_reducible repeat (first | apply Kd.R_alloc | apply Kd.R_drewN | apply Kd.R_drew)); exact Kd.R_mono HO657.out (fun _ hk => trivial)⟩, ⟨by repeat (first | (with_reducible first | exact HB.out | apply below_alloc | apply pw_below_drewN | apply below_drew1) | exact HB.out)⟩⟩
      · as_aux_lemma =>
        rw [if_neg c17] at H
        have c17b0 : (t659 != t663) = false := by simpa using c17
        (try (have c17b1 : decide (t659 = t663) = true := by simpa using c17))
        (try (have c17b2 : (t659 == t663) = true := by simpa using c17))
        clear c17
        (first | rw [c17b0] | (simp only [i64_w, i32_w]; rw [c17b0]) | skip)
        replace H := Option.bind_eq_some_iff.mp H
        obtain ⟨t670, A180, H⟩ := H
        replace H : (if t670 = true then (if (t667 != t669) = true then (laws_FnCarsThatLookBack.j0 k l1 t653 t654 true) else (if (t666 != t668) = true then (laws_FnCarsThatLookBack.j0 k l1 t653 t654 true) else (laws_FnCarsThatLookBack.j0 k l1 t653 t654 (t659 != t666)))) else (laws_FnCarsThatLookBack.j0 k l1 t653 t654 true)) = some r := H
        have A18 := Aside0.mk A180
        clear A180
        by_cases c19 : t670 = true
        · as_aux_lemma =>
          subst c19
          have H1 : (if (t667 != t669) = true then (laws_FnCarsThatLookBack.j0 k l1 t653 t654 true) else (if (t666 != t668) = true then (laws_FnCarsThatLookBack.j0 k l1 t653 t654 true) else (laws_FnCarsThatLookBack.j0 k l1 t653 t654 (t659 != t666)))) = some r := by rw [if_pos rfl] at H; exact H
          clear H
          have H := H1
          clear H1
          by_cases c20 : (t667 != t669) = true
          · rw [if_pos c20] at H
            have c20b0 : (t667 != t669) = true := c20
            (try (have c20b1 : decide (t667 = t669) = false := by simpa using c20))
            (try (have c20b2 : (t667 == t669) = false := by simpa using c20))
            (try (have c20b3 : ¬ (t667 = t669) := by simpa using c20))
            clear c20
            have H' := Aside0.mk H
            clear H
            obtain ⟨Ao21, co21, eo21⟩ := Kd.R_slice HO661.out
            subst eo21
            obtain ⟨Ao22, co22, eo22⟩ := Kd.R_slice HO665.out
            subst eo22
            go_wp2_with (first | (go_at_call 34; (with_reducible refine (laws_jSame.calls k _ _ t658 _ _ t662 true _ ?side1 ?side2 ?side3 ?side4 A18.out).mono ?_); (case side1 => repeat (first | exact (Kd.R_reads' HO661.out).2.2 | (with_reducible refine Kd.C_alloc ?_ _) | (with_reducible refine Kd.C_drewN ?_ _) | (with_reducible refine Kd.C_drew ?_))); (case side2 => exact (Kd.R_reads' HO661.out).2.1); (case side3 => repeat (first | exact (Kd.R_reads' HO665.out).2.2 | (with_reducible refine Kd.C_alloc ?_ _) | (with_reducible refine Kd.C_drewN ?_ _) | (with_reducible refine Kd.C_drew ?_))); (case side4 => exact (Kd.R_reads' HO665.out).2.1); rintro e w' ⟨rfl, ⟨nd, rfl⟩⟩))
            go_meet
            case rel => exact ⟨_, (true), (by first | rfl | (simp; done) | (simp [*]; done)), H', ⟨by first | omega | exact Nat.le_refl _⟩, ⟨by (with_reducible repeat (first | apply Kd.R_alloc | apply Kd.R_drewN | apply Kd.R_drew)); exact Kd.R_mono HO657.out (fun _ hk => trivial)⟩, ⟨by repeat (first | (with_reducible first | exact HB.out | apply below_alloc | apply pw_below_drewN | apply below_drew1) | exact HB.out)⟩⟩
          · rw [if_neg c20] at H
            have c20b0 : (t667 != t669) = false := by simpa using c20
            (try (have c20b1 : decide (t667 = t669) = true := by simpa using c20))
            (try (have c20b2 : (t667 == t669) = true := by simpa using c20))
            clear c20
            by_cases c23 : (t666 != t668) = true
            · rw [if_pos c23] at H
              have c23b0 : (t666 != t668) = true := c23
              (try (have c23b1 : decide (t666 = t668) = false := by simpa using c23))
              (try (have c23b2 : (t666 == t668) = false := by simpa using c23))
              (try (have c23b3 : ¬ (t666 = t668) := by simpa using c23))
              clear c23
              have H' := Aside0.mk H
              clear H
              obtain ⟨Ao24, co24, eo24⟩ := Kd.R_slice HO661.out
              subst eo24
              obtain ⟨Ao25, co25, eo25⟩ := Kd.R_slice HO665.out
              subst eo25
              go_wp2_with (first | (go_at_call 34; (with_reducible refine (laws_jSame.calls k _ _ t658 _ _ t662 true _ ?side1 ?side2 ?side3 ?side4 A18.out).mono ?_); (case side1 => repeat (first | exact (Kd.R_reads' HO661.out).2.2 | (with_reducible refine Kd.C_alloc ?_ _) | (with_reducible refine Kd.C_drewN ?_ _) | (with_reducible refine Kd.C_drew ?_))); (case side2 => exact (Kd.R_reads' HO661.out).2.1); (case side3 => repeat (first | exact (Kd.R_reads' HO665.out).2.2 | (with_reducible refine Kd.C_alloc ?_ _) | (with_reducible refine Kd.C_drewN ?_ _) | (with_reducible refine Kd.C_drew ?_))); (case side4 => exact (Kd.R_reads' HO665.out).2.1); rintro e w' ⟨rfl, ⟨nd, rfl⟩⟩))
              go_meet
              case rel => exact ⟨_, (true), (by first | rfl | (simp; done) | (simp [*]; done)), H', ⟨by first | omega | exact Nat.le_refl _⟩, ⟨by (with_reducible repeat (first | apply Kd.R_alloc | apply Kd.R_drewN | apply Kd.R_drew)); exact Kd.R_mono HO657.out (fun _ hk => trivial)⟩, ⟨by repeat (first | (with_reducible first | exact HB.out | apply below_alloc | apply pw_below_drewN | apply below_drew1) | exact HB.out)⟩⟩
            · rw [if_neg c23] at H
              have c23b0 : (t666 != t668) = false := by simpa using c23
              (try (have c23b1 : decide (t666 = t668) = true := by simpa using c23))
              (try (have c23b2 : (t666 == t668) = true := by simpa using c23))
              clear c23
              have H' := Aside0.mk H
              clear H
              obtain ⟨Ao26, co26, eo26⟩ := Kd.R_slice HO661.out
              subst eo26
              obtain ⟨Ao27, co27, eo27⟩ := Kd.R_slice HO665.out
              subst eo27
              go_wp2_with (first | (go_at_call 34; (with_reducible refine (laws_jSame.calls k _ _ t658 _ _ t662 true _ ?side1 ?side2 ?side3 ?side4 A18.out).mono ?_); (case side1 => repeat (first | exact (Kd.R_reads' HO661.out).2.2 | (with_reducible refine Kd.C_alloc ?_ _) | (with_reducible refine Kd.C_drewN ?_ _) | (with_reducible refine Kd.C_drew ?_))); (case side2 => exact (Kd.R_reads' HO661.out).2.1); (case side3 => repeat (first | exact (Kd.R_reads' HO665.out).2.2 | (with_reducible refine Kd.C_alloc ?_ _) | (with_reducible refine Kd.C_drewN ?_ _) | (with_reducible refine Kd.C_drew ?_))); (case side4 => exact (Kd.R_reads' HO665.out).2.1); rintro e w' ⟨rfl, ⟨nd, rfl⟩⟩))
              go_meet
              case rel => exact ⟨_, ((t659 != t666)), (by first | rfl | (simp; done) | (simp [*]; done)), H', ⟨by first | omega | exact Nat.le_refl _⟩, ⟨by (with_reducible repeat (first | apply Kd.R_alloc | apply Kd.R_drewN | apply Kd.R_drew)); exact Kd.R_mono HO657.out (fun _ hk => trivial)⟩, ⟨by repeat (first | (with_reducible first | exact HB.out | apply below_alloc | apply pw_below_drewN | apply below_drew1) | exact HB.out)⟩⟩
        · replace c19 := Bool.eq_false_iff.mpr c19
          subst c19
          have H1 : (laws_FnCarsThatLookBack.j0 k l1 t653 t654 true) = some r := by rw [if_neg (show ¬ (false = true) by decide)] at H; exact H
          clear H
          have H := H1
          clear H1
          have H' := Aside0.mk H
          clear H
          obtain ⟨Ao28, co28, eo28⟩ := Kd.R_slice HO661.out
          subst eo28
          obtain ⟨Ao29, co29, eo29⟩ := Kd.R_slice HO665.out
          subst eo29
          go_wp2_with (first | (go_at_call 34; (with_reducible refine (laws_jSame.calls k _ _ t658 _ _ t662 false _ ?side1 ?side2 ?side3 ?side4 A18.out).mono ?_); (case side1 => repeat (first | exact (Kd.R_reads' HO661.out).2.2 | (with_reducible refine Kd.C_alloc ?_ _) | (with_reducible refine Kd.C_drewN ?_ _) | (with_reducible refine Kd.C_drew ?_))); (case side2 => exact (Kd.R_reads' HO661.out).2.1); (case side3 => repeat (first | exact (Kd.R_reads' HO665.out).2.2 | (with_reducible refine Kd.C_alloc ?_ _) | (with_reducible refine Kd.C_drewN ?_ _) | (with_reducible refine Kd.C_drew ?_))); (case side4 => exact (Kd.R_reads' HO665.out).2.1); rintro e w' ⟨rfl, ⟨nd, rfl⟩⟩))
          go_meet
          case rel => exact ⟨_, (true), (by first | rfl | (simp; done) | (simp [*]; done)), H', ⟨by first | omega | exact Nat.le_refl _⟩, ⟨by (with_reducible repeat (first | apply Kd.R_alloc | apply Kd.R_drewN | apply Kd.R_drew)); exact Kd.R_mono HO657.out (fun _ hk => trivial)⟩, ⟨by repeat (first | (with_reducible first | exact HB.out | apply below_alloc | apply pw_below_drewN | apply below_drew1) | exact HB.out)⟩⟩
    case rest =>
      clear HC10
      try clear c1
      try clear c2
      try clear p2
      try clear c3
      try clear c4
      try clear c8
      try clear c17
      try clear c17b0
      try clear c17b1
      try clear c17b2
      try clear c19
      try clear c20
      try clear c20b0
      try clear c20b1
      try clear c20b2
      try clear c23
      try clear c23b0
      try clear c23b1
      try clear c23b2
      try clear c29
      obtain ⟨kq, x97_9, rfl, HA, HJ9, HO_5, HB⟩ := hcut
      cases kq with
      | zero => exact absurd HA.out (by simp [laws_FnCarsThatLookBack.j0])
      | succ kj9 =>
        have H := HA.out
        clear HA
        simp only [laws_FnCarsThatLookBack.j0] at H
        by_cases c30 : x97_9 = true
        · subst c30
          have H1 : (some false) = some r := by rw [if_pos rfl] at H; exact H
          clear H
          have H := H1
          clear H1
          obtain rfl := Option.some.inj H
          go_wp2
          go_ret
          exact ⟨by first | rfl | (simp [errW_none, errW_some] <;> rfl) | (simp [*, errW_none, errW_some] <;> rfl), by repeat (first | (with_reducible first | exact HB.out | apply below_alloc | apply pw_below_drewN | apply below_drew1) | exact HB.out)⟩
        · as_aux_lemma =>
          replace c30 := Bool.eq_false_iff.mpr c30
          subst c30
          have H1 : ((impl_LeastBack.f kj9 t653 t654).bind fun bt671 => ((spec_LeastBack.f kj9 t653 t654).bind fun bt673 => (if (bt671.2 != bt673.2) = true then (laws_FnCarsThatLookBack.j1 kj9 l1 t653 t654 bt671.1 bt671.2 true) else (laws_FnCarsThatLookBack.j1 kj9 l1 t653 t654 bt671.1 bt671.2 (bt671.1 != bt673.1))))) = some r := by rw [if_neg (show ¬ (false = true) by decide)] at H; exact H
          clear H
          have H := H1
          clear H1
          replace H := Option.bind_eq_some_iff.mp H
          obtain ⟨⟨t671, t672⟩, A310, H⟩ := H
          replace H : ((spec_LeastBack.f kj9 t653 t654).bind fun bt673 => (if (t672 != bt673.2) = true then (laws_FnCarsThatLookBack.j1 kj9 l1 t653 t654 t671 t672 true) else (laws_FnCarsThatLookBack.j1 kj9 l1 t653 t654 t671 t672 (t671 != bt673.1)))) = some r := H
          have A31 := Aside0.mk A310
          clear A310
          replace H := Option.bind_eq_some_iff.mp H
          obtain ⟨⟨t673, t674⟩, A320, H⟩ := H
          replace H : (if (t672 != t674) = true then (laws_FnCarsThatLookBack.j1 kj9 l1 t653 t654 t671 t672 true) else (laws_FnCarsThatLookBack.j1 kj9 l1 t653 t654 t671 t672 (t671 != t673))) = some r := H
          have A32 := Aside0.mk A320
          clear A320
          have HC33 := Aside0.mk H
          clear H
          go_upto_region 12 with (first | ((with_reducible refine gate_callee (f := 35) rfl ?_); refine goesL_ (some 101) rfl rfl Try.func35 (by kernel_rfl) rfl #[.slice Ao12 t653.length co12, .int .i64 t654] rfl (by (try simp only [List.map_toArray, List.map_cons, List.map_nil]); first | done | rfl | (simp only [List.length_drop, List.length_take]; rfl)) ?_; (with_reducible refine (impl_LeastBack.calls kj9 _ _ t653 t654 t671 t672 _ ?side1 ?side2 A31.out).mono ?_); (case side1 => repeat (first | exact (Kd.R_reads' HO_5.out).2.2 | (with_reducible refine Kd.C_alloc ?_ _) | (with_reducible refine Kd.C_drewN ?_ _) | (with_reducible refine Kd.C_drew ?_))); (case side2 => exact (Kd.R_reads' HO_5.out).2.1); rintro e w34 ⟨rfl, hb⟩; refine ⟨_, rfl, ?_⟩; have n0_ := Aside0.mk (Kd.R_below (by (with_reducible repeat (first | apply Kd.R_alloc | apply Kd.R_drewN | apply Kd.R_drew)); exact HO_5.out) hb); have n1_ := Aside0.mk (below_step (by repeat (first | (with_reducible first | exact HB.out | apply below_alloc | apply pw_below_drewN | apply below_drew1) | exact HB.out)) hb); clear HO_5; clear HB; have HO_5 := n0_; have HB := n1_; clear n0_ n1_; (try clear hb); (try clear hb2); (try clear hk); (try clear hi)) | ((with_reducible refine gate_callee (f := 36) rfl ?_); refine goesL_ (some 107) rfl rfl Try.func36 (by kernel_rfl) rfl #[.slice Ao12 t653.length co12, .int .i64 t654] rfl (by (try simp only [List.map_toArray, List.map_cons, List.map_nil]); first | done | rfl | (simp only [List.length_drop, List.length_take]; rfl)) ?_; (with_reducible refine (spec_LeastBack.calls kj9 _ _ t653 t654 t673 t674 _ ?side1 ?side2 A32.out).mono ?_); (case side1 => repeat (first | exact (Kd.R_reads' HO_5.out).2.2 | (with_reducible refine Kd.C_alloc ?_ _) | (with_reducible refine Kd.C_drewN ?_ _) | (with_reducible refine Kd.C_drew ?_))); (case side2 => exact (Kd.R_reads' HO_5.out).2.1); rintro e w35 ⟨rfl, hb⟩; refine ⟨_, rfl, ?_⟩; have n0_ := Aside0.mk (Kd.R_below (by (with_reducible repeat (first | apply Kd.R_alloc | apply Kd.R_drewN | apply Kd.R_drew)); exact HO_5.out) hb); have n1_ := Aside0.mk (below_step (by repeat (first | (with_reducible first | exact HB.out | apply below_alloc | apply pw_below_drewN | apply below_drew1) | exact HB.out)) hb); clear HO_5; clear HB; have HO_5 := n0_; have HB := n1_; clear n0_ n1_; (try clear hb); (try clear hb2); (try clear hk); (try clear hi)))
          (try simp only [Act.put, List.setIfInBounds_toArray, List.set_cons_zero, List.set_cons_succ])
          go_cut [117] (fun v117 wc => ∃ (kq : Nat) (x117_32 : Bool), v117 = .bool x117_32 ∧ Aside0 (laws_FnCarsThatLookBack.j1 kq l1 t653 t654 t671 t672 x117_32 = some r) ∧ Aside0 (kq ≤ kj9) ∧ Aside0 (Kd.R (Kd.int .i64) 3 wc w.heap.size (fun _ => True) (.slice Ao12 t653.length co12) t653) ∧ Aside0 (Below w.heap.size w wc))
          case first =>
            have H := HC33.out
            clear HC33
            by_cases c36 : (t672 != t674) = true
            · rw [if_pos c36] at H
              have c36b0 : (t672 != t674) = true := c36
              (try (have c36b1 : decide (t672 = t674) = false := by simpa using c36))
              (try (have c36b2 : (t672 == t674) = false := by simpa using c36))
              (try (have c36b3 : ¬ (t672 = t674) := by simpa using c36))
              clear c36
              (first | rw [c36b0] | (simp only [i64_w, i32_w]; rw [c36b0]) | skip)
              have H' := Aside0.mk H
              clear H
              go_wp2
              go_meet
              case rel => exact ⟨_, (true), (by first | rfl | (simp; done) | (simp [*]; done)), H', ⟨by have := HJ9.out; first | omega | exact Nat.le_refl _⟩, ⟨by (with_reducible repeat (first | apply Kd.R_alloc | apply Kd.R_drewN | apply Kd.R_drew)); exact HO_5.out⟩, ⟨by repeat (first | (with_reducible first | exact HB.out | apply below_alloc | apply pw_below_drewN | apply below_drew1) | exact HB.out)⟩⟩
            · rw [if_neg c36] at H
              have c36b0 : (t672 != t674) = false := by simpa using c36
              (try (have c36b1 : decide (t672 = t674) = true := by simpa using c36))
              (try (have c36b2 : (t672 == t674) = true := by simpa using c36))
              clear c36
              (first | rw [c36b0] | (simp only [i64_w, i32_w]; rw [c36b0]) | skip)
              have H' := Aside0.mk H
              clear H
              go_wp2
              go_meet
              case rel => exact ⟨_, ((t671 != t673)), (by first | rfl | (simp; done) | (simp [*]; done)), H', ⟨by have := HJ9.out; first | omega | exact Nat.le_refl _⟩, ⟨by (with_reducible repeat (first | apply Kd.R_alloc | apply Kd.R_drewN | apply Kd.R_drew)); exact HO_5.out⟩, ⟨by repeat (first | (with_reducible first | exact HB.out | apply below_alloc | apply pw_below_drewN | apply below_drew1) | exact HB.out)⟩⟩
          case rest =>
            clear HC33
            try clear c1
            try clear c2
            try clear p2
            try clear c3
            try clear c4
            try clear c8
            try clear c17
            try clear c17b0
            try clear c17b1
            try clear c17b2
            try clear c19
            try clear c20
            try clear c20b0
            try clear c20b1
            try clear c20b2
            try clear c23
            try clear c23b0
            try clear c23b1
            try clear c23b2
            try clear c29
            try clear c30
            try clear c31
            try clear c32
            try clear c33
            try clear c35
            try clear c36
            try clear c36b0
            try clear c36b1
            try clear c36b2
            try clear p2
            obtain ⟨kq, x117_32, rfl, HA, HJ32, HO_5, HB⟩ := hcut
            cases kq with
            | zero => exact absurd HA.out (by simp [laws_FnCarsThatLookBack.j1])
            | succ kj32 =>
              have H := HA.out
              clear HA
              simp only [laws_FnCarsThatLookBack.j1] at H
              by_cases c37 : x117_32 = true
              · subst c37
                have H1 : (some false) = some r := by rw [if_pos rfl] at H; exact H
                clear H
                have H := H1
                clear H1
                obtain rfl := Option.some.inj H
                go_wp2
                go_ret
                exact ⟨by first | rfl | (simp [errW_none, errW_some] <;> rfl) | (simp [*, errW_none, errW_some] <;> rfl), by repeat (first | (with_reducible first | exact HB.out | apply below_alloc | apply pw_below_drewN | apply below_drew1) | exact HB.out)⟩
              · as_aux_lemma =>
                replace c37 := Bool.eq_false_iff.mpr c37
                subst c37
                have H1 : ((impl_AreFavourites.f t653 t654).bind fun t675 => (if t675 = true then (laws_FnCarsThatLookBack.l0 kj32 l1 t653 t654 t671 t672 0) else (laws_FnCarsThatLookBack.j3 kj32 l1))) = some r := by rw [if_neg (show ¬ (false = true) by decide)] at H; exact H
                clear H
                have H := H1
                clear H1
                replace H := Option.bind_eq_some_iff.mp H
                obtain ⟨t675, A380, H⟩ := H
                replace H : (if t675 = true then (laws_FnCarsThatLookBack.l0 kj32 l1 t653 t654 t671 t672 0) else (laws_FnCarsThatLookBack.j3 kj32 l1)) = some r := H
                have A38 := Aside0.mk A380
                clear A380
                have HC39 := Aside0.mk H
                clear H
                go_upto_if 120 with (first | ((with_reducible refine gate_callee (f := 37) rfl ?_); refine goesL_ (some 120) rfl rfl Try.func37 (by kernel_rfl) rfl #[.slice Ao12 t653.length co12, .int .i64 t654] rfl (by (try simp only [List.map_toArray, List.map_cons, List.map_nil]); first | done | rfl | (simp only [List.length_drop, List.length_take]; rfl)) ?_; (with_reducible refine (impl_AreFavourites.calls _ _ t653 t654 t675 _ ?side1 ?side2 A38.out).mono ?_); (case side1 => repeat (first | exact (Kd.R_reads' HO_5.out).2.2 | (with_reducible refine Kd.C_alloc ?_ _) | (with_reducible refine Kd.C_drewN ?_ _) | (with_reducible refine Kd.C_drew ?_))); (case side2 => exact (Kd.R_reads' HO_5.out).2.1); rintro e w40 ⟨rfl, hb⟩; refine ⟨_, rfl, ?_⟩; have n0_ := Aside0.mk (Kd.R_below (by (with_reducible repeat (first | apply Kd.R_alloc | apply Kd.R_drewN | apply Kd.R_drew)); exact HO_5.out) hb); have n1_ := Aside0.mk (below_step (by repeat (first | (with_reducible first | exact HB.out | apply below_alloc | apply pw_below_drewN | apply below_drew1) | exact HB.out)) hb); clear HO_5; clear HB; have HO_5 := n0_; have HB := n1_; clear n0_ n1_; (try clear hb); (try clear hb2); (try clear hk); (try clear hi)))
                (try simp only [Act.put, List.setIfInBounds_toArray, List.set_cons_zero, List.set_cons_succ])
                go_cut [] (fun wc => ∃ (kq : Nat), Aside0 (laws_FnCarsThatLookBack.j3 kq l1 = some r) ∧ Aside0 (kq ≤ kj32) ∧ Aside0 (Below w.heap.size w wc))
                case first =>
                  have H := HC39.out
                  clear HC39
                  by_cases c41 : t675 = true
                  · as_aux_lemma =>
                    subst c41
                    have H1 : (laws_FnCarsThatLookBack.l0 kj32 l1 t653 t654 t671 t672 0) = some r := by rw [if_pos rfl] at H; exact H
                    clear H
                    have H := H1
                    clear H1
                    have H' := Aside0.mk H
                    clear H
                    go_wp2
                    go_loopg [20] kj32 (fun kq v20 w' => ∃ (x20_3 : Int), v20 = .int .i64 x20_3 ∧ Aside0 (laws_FnCarsThatLookBack.l0 kq l1 t653 t654 t671 t672 x20_3 = some r) ∧ Aside0 (kq ≤ kj32) ∧ Aside0 (Kd.R (Kd.int .i64) 3 w' w.heap.size (fun _ => True) (.slice Ao12 t653.length co12) t653) ∧ Aside0 (Below w.heap.size w w'))
                    case atStart => exact ⟨(0), (by first | rfl | (simp; done) | (simp [*]; done)), H', ⟨Nat.le_refl _⟩, ⟨by (with_reducible repeat (first | apply Kd.R_alloc | apply Kd.R_drewN | apply Kd.R_drew)); exact HO_5.out⟩, ⟨by repeat (first | (with_reducible first | exact HB.out | apply below_alloc | apply pw_below_drewN | apply below_drew1) | exact HB.out)⟩⟩
                    case round =>
                      clear H'
                      try clear c1
                      try clear c2
                      try clear p2
                      try clear c3
                      try clear c4
                      try clear c8
                      try clear c17
                      try clear c17b0
                      try clear c17b1
                      try clear c17b2
                      try clear c19
                      try clear c20
                      try clear c20b0
                      try clear c20b1
                      try clear c20b2
                      try clear c23
                      try clear c23b0
                      try clear c23b1
                      try clear c23b2
                      try clear c29
                      try clear c30
                      try clear c31
                      try clear c32
                      try clear c33
                      try clear c35
                      try clear c36
                      try clear c36b0
                      try clear c36b1
                      try clear c36b2
                      try clear c37
                      try clear c41
                      try clear p2
                      obtain ⟨x20_3, rfl, HA, HK3, HO_5, HB⟩ := hrel
                      cases gk with
                      | zero => exact absurd HA.out (by simp [laws_FnCarsThatLookBack.l0])
                      | succ k3 =>
                        have H := HA.out
                        clear HA
                        simp only [laws_FnCarsThatLookBack.l0] at H
                        by_cases c42 : x20_3 ≤ 8
                        · as_aux_lemma =>
                          rw [if_pos c42] at H
                          have c42b0 : decide (x20_3 ≤ 8) = true := decide_eq_true c42
                          clear c42
                          (first | rw [c42b0] | (simp only [i64_w, i32_w]; rw [c42b0]) | skip)
                          replace H := Option.bind_eq_some_iff.mp H
                          obtain ⟨⟨t676, t677⟩, A430, H⟩ := H
                          replace H : (if t677 = true then (if t672 = true then (if (t676 != (decide (x20_3 ≥ t671))) = true then (some false) else (laws_FnCarsThatLookBack.l0 k3 l1 t653 t654 t671 t672 (wrap64 (x20_3 + 1)))) else (if (t676 != false) = true then (some false) else (laws_FnCarsThatLookBack.l0 k3 l1 t653 t654 t671 t672 (wrap64 (x20_3 + 1))))) else (some false)) = some r := H
                          have A43 := Aside0.mk A430
                          clear A430
                          by_cases c44 : t677 = true
                          · as_aux_lemma =>
                            subst c44
                            have H1 : (if t672 = true then (if (t676 != (decide (x20_3 ≥ t671))) = true then (some false) else (laws_FnCarsThatLookBack.l0 k3 l1 t653 t654 t671 t672 (wrap64 (x20_3 + 1)))) else (if (t676 != false) = true then (some false) else (laws_FnCarsThatLookBack.l0 k3 l1 t653 t654 t671 t672 (wrap64 (x20_3 + 1))))) = some r := by rw [if_pos rfl] at H; exact H
                            clear H
                            have H := H1
                            clear H1
                            by_cases c45 : t672 = true
                            · as_aux_lemma =>
                              subst c45
                              have H1 : (if (t676 != (decide (x20_3 ≥ t671))) = true then (some false) else (laws_FnCarsThatLookBack.l0 k3 l1 t653 t654 t671 true (wrap64 (x20_3 + 1)))) = some r := by rw [if_pos rfl] at H; exact H
                              clear H
                              have H := H1
                              clear H1
                              by_cases c46 : (t676 != (decide (x20_3 ≥ t671))) = true
                              · rw [if_pos c46] at H
                                have c46b0 : (t676 != (decide (x20_3 ≥ t671))) = true := c46
                                (try (have c46b1 : decide (t676 = (decide (x20_3 ≥ t671))) = false := by simpa using c46))
                                (try (have c46b2 : (t676 == (decide (x20_3 ≥ t671))) = false := by simpa using c46))
                                (try (have c46b3 : ¬ (t676 = (decide (x20_3 ≥ t671))) := by simpa using c46))
                                clear c46
                                obtain rfl := Option.some.inj H
                                go_wp2_with (first | ((with_reducible refine gate_callee (f := 32) rfl ?_); refine goesL_ (some 129) rfl rfl Try.func32 (by kernel_rfl) rfl #[.slice Ao12 t653.length co12, .int .i64 t654, .int .i64 x20_3] rfl (by (try simp only [List.map_toArray, List.map_cons, List.map_nil]); first | done | rfl | (simp only [List.length_drop, List.length_take]; rfl)) ?_; (with_reducible refine (impl_DoParkBack.calls k3 _ _ t653 t654 x20_3 t676 true _ ?side1 ?side2 A43.out).mono ?_); (case side1 => repeat (first | exact (Kd.R_reads' HO_5.out).2.2 | (with_reducible refine Kd.C_alloc ?_ _) | (with_reducible refine Kd.C_drewN ?_ _) | (with_reducible refine Kd.C_drew ?_))); (case side2 => exact (Kd.R_reads' HO_5.out).2.1); rintro e w47 ⟨rfl, hb⟩; refine ⟨_, rfl, ?_⟩; have n0_ := Aside0.mk (Kd.R_below (by (with_reducible repeat (first | apply Kd.R_alloc | apply Kd.R_drewN | apply Kd.R_drew)); exact HO_5.out) hb); have n1_ := Aside0.mk (below_step (by repeat (first | (with_reducible first | exact HB.out | apply below_alloc | apply pw_below_drewN | apply below_drew1) | exact HB.out)) hb); clear HO_5; clear HB; have HO_5 := n0_; have HB := n1_; clear n0_ n1_; (try clear hb); (try clear hb2); (try clear hk); (try clear hi)))
                                go_ret
                                exact ⟨by first | rfl | (simp [errW_none, errW_some] <;> rfl) | (simp [*, errW_none, errW_some] <;> rfl), by repeat (first | (with_reducible first | exact HB.out | apply below_alloc | apply pw_below_drewN | apply below_drew1) | exact HB.out)⟩
                              · rw [if_neg c46] at H
                                have c46b0 : (t676 != (decide (x20_3 ≥ t671))) = false := by simpa using c46
                                (try (have c46b1 : decide (t676 = (decide (x20_3 ≥ t671))) = true := by simpa using c46))
                                (try (have c46b2 : (t676 == (decide (x20_3 ≥ t671))) = true := by simpa using c46))
                                clear c46
                                have H' := Aside0.mk H
                                clear H
                                go_wp2_with (first | ((with_reducible refine gate_callee (f := 32) rfl ?_); refine goesL_ (some 129) rfl rfl Try.func32 (by kernel_rfl) rfl #[.slice Ao12 t653.length co12, .int .i64 t654, .int .i64 x20_3] rfl (by (try simp only [List.map_toArray, List.map_cons, List.map_nil]); first | done | rfl | (simp only [List.length_drop, List.length_take]; rfl)) ?_; (with_reducible refine (impl_DoParkBack.calls k3 _ _ t653 t654 x20_3 t676 true _ ?side1 ?side2 A43.out).mono ?_); (case side1 => repeat (first | exact (Kd.R_reads' HO_5.out).2.2 | (with_reducible refine Kd.C_alloc ?_ _) | (with_reducible refine Kd.C_drewN ?_ _) | (with_reducible refine Kd.C_drew ?_))); (case side2 => exact (Kd.R_reads' HO_5.out).2.1); rintro e w48 ⟨rfl, hb⟩; refine ⟨_, rfl, ?_⟩; have n0_ := Aside0.mk (Kd.R_below (by (with_reducible repeat (first | apply Kd.R_alloc | apply Kd.R_drewN | apply Kd.R_drew)); exact HO_5.out) hb); have n1_ := Aside0.mk (below_step (by repeat (first | (with_reducible first | exact HB.out | apply below_alloc | apply pw_below_drewN | apply below_drew1) | exact HB.out)) hb); clear HO_5; clear HB; have HO_5 := n0_; have HB := n1_; clear n0_ n1_; (try clear hb); (try clear hb2); (try clear hk); (try clear hi)))
                                go_roundg k3
                                case measure => have := HJ9.out; have := HJ32.out; have := HK3.out; omega
                                case rel => exact ⟨(wrap64 (x20_3 + 1)), (by first | rfl | (simp; done) | (simp [*]; done)), H', ⟨by have := HJ9.out; have := HJ32.out; have := HK3.out; omega⟩, ⟨by (with_reducible repeat (first | apply Kd.R_alloc | apply Kd.R_drewN | apply Kd.R_drew)); exact HO_5.out⟩, ⟨by repeat (first | (with_reducible first | exact HB.out | apply below_alloc | apply pw_below_drewN | apply below_drew1) | exact HB.out)⟩⟩
                            · replace c45 := Bool.eq_false_iff.mpr c45
                              subst c45
                              have H1 : (if (t676 != false) = true then (some false) else (laws_FnCarsThatLookBack.l0 k3 l1 t653 t654 t671 false (wrap64 (x20_3 + 1)))) = some r := by rw [if_neg (show ¬ (false = true) by decide)] at H; exact H
                              clear H
                              have H := H1
                              clear H1
                              by_cases c49 : (t676 != false) = true
                              · rw [if_pos c49] at H
                                have c49b0 : (t676 != false) = true := c49
                                (try (have c49b1 : decide (t676 = false) = false := by simpa using c49))
                                (try (have c49b2 : (t676 == false) = false := by simpa using c49))
                                (try (have c49b3 : ¬ (t676 = false) := by simpa using c49))
                                clear c49
                                obtain rfl := Option.some.inj H
                                go_wp2_with (first | ((with_reducible refine gate_callee (f := 32) rfl ?_); refine goesL_ (some 129) rfl rfl Try.func32 (by kernel_rfl) rfl #[.slice Ao12 t653.length co12, .int .i64 t654, .int .i64 x20_3] rfl (by (try simp only [List.map_toArray, List.map_cons, List.map_nil]); first | done | rfl | (simp only [List.length_drop, List.length_take]; rfl)) ?_; (with_reducible refine (impl_DoParkBack.calls k3 _ _ t653 t654 x20_3 t676 true _ ?side1 ?side2 A43.out).mono ?_); (case side1 => repeat (first | exact (Kd.R_reads' HO_5.out).2.2 | (with_reducible refine Kd.C_alloc ?_ _) | (with_reducible refine Kd.C_drewN ?_ _) | (with_reducible refine Kd.C_drew ?_))); (case side2 => exact (Kd.R_reads' HO_5.out).2.1); rintro e w50 ⟨rfl, hb⟩; refine ⟨_, rfl, ?_⟩; have n0_ := Aside0.mk (Kd.R_below (by (with_reducible repeat (first | apply Kd.R_alloc | apply Kd.R_drewN | apply Kd.R_drew)); exact HO_5.out) hb); have n1_ := Aside0.mk (below_step (by repeat (first | (with_reducible first | exact HB.out | apply below_alloc | apply pw_below_drewN | apply below_drew1) | exact HB.out)) hb); clear HO_5; clear HB; have HO_5 := n0_; have HB := n1_; clear n0_ n1_; (try clear hb); (try clear hb2); (try clear hk); (try clear hi)))
                                go_ret
                                exact ⟨by first | rfl | (simp [errW_none, errW_some] <;> rfl) | (simp [*, errW_none, errW_some] <;> rfl), by repeat (first | (with_reducible first | exact HB.out | apply below_alloc | apply pw_below_drewN | apply below_drew1) | exact HB.out)⟩
                              · rw [if_neg c49] at H
                                have c49b0 : (t676 != false) = false := by simpa using c49
                                (try (have c49b1 : decide (t676 = false) = true := by simpa using c49))
                                (try (have c49b2 : (t676 == false) = true := by simpa using c49))
                                clear c49
                                have H' := Aside0.mk H
                                clear H
                                go_wp2_with (first | ((with_reducible refine gate_callee (f := 32) rfl ?_); refine goesL_ (some 129) rfl rfl Try.func32 (by kernel_rfl) rfl #[.slice Ao12 t653.length co12, .int .i64 t654, .int .i64 x20_3] rfl (by (try simp only [List.map_toArray, List.map_cons, List.map_nil]); first | done | rfl | (simp only [List.length_drop, List.length_take]; rfl)) ?_; (with_reducible refine (impl_DoParkBack.calls k3 _ _ t653 t654 x20_3 t676 true _ ?side1 ?side2 A43.out).mono ?_); (case side1 => repeat (first | exact (Kd.R_reads' HO_5.out).2.2 | (with_reducible refine Kd.C_alloc ?_ _) | (with_reducible refine Kd.C_drewN ?_ _) | (with_reducible refine Kd.C_drew ?_))); (case side2 => exact (Kd.R_reads' HO_5.out).2.1); rintro e w51 ⟨rfl, hb⟩; refine ⟨_, rfl, ?_⟩; have n0_ := Aside0.mk (Kd.R_below (by (with_reducible repeat (first | apply Kd.R_alloc | apply Kd.R_drewN | apply Kd.R_drew)); exact HO_5.out) hb); have n1_ := Aside0.mk (below_step (by repeat (first | (with_reducible first | exact HB.out | apply below_alloc | apply pw_below_drewN | apply below_drew1) | exact HB.out)) hb); clear HO_5; clear HB; have HO_5 := n0_; have HB := n1_; clear n0_ n1_; (try clear hb); (try clear hb2); (try clear hk); (try clear hi)))
                                go_roundg k3
                                case measure => have := HJ9.out; have := HJ32.out; have := HK3.out; omega
                                case rel => exact ⟨(wrap64 (x20_3 + 1)), (by first | rfl | (simp; done) | (simp [*]; done)), H', ⟨by have := HJ9.out; have := HJ32.out; have := HK3.out; omega⟩, ⟨by (with_reducible repeat (first | apply Kd.R_alloc | apply Kd.R_drewN | apply Kd.R_drew)); exact HO_5.out⟩, ⟨by repeat (first | (with_reducible first | exact HB.out | apply below_alloc | apply pw_below_drewN | apply below_drew1) | exact HB.out)⟩⟩
                          · replace c44 := Bool.eq_false_iff.mpr c44
                            subst c44
                            have H1 : (some false) = some r := by rw [if_neg (show ¬ (false = true) by decide)] at H; exact H
                            clear H
                            have H := H1
                            clear H1
                            obtain rfl := Option.some.inj H
                            go_wp2_with (first | ((with_reducible refine gate_callee (f := 32) rfl ?_); refine goesL_ (some 129) rfl rfl Try.func32 (by kernel_rfl) rfl #[.slice Ao12 t653.length co12, .int .i64 t654, .int .i64 x20_3] rfl (by (try simp only [List.map_toArray, List.map_cons, List.map_nil]); first | done | rfl | (simp only [List.length_drop, List.length_take]; rfl)) ?_; (with_reducible refine (impl_DoParkBack.calls k3 _ _ t653 t654 x20_3 t676 false _ ?side1 ?side2 A43.out).mono ?_); (case side1 => repeat (first | exact (Kd.R_reads' HO_5.out).2.2 | (with_reducible refine Kd.C_alloc ?_ _) | (with_reducible refine Kd.C_drewN ?_ _) | (with_reducible refine Kd.C_drew ?_))); (case side2 => exact (Kd.R_reads' HO_5.out).2.1); rintro e w52 ⟨rfl, hb⟩; refine ⟨_, rfl, ?_⟩; have n0_ := Aside0.mk (Kd.R_below (by (with_reducible repeat (first | apply Kd.R_alloc | apply Kd.R_drewN | apply Kd.R_drew)); exact HO_5.out) hb); have n1_ := Aside0.mk (below_step (by repeat (first | (with_reducible first | exact HB.out | apply below_alloc | apply pw_below_drewN | apply below_drew1) | exact HB.out)) hb); clear HO_5; clear HB; have HO_5 := n0_; have HB := n1_; clear n0_ n1_; (try clear hb); (try clear hb2); (try clear hk); (try clear hi)))
                            go_ret
                            exact ⟨by first | rfl | (simp [errW_none, errW_some] <;> rfl) | (simp [*, errW_none, errW_some] <;> rfl), by repeat (first | (with_reducible first | exact HB.out | apply below_alloc | apply pw_below_drewN | apply below_drew1) | exact HB.out)⟩
                        · as_aux_lemma =>
                          rw [if_neg c42] at H
                          have c42b0 : decide (x20_3 ≤ 8) = false := decide_eq_false c42
                          clear c42
                          (first | rw [c42b0] | (simp only [i64_w, i32_w]; rw [c42b0]) | skip)
                          replace H := Option.bind_eq_some_iff.mp H
                          obtain ⟨⟨t678, t679⟩, A530, H⟩ := H
                          replace H : ((impl_DriveBack.f k3 t653 t654 0).bind fun bt682 => (if (t679 != bt682.2) = true then (some false) else ((laws_jSame.f k3 t678 bt682.1).bind fun t686 => (if t686 = true then (laws_FnCarsThatLookBack.j3 k3 l1) else (some false))))) = some r := H
                          have A53 := Aside0.mk A530
                          clear A530
                          replace H := Option.bind_eq_some_iff.mp H
                          obtain ⟨⟨t682, t683⟩, A540, H⟩ := H
                          replace H : (if (t679 != t683) = true then (some false) else ((laws_jSame.f k3 t678 t682).bind fun t686 => (if t686 = true then (laws_FnCarsThatLookBack.j3 k3 l1) else (some false)))) = some r := H
                          have A54 := Aside0.mk A540
                          clear A540
                          by_cases c55 : (t679 != t683) = true
                          · rw [if_pos c55] at H
                            have c55b0 : (t679 != t683) = true := c55
                            (try (have c55b1 : decide (t679 = t683) = false := by simpa using c55))
                            (try (have c55b2 : (t679 == t683) = false := by simpa using c55))
                            (try (have c55b3 : ¬ (t679 = t683) := by simpa using c55))
                            clear c55
                            obtain rfl := Option.some.inj H
                            go_wp2_with (first | ((with_reducible refine gate_callee (f := 38) rfl ?_); refine goesL_ (some 147) rfl rfl Try.func38 (by kernel_rfl) rfl #[.slice Ao12 t653.length co12, .int .i64 t654] rfl (by (try simp only [List.map_toArray, List.map_cons, List.map_nil]); first | done | rfl | (simp only [List.length_drop, List.length_take]; rfl)) ?_; (with_reducible refine (impl_DriveCars.calls k3 _ _ t653 t654 t678 t679 _ ?side1 ?side2 A53.out).mono ?_); (case side1 => repeat (first | exact (Kd.R_reads' HO_5.out).2.2 | (with_reducible refine Kd.C_alloc ?_ _) | (with_reducible refine Kd.C_drewN ?_ _) | (with_reducible refine Kd.C_drew ?_))); (case side2 => exact (Kd.R_reads' HO_5.out).2.1); rintro e w56 ⟨v680, rfl, ho0, hb⟩; refine ⟨_, rfl, ?_⟩; have n0_ := Aside0.mk (Kd.R_elder' (by (with_reducible repeat (first | apply Kd.R_alloc | apply Kd.R_drewN | apply Kd.R_drew)); exact HO_5.out) (Kd.R_base ho0) hb); have n1_ := Aside0.mk (Kd.R_lower (Kd.R_new' ho0 (Kd.R_lt (by (with_reducible repeat (first | apply Kd.R_alloc | apply Kd.R_drewN | apply Kd.R_drew)); exact HO_5.out))) (below_size (by repeat (first | (with_reducible first | exact HB.out | apply below_alloc | apply pw_below_drewN | apply below_drew1) | exact HB.out)))); have n2_ := Aside0.mk (below_step (by repeat (first | (with_reducible first | exact HB.out | apply below_alloc | apply pw_below_drewN | apply below_drew1) | exact HB.out)) hb); clear HO_5; clear HB; have HO_5 := n0_; have HO681 := n1_; have HB := n2_; clear n0_ n1_ n2_; (try clear hb); (try clear hb2); (try clear hk); (try clear hi); (try clear ho0)) | ((with_reducible refine gate_callee (f := 30) rfl ?_); refine goesL_ (some 153) rfl rfl Try.func30 (by kernel_rfl) rfl #[.slice Ao12 t653.length co12, .int .i64 t654, .int .i64 0] rfl (by (try simp only [List.map_toArray, List.map_cons, List.map_nil]); first | done | rfl | (simp only [List.length_drop, List.length_take]; rfl)) ?_; (with_reducible refine (impl_DriveBack.calls k3 _ _ t653 t654 0 t682 t683 _ ?side1 ?side2 A54.out).mono ?_); (case side1 => repeat (first | exact (Kd.R_reads' HO_5.out).2.2 | (with_reducible refine Kd.C_alloc ?_ _) | (with_reducible refine Kd.C_drewN ?_ _) | (with_reducible refine Kd.C_drew ?_))); (case side2 => exact (Kd.R_reads' HO_5.out).2.1); rintro e w57 ⟨v684, rfl, ho0, hb⟩; refine ⟨_, rfl, ?_⟩; have n0_ := Aside0.mk (Kd.R_elder' (by (with_reducible repeat (first | apply Kd.R_alloc | apply Kd.R_drewN | apply Kd.R_drew)); exact HO_5.out) (Kd.R_base ho0) hb); have n1_ := Aside0.mk (Kd.R_elder' (by (with_reducible repeat (first | apply Kd.R_alloc | apply Kd.R_drewN | apply Kd.R_drew)); exact HO681.out) (Kd.R_base ho0) hb); have n2_ := Aside0.mk (Kd.R_lower (Kd.R_new' (Kd.R_new' ho0 (Kd.R_lt (by (with_reducible repeat (first | apply Kd.R_alloc | apply Kd.R_drewN | apply Kd.R_drew)); exact HO_5.out))) (Kd.R_lt (by (with_reducible repeat (first | apply Kd.R_alloc | apply Kd.R_drewN | apply Kd.R_drew)); exact HO681.out))) (below_size (by repeat (first | (with_reducible first | exact HB.out | apply below_alloc | apply pw_below_drewN | apply below_drew1) | exact HB.out)))); have n3_ := Aside0.mk (below_step (by repeat (first | (with_reducible first | exact HB.out | apply below_alloc | apply pw_below_drewN | apply below_drew1) | exact HB.out)) hb); clear HO_5; clear HO681; clear HB; have HO_5 := n0_; have HO681 := n1_; have HO685 := n2_; have HB := n3_; clear n0_ n1_ n2_ n3_; (try clear hb); (try clear hb2); (try clear hk); (try clear hi); (try clear ho0)))
                            go_ret
                            exact ⟨by first | rfl | (simp [errW_none, errW_some] <;> rfl) | (simp [*, errW_none, errW_some] <;> rfl), by repeat (first | (with_reducible first | exact HB.out | apply below_alloc | apply pw_below_drewN | apply below_drew1) | exact HB.out)⟩
                          · as_aux_lemma =>
                            rw [if_neg c55] at H
                            have c55b0 : (t679 != t683) = false := by simpa using c55
                            (try (have c55b1 : decide (t679 = t683) = true := by simpa using c55))
                            (try (have c55b2 : (t679 == t683) = true := by simpa using c55))
                            clear c55
                            replace H := Option.bind_eq_some_iff.mp H
                            obtain ⟨t686, A580, H⟩ := H
                            replace H : (if t686 = true then (laws_FnCarsThatLookBack.j3 k3 l1) else (some false)) = some r := H
                            have A58 := Aside0.mk A580
                            clear A580
                            by_cases c59 : t686 = true
                            · as_aux_lemma =>
                              subst c59
                              have H1 : (laws_FnCarsThatLookBack.j3 k3 l1) = some r := by rw [if_pos rfl] at H; exact H
                              clear H
                              have H := H1
                              clear H1
                              have H' := Aside0.mk H
                              clear H
                              go_wp2_with (first | ((with_reducible refine gate_callee (f := 38) rfl ?_); refine goesL_ (some 147) rfl rfl Try.func38 (by kernel_rfl) rfl #[.slice Ao12 t653.length co12, .int .i64 t654] rfl (by (try simp only [List.map_toArray, List.map_cons, List.map_nil]); first | done | rfl | (simp only [List.length_drop, List.length_take]; rfl)) ?_; (with_reducible refine (impl_DriveCars.calls k3 _ _ t653 t654 t678 t679 _ ?side1 ?side2 A53.out).mono ?_); (case side1 => repeat (first | exact (Kd.R_reads' HO_5.out).2.2 | (with_reducible refine Kd.C_alloc ?_ _) | (with_reducible refine Kd.C_drewN ?_ _) | (with_reducible refine Kd.C_drew ?_))); (case side2 => exact (Kd.R_reads' HO_5.out).2.1); rintro e w60 ⟨v680, rfl, ho0, hb⟩; refine ⟨_, rfl, ?_⟩; have n0_ := Aside0.mk (Kd.R_elder' (by (with_reducible repeat (first | apply Kd.R_alloc | apply Kd.R_drewN | apply Kd.R_drew)); exact HO_5.out) (Kd.R_base ho0) hb); have n1_ := Aside0.mk (Kd.R_lower (Kd.R_new' ho0 (Kd.R_lt (by (with_reducible repeat (first | apply Kd.R_alloc | apply Kd.R_drewN | apply Kd.R_drew)); exact HO_5.out))) (below_size (by repeat (first | (with_reducible first | exact HB.out | apply below_alloc | apply pw_below_drewN | apply below_drew1) | exact HB.out)))); have n2_ := Aside0.mk (below_step (by repeat (first | (with_reducible first | exact HB.out | apply below_alloc | apply pw_below_drewN | apply below_drew1) | exact HB.out)) hb); clear HO_5; clear HB; have HO_5 := n0_; have HO681 := n1_; have HB := n2_; clear n0_ n1_ n2_; (try clear hb); (try clear hb2); (try clear hk); (try clear hi); (try clear ho0)) | ((with_reducible refine gate_callee (f := 30) rfl ?_); refine goesL_ (some 153) rfl rfl Try.func30 (by kernel_rfl) rfl #[.slice Ao12 t653.length co12, .int .i64 t654, .int .i64 0] rfl (by (try simp only [List.map_toArray, List.map_cons, List.map_nil]); first | done | rfl | (simp only [List.length_drop, List.length_take]; rfl)) ?_; (with_reducible refine (impl_DriveBack.calls k3 _ _ t653 t654 0 t682 t683 _ ?side1 ?side2 A54.out).mono ?_); (case side1 => repeat (first | exact (Kd.R_reads' HO_5.out).2.2 | (with_reducible refine Kd.C_alloc ?_ _) | (with_reducible refine Kd.C_drewN ?_ _) | (with_reducible refine Kd.C_drew ?_))); (case side2 => exact (Kd.R_reads' HO_5.out).2.1); rintro e w61 ⟨v684, rfl, ho0, hb⟩; refine ⟨_, rfl, ?_⟩; have n0_ := Aside0.mk (Kd.R_elder' (by (with_reducible repeat (first | apply Kd.R_alloc | apply Kd.R_drewN | apply Kd.R_drew)); exact HO_5.out) (Kd.R_base ho0) hb); have n1_ := Aside0.mk (Kd.R_elder' (by (with_reducible repeat (first | apply Kd.R_alloc | apply Kd.R_drewN | apply Kd.R_drew)); exact HO681.out) (Kd.R_base ho0) hb); have n2_ := Aside0.mk (Kd.R_lower (Kd.R_new' (Kd.R_new' ho0 (Kd.R_lt (by (with_reducible repeat (first | apply Kd.R_alloc | apply Kd.R_drewN | apply Kd.R_drew)); exact HO_5.out))) (Kd.R_lt (by (with_reducible repeat (first | apply Kd.R_alloc | apply Kd.R_drewN | apply Kd.R_drew)); exact HO681.out))) (below_size (by repeat (first | (with_reducible first | exact HB.out | apply below_alloc | apply pw_below_drewN | apply below_drew1) | exact HB.out)))); have n3_ := Aside0.mk (below_step (by repeat (first | (with_reducible first | exact HB.out | apply below_alloc | apply pw_below_drewN | apply below_drew1) | exact HB.out)) hb); clear HO_5; clear HO681; clear HB; have HO_5 := n0_; have HO681 := n1_; have HO685 := n2_; have HB := n3_; clear n0_ n1_ n2_ n3_; (try clear hb); (try clear hb2); (try clear hk); (try clear hi); (try clear ho0); obtain ⟨Ao62, co62, eo62⟩ := Kd.R_slice HO681.out; subst eo62; obtain ⟨Ao63, co63, eo63⟩ := Kd.R_slice HO685.out; subst eo63) | (go_at_call 34; (with_reducible refine (laws_jSame.calls k3 _ _ t678 _ _ t682 true _ ?side1 ?side2 ?side3 ?side4 A58.out).mono ?_); (case side1 => repeat (first | exact (Kd.R_reads' HO681.out).2.2 | (with_reducible refine Kd.C_alloc ?_ _) | (with_reducible refine Kd.C_drewN ?_ _) | (with_reducible refine Kd.C_drew ?_))); (case side2 => exact (Kd.R_reads' HO681.out).2.1); (case side3 => repeat (first | exact (Kd.R_reads' HO685.out).2.2 | (with_reducible refine Kd.C_alloc ?_ _) | (with_reducible refine Kd.C_drewN ?_ _) | (with_reducible refine Kd.C_drew ?_))); (case side4 => exact (Kd.R_reads' HO685.out).2.1); rintro e w' ⟨rfl, ⟨nd, rfl⟩⟩))
                              go_meet
                              case rel => exact ⟨_, H', ⟨by have := HJ9.out; have := HJ32.out; have := HK3.out; first | omega | exact Nat.le_refl _⟩, ⟨by repeat (first | (with_reducible first | exact HB.out | apply below_alloc | apply pw_below_drewN | apply below_drew1) | exact HB.out)⟩⟩
                            · as_aux_lemma =>
                              replace c59 := Bool.eq_false_iff.mpr c59
                              subst c59
                              have H1 : (some false) = some r := by rw [if_neg (show ¬ (false = true) by decide)] at H; exact H
                              clear H
                              have H := H1
                              clear H1
                              obtain rfl := Option.some.inj H
                              go_wp2_with (first | ((with_reducible refine gate_callee (f := 38) rfl ?_); refine goesL_ (some 147) rfl rfl Try.func38 (by kernel_rfl) rfl #[.slice Ao12 t653.length co12, .int .i64 t654] rfl (by (try simp only [List.map_toArray, List.map_cons, List.map_nil]); first | done | rfl | (simp only [List.length_drop, List.length_take]; rfl)) ?_; (with_reducible refine (impl_DriveCars.calls k3 _ _ t653 t654 t678 t679 _ ?side1 ?side2 A53.out).mono ?_); (case side1 => repeat (first | exact (Kd.R_reads' HO_5.out).2.2 | (with_reducible refine Kd.C_alloc ?_ _) | (with_reducible refine Kd.C_drewN ?_ _) | (with_reducible refine Kd.C_drew ?_))); (case side2 => exact (Kd.R_reads' HO_5.out).2.1); rintro e w64 ⟨v680, rfl, ho0, hb⟩; refine ⟨_, rfl, ?_⟩; have n0_ := Aside0.mk (Kd.R_elder' (by (with_reducible repeat (first | apply Kd.R_alloc | apply Kd.R_drewN | apply Kd.R_drew)); exact HO_5.out) (Kd.R_base ho0) hb); have n1_ := Aside0.mk (Kd.R_lower (Kd.R_new' ho0 (Kd.R_lt (by (with_reducible repeat (first | apply Kd.R_alloc | apply Kd.R_drewN | apply Kd.R_drew)); exact HO_5.out))) (below_size (by repeat (first | (with_reducible first | exact HB.out | apply below_alloc | apply pw_below_drewN | apply below_drew1) | exact HB.out)))); have n2_ := Aside0.mk (below_step (by repeat (first | (with_reducible first | exact HB.out | apply below_alloc | apply pw_below_drewN | apply below_drew1) | exact HB.out)) hb); clear HO_5; clear HB; have HO_5 := n0_; have HO681 := n1_; have HB := n2_; clear n0_ n1_ n2_; (try clear hb); (try clear hb2); (try clear hk); (try clear hi); (try clear ho0)) | ((with_reducible refine gate_callee (f := 30) rfl ?_); refine goesL_ (some 153) rfl rfl Try.func30 (by kernel_rfl) rfl #[.slice Ao12 t653.length co12, .int .i64 t654, .int .i64 0] rfl (by (try simp only [List.map_toArray, List.map_cons, List.map_nil]); first | done | rfl | (simp only [List.length_drop, List.length_take]; rfl)) ?_; (with_reducible refine (impl_DriveBack.calls k3 _ _ t653 t654 0 t682 t683 _ ?side1 ?side2 A54.out).mono ?_); (case side1 => repeat (first | exact (Kd.R_reads' HO_5.out).2.2 | (with_reducible refine Kd.C_alloc ?_ _) | (with_reducible refine Kd.C_drewN ?_ _) | (with_reducible refine Kd.C_drew ?_))); (case side2 => exact (Kd.R_reads' HO_5.out).2.1); rintro e w65 ⟨v684, rfl, ho0, hb⟩; refine ⟨_, rfl, ?_⟩; have n0_ := Aside0.mk (Kd.R_elder' (by (with_reducible repeat (first | apply Kd.R_alloc | apply Kd.R_drewN | apply Kd.R_drew)); exact HO_5.out) (Kd.R_base ho0) hb); have n1_ := Aside0.mk (Kd.R_elder' (by (with_reducible repeat (first | apply Kd.R_alloc | apply Kd.R_drewN | apply Kd.R_drew)); exact HO681.out) (Kd.R_base ho0) hb); have n2_ := Aside0.mk (Kd.R_lower (Kd.R_new' (Kd.R_new' ho0 (Kd.R_lt (by (with_reducible repeat (first | apply Kd.R_alloc | apply Kd.R_drewN | apply Kd.R_drew)); exact HO_5.out))) (Kd.R_lt (by (with_reducible repeat (first | apply Kd.R_alloc | apply Kd.R_drewN | apply Kd.R_drew)); exact HO681.out))) (below_size (by repeat (first | (with_reducible first | exact HB.out | apply below_alloc | apply pw_below_drewN | apply below_drew1) | exact HB.out)))); have n3_ := Aside0.mk (below_step (by repeat (first | (with_reducible first | exact HB.out | apply below_alloc | apply pw_below_drewN | apply below_drew1) | exact HB.out)) hb); clear HO_5; clear HO681; clear HB; have HO_5 := n0_; have HO681 := n1_; have HO685 := n2_; have HB := n3_; clear n0_ n1_ n2_ n3_; (try clear hb); (try clear hb2); (try clear hk); (try clear hi); (try clear ho0); obtain ⟨Ao66, co66, eo66⟩ := Kd.R_slice HO681.out; subst eo66; obtain ⟨Ao67, co67, eo67⟩ := Kd.R_slice HO685.out; subst eo67) | (go_at_call 34; (with_reducible refine (laws_jSame.calls k3 _ _ t678 _ _ t682 false _ ?side1 ?side2 ?side3 ?side4 A58.out).mono ?_); (case side1 => repeat (first | exact (Kd.R_reads' HO681.out).2.2 | (with_reducible refine Kd.C_alloc ?_ _) | (with_reducible refine Kd.C_drewN ?_ _) | (with_reducible refine Kd.C_drew ?_))); (case side2 => exact (Kd.R_reads' HO681.out).2.1); (case side3 => repeat (first | exact (Kd.R_reads' HO685.out).2.2 | (with_reducible refine Kd.C_alloc ?_ _) | (with_reducible refine Kd.C_drewN ?_ _) | (with_reducible refine Kd.C_drew ?_))); (case side4 => exact (Kd.R_reads' HO685.out).2.1); rintro e w' ⟨rfl, ⟨nd, rfl⟩⟩))
                              go_ret
                              exact ⟨by first | rfl | (simp [errW_none, errW_some] <;> rfl) | (simp [*, errW_none, errW_some] <;> rfl), by repeat (first | (with_reducible first | exact HB.out | apply below_alloc | apply pw_below_drewN | apply below_drew1) | exact HB.out)⟩
                  · replace c41 := Bool.eq_false_iff.mpr c41
                    subst c41
                    have H1 : (laws_FnCarsThatLookBack.j3 kj32 l1) = some r := by rw [if_neg (show ¬ (false = true) by decide)] at H; exact H
                    clear H
                    have H := H1
                    clear H1
                    have H' := Aside0.mk H
                    clear H
                    go_wp2
                    go_meet
                    case rel => exact ⟨_, H', ⟨by have := HJ9.out; have := HJ32.out; first | omega | exact Nat.le_refl _⟩, ⟨by repeat (first | (with_reducible first | exact HB.out | apply below_alloc | apply pw_below_drewN | apply below_drew1) | exact HB.out)⟩⟩
                case rest =>
                  clear HC39
                  try clear c1
                  try clear c2
                  try clear p2
                  try clear c3
                  try clear c4
                  try clear c5
                  try clear p6
                  try clear c8
                  try clear c17
                  try clear c17b0
                  try clear c17b1
                  try clear c17b2
                  try clear c19
                  try clear c20
                  try clear c20b0
                  try clear c20b1
                  try clear c20b2
                  try clear c23
                  try clear c23b0
                  try clear c23b1
                  try clear c23b2
                  try clear c29
                  try clear c30
                  try clear c31
                  try clear c32
                  try clear c33
                  try clear c35
                  try clear c36
                  try clear c36b0
                  try clear c36b1
                  try clear c36b2
                  try clear c37
                  try clear c38
                  try clear c41
                  try clear c42
                  try clear c42b0
                  try clear c44
                  try clear c45
                  try clear c46
                  try clear c46b0
                  try clear c46b1
                  try clear c46b2
                  try clear c49
                  try clear c49b0
                  try clear c49b1
                  try clear c49b2
                  try clear c55
                  try clear c55b0
                  try clear c55b1
                  try clear c55b2
                  try clear c59
                  try clear p64
                  try clear p2
                  obtain ⟨kq, HA, HJ38, HB⟩ := hcut
                  cases kq with
                  | zero => exact absurd HA.out (by simp [laws_FnCarsThatLookBack.j3])
                  | succ kj38 =>
                    have H := HA.out
                    clear HA
                    simp only [laws_FnCarsThatLookBack.j3] at H
                    replace H := Option.bind_eq_some_iff.mp H
                    obtain ⟨⟨t687, t688⟩, A680, H⟩ := H
                    replace H : ((impl_CountBack.f kj38 t687 t688).bind fun bt689 => ((spec_CountBack.f kj38 t687 t688).bind fun bt691 => (if (bt689.2 != bt691.2) = true then (laws_FnCarsThatLookBack.j4 kj38 t687 t688 bt689.1 bt689.2 true) else (laws_FnCarsThatLookBack.j4 kj38 t687 t688 bt689.1 bt689.2 (bt689.1 != bt691.1))))) = some r := H
                    have A68 := Aside0.mk A680
                    clear A680
                    replace H := Option.bind_eq_some_iff.mp H
                    obtain ⟨⟨t689, t690⟩, A690, H⟩ := H
                    replace H : ((spec_CountBack.f kj38 t687 t688).bind fun bt691 => (if (t690 != bt691.2) = true then (laws_FnCarsThatLookBack.j4 kj38 t687 t688 t689 t690 true) else (laws_FnCarsThatLookBack.j4 kj38 t687 t688 t689 t690 (t689 != bt691.1)))) = some r := H
                    have A69 := Aside0.mk A690
                    clear A690
                    replace H := Option.bind_eq_some_iff.mp H
                    obtain ⟨⟨t691, t692⟩, A700, H⟩ := H
                    replace H : (if (t690 != t692) = true then (laws_FnCarsThatLookBack.j4 kj38 t687 t688 t689 t690 true) else (laws_FnCarsThatLookBack.j4 kj38 t687 t688 t689 t690 (t689 != t691))) = some r := H
                    have A70 := Aside0.mk A700
                    clear A700
                    have HC71 := Aside0.mk H
                    clear H
                    go_upto_region 28 with (first | ((with_reducible refine gate_callee (f := 39) rfl ?_); refine goesL_ (some 167) rfl rfl Try.func39 (by kernel_rfl) rfl #[.slice A1 l1.length c1] rfl (by (try simp only [List.map_toArray, List.map_cons, List.map_nil]); first | done | rfl | (simp only [List.length_drop, List.length_take]; rfl)) ?_; (with_reducible refine (spec_DrawCountBack.calls _ _ l1 t687 t688 _ ?side1 ?side2 A68.out).mono ?_); (case side1 => repeat (first | exact (Kd.C_below HR1.out HB.out) | (with_reducible refine Kd.C_alloc ?_ _) | (with_reducible refine Kd.C_drewN ?_ _) | (with_reducible refine Kd.C_drew ?_))); (case side2 => exact HC1.out); rintro e w72 ⟨rfl, hb⟩; refine ⟨_, rfl, ?_⟩; have n0_ := Aside0.mk (below_step (by repeat (first | (with_reducible first | exact HB.out | apply below_alloc | apply pw_below_drewN | apply below_drew1) | exact HB.out)) hb); clear HB; have HB := n0_; clear n0_; (try clear hb); (try clear hb2); (try clear hk); (try clear hi)) | ((with_reducible refine gate_callee (f := 26) rfl ?_); refine goesL_ (some 173) rfl rfl Try.func26 (by kernel_rfl) rfl #[.int .i64 t687, .int .i64 t688] rfl (by (try simp only [List.map_toArray, List.map_cons, List.map_nil]); first | done | rfl | (simp only [List.length_drop, List.length_take]; rfl)) ?_; (with_reducible refine (impl_CountBack.calls kj38 t687 t688 t689 t690 _ A69.out).mono ?_); rintro e w73 ⟨rfl, hb⟩; refine ⟨_, rfl, ?_⟩; have n0_ := Aside0.mk (below_step (by repeat (first | (with_reducible first | exact HB.out | apply below_alloc | apply pw_below_drewN | apply below_drew1) | exact HB.out)) hb); clear HB; have HB := n0_; clear n0_; (try clear hb); (try clear hb2); (try clear hk); (try clear hi)) | ((with_reducible refine gate_callee (f := 25) rfl ?_); refine goesL_ (some 179) rfl rfl Try.func25 (by kernel_rfl) rfl #[.int .i64 t687, .int .i64 t688] rfl (by (try simp only [List.map_toArray, List.map_cons, List.map_nil]); first | done | rfl | (simp only [List.length_drop, List.length_take]; rfl)) ?_; (with_reducible refine (spec_CountBack.calls kj38 t687 t688 t691 t692 _ A70.out).mono ?_); rintro e w74 ⟨rfl, hb⟩; refine ⟨_, rfl, ?_⟩; have n0_ := Aside0.mk (below_step (by repeat (first | (with_reducible first | exact HB.out | apply below_alloc | apply pw_below_drewN | apply below_drew1) | exact HB.out)) hb); clear HB; have HB := n0_; clear n0_; (try clear hb); (try clear hb2); (try clear hk); (try clear hi)))
                    (try simp only [Act.put, List.setIfInBounds_toArray, List.set_cons_zero, List.set_cons_succ])
                    go_cut [189] (fun v189 wc => ∃ (kq : Nat) (x189_70 : Bool), v189 = .bool x189_70 ∧ Aside0 (laws_FnCarsThatLookBack.j4 kq t687 t688 t689 t690 x189_70 = some r) ∧ Aside0 (kq ≤ kj38) ∧ Aside0 (Below w.heap.size w wc))
                    case first =>
                      have H := HC71.out
                      clear HC71
                      by_cases c75 : (t690 != t692) = true
                      · rw [if_pos c75] at H
                        have c75b0 : (t690 != t692) = true := c75
                        (try (have c75b1 : decide (t690 = t692) = false := by simpa using c75))
                        (try (have c75b2 : (t690 == t692) = false := by simpa using c75))
                        (try (have c75b3 : ¬ (t690 = t692) := by simpa using c75))
                        clear c75
                        (first | rw [c75b0] | (simp only [i64_w, i32_w]; rw [c75b0]) | skip)
                        have H' := Aside0.mk H
                        clear H
                        go_wp2
                        go_meet
                        case rel => exact ⟨_, (true), (by first | rfl | (simp; done) | (simp [*]; done)), H', ⟨by have := HJ9.out; have := HJ32.out; have := HJ38.out; first | omega | exact Nat.le_refl _⟩, ⟨by repeat (first | (with_reducible first | exact HB.out | apply below_alloc | apply pw_below_drewN | apply below_drew1) | exact HB.out)⟩⟩
                      · rw [if_neg c75] at H
                        have c75b0 : (t690 != t692) = false := by simpa using c75
                        (try (have c75b1 : decide (t690 = t692) = true := by simpa using c75))
                        (try (have c75b2 : (t690 == t692) = true := by simpa using c75))
                        clear c75
                        (first | rw [c75b0] | (simp only [i64_w, i32_w]; rw [c75b0]) | skip)
                        have H' := Aside0.mk H
                        clear H
                        go_wp2
                        go_meet
                        case rel => exact ⟨_, ((t689 != t691)), (by first | rfl | (simp; done) | (simp [*]; done)), H', ⟨by have := HJ9.out; have := HJ32.out; have := HJ38.out; first | omega | exact Nat.le_refl _⟩, ⟨by repeat (first | (with_reducible first | exact HB.out | apply below_alloc | apply pw_below_drewN | apply below_drew1) | exact HB.out)⟩⟩
                    case rest =>
                      clear HC71
                      try clear c1
                      try clear c2
                      try clear p2
                      try clear c3
                      try clear c4
                      try clear c5
                      try clear p6
                      try clear c7
                      try clear c8
                      try clear c17
                      try clear c17b0
                      try clear c17b1
                      try clear c17b2
                      try clear c19
                      try clear c20
                      try clear c20b0
                      try clear c20b1
                      try clear c20b2
                      try clear c23
                      try clear c23b0
                      try clear c23b1
                      try clear c23b2
                      try clear c25
                      try clear c26
                      try clear c29
                      try clear c30
                      try clear c31
                      try clear c32
                      try clear c33
                      try clear c35
                      try clear c36
                      try clear c36b0
                      try clear c36b1
                      try clear c36b2
                      try clear c37
                      try clear c38
                      try clear c39
                      try clear c41
                      try clear c42
                      try clear c42b0
                      try clear c44
                      try clear c45
                      try clear c46
                      try clear c46b0
                      try clear c46b1
                      try clear c46b2
                      try clear c49
                      try clear c49b0
                      try clear c49b1
                      try clear c49b2
                      try clear c55
                      try clear c55b0
                      try clear c55b1
                      try clear c55b2
                      try clear c59
                      try clear p64
                      try clear c75
                      try clear c75b0
                      try clear c75b1
                      try clear c75b2
                      try clear p2
                      try clear p6
                      try clear p64
                      obtain ⟨kq, x189_70, rfl, HA, HJ70, HB⟩ := hcut
                      cases kq with
                      | zero => exact absurd HA.out (by simp [laws_FnCarsThatLookBack.j4])
                      | succ kj70 =>
                        have H := HA.out
                        clear HA
                        simp only [laws_FnCarsThatLookBack.j4] at H
                        by_cases c76 : x189_70 = true
                        · subst c76
                          have H1 : (some false) = some r := by rw [if_pos rfl] at H; exact H
                          clear H
                          have H := H1
                          clear H1
                          obtain rfl := Option.some.inj H
                          go_wp2
                          go_ret
                          exact ⟨by first | rfl | (simp [errW_none, errW_some] <;> rfl) | (simp [*, errW_none, errW_some] <;> rfl), by repeat (first | (with_reducible first | exact HB.out | apply below_alloc | apply pw_below_drewN | apply below_drew1) | exact HB.out)⟩
                        · as_aux_lemma =>
                          replace c76 := Bool.eq_false_iff.mpr c76
                          subst c76
                          have H1 : (if t690 = true then ((impl_CountParking.f kj70 t687).bind fun bt693 => (laws_FnCarsThatLookBack.l1 kj70 t687 t688 t689 bt693.1 bt693.2 1 0)) else (some true)) = some r := by rw [if_neg (show ¬ (false = true) by decide)] at H; exact H
                          clear H
                          have H := H1
                          clear H1
                          by_cases c77 : t690 = true
                          · as_aux_lemma =>
                            subst c77
                            have H1 : ((impl_CountParking.f kj70 t687).bind fun bt693 => (laws_FnCarsThatLookBack.l1 kj70 t687 t688 t689 bt693.1 bt693.2 1 0)) = some r := by rw [if_pos rfl] at H; exact H
                            clear H
                            have H := H1
                            clear H1
                            replace H := Option.bind_eq_some_iff.mp H
                            obtain ⟨⟨t693, t694⟩, A780, H⟩ := H
                            replace H : (laws_FnCarsThatLookBack.l1 kj70 t687 t688 t689 t693 t694 1 0) = some r := H
                            have A78 := Aside0.mk A780
                            clear A780
                            have H' := Aside0.mk H
                            clear H
                            go_wp2_with (first | ((with_reducible refine gate_callee (f := 40) rfl ?_); refine goesL_ (some 193) rfl rfl Try.func40 (by kernel_rfl) rfl #[.int .i64 t687] rfl (by (try simp only [List.map_toArray, List.map_cons, List.map_nil]); first | done | rfl | (simp only [List.length_drop, List.length_take]; rfl)) ?_; (with_reducible refine (impl_CountParking.calls kj70 t687 t693 t694 _ A78.out).mono ?_); rintro e w79 ⟨rfl, hb⟩; refine ⟨_, rfl, ?_⟩; have n0_ := Aside0.mk (below_step (by repeat (first | (with_reducible first | exact HB.out | apply below_alloc | apply pw_below_drewN | apply below_drew1) | exact HB.out)) hb); clear HB; have HB := n0_; clear n0_; (try clear hb); (try clear hb2); (try clear hk); (try clear hi)))
                            go_loopg [35, 36] kj70 (fun kq v35 v36 w' => ∃ (x35_5 : Int) (x36_5 : Int), v35 = .int .i64 x35_5 ∧ v36 = .int .i64 x36_5 ∧ Aside0 (laws_FnCarsThatLookBack.l1 kq t687 t688 t689 t693 t694 x35_5 x36_5 = some r) ∧ Aside0 (kq ≤ kj70) ∧ Aside0 (Below w.heap.size w w'))
                            case atStart => exact ⟨(1), (0), (by first | rfl | (simp; done) | (simp [*]; done)), (by first | rfl | (simp; done) | (simp [*]; done)), H', ⟨Nat.le_refl _⟩, ⟨by repeat (first | (with_reducible first | exact HB.out | apply below_alloc | apply pw_below_drewN | apply below_drew1) | exact HB.out)⟩⟩
                            case round =>
                              clear H'
                              try clear c1
                              try clear c2
                              try clear p2
                              try clear c3
                              try clear c4
                              try clear c5
                              try clear p6
                              try clear c7
                              try clear c8
                              try clear c17
                              try clear c17b0
                              try clear c17b1
                              try clear c17b2
                              try clear c19
                              try clear c20
                              try clear c20b0
                              try clear c20b1
                              try clear c20b2
                              try clear c23
                              try clear c23b0
                              try clear c23b1
                              try clear c23b2
                              try clear c25
                              try clear c26
                              try clear c29
                              try clear c30
                              try clear c31
                              try clear c32
                              try clear c33
                              try clear c35
                              try clear c36
                              try clear c36b0
                              try clear c36b1
                              try clear c36b2
                              try clear c37
                              try clear c38
                              try clear c39
                              try clear c40
                              try clear c41
                              try clear c42
                              try clear c42b0
                              try clear c44
                              try clear c45
                              try clear c46
                              try clear c46b0
                              try clear c46b1
                              try clear c46b2
                              try clear c49
                              try clear c49b0
                              try clear c49b1
                              try clear c49b2
                              try clear c55
                              try clear c55b0
                              try clear c55b1
                              try clear c55b2
                              try clear c59
                              try clear p64
                              try clear c75
                              try clear c75b0
                              try clear c75b1
                              try clear c75b2
                              try clear c76
                              try clear c77
                              try clear p2
                              try clear p6
                              try clear p64
                              obtain ⟨x35_5, x36_5, rfl, rfl, HA, HK5, HB⟩ := hrel
                              cases gk with
                              | zero => exact absurd HA.out (by simp [laws_FnCarsThatLookBack.l1])
                              | succ k5 =>
                                have H := HA.out
                                clear HA
                                simp only [laws_FnCarsThatLookBack.l1] at H
                                by_cases c80 : x36_5 < t687
                                · rw [if_pos c80] at H
                                  have c80b0 : decide (x36_5 < t687) = true := decide_eq_true c80
                                  clear c80
                                  have H' := Aside0.mk H
                                  clear H
                                  go_wp2
                                  go_roundg k5
                                  case measure => have := HJ9.out; have := HJ32.out; have := HJ38.out; have := HJ70.out; have := HK5.out; omega
                                  case rel => exact ⟨(wrap64 (x35_5 * t687)), (wrap64 (x36_5 + 1)), (by first | rfl | (simp; done) | (simp [*]; done)), (by first | rfl | (simp; done) | (simp [*]; done)), H', ⟨by have := HJ9.out; have := HJ32.out; have := HJ38.out; have := HJ70.out; have := HK5.out; omega⟩, ⟨by repeat (first | (with_reducible first | exact HB.out | apply below_alloc | apply pw_below_drewN | apply below_drew1) | exact HB.out)⟩⟩
                                · as_aux_lemma =>
                                  rw [if_neg c80] at H
                                  have c80b0 : decide (x36_5 < t687) = false := decide_eq_false c80
                                  clear c80
                                  by_cases c81 : t694 = true
                                  · as_aux_lemma =>
                                    subst c81
                                    have H1 : (if t693 ≤ t689 then (if t689 ≤ x35_5 then (if t688 > 0 then (if t688 < (wrap64 (t687 - 1)) then (some true) else (some (t689 == x35_5))) else (if t689 = t693 then (if t688 < (wrap64 (t687 - 1)) then (some true) else (some (t689 == x35_5))) else (some false))) else (some false)) else (some false)) = some r := by rw [if_pos rfl] at H; exact H
                                    clear H
                                    have H := H1
                                    clear H1
                                    by_cases c82 : t693 ≤ t689
                                    · as_aux_lemma =>
                                      rw [if_pos c82] at H
                                      have c82b0 : decide (t693 ≤ t689) = true := decide_eq_true c82
                                      clear c82
                                      by_cases c83 : t689 ≤ x35_5
                                      · rw [if_pos c83] at H
                                        have c83b0 : decide (t689 ≤ x35_5) = true := decide_eq_true c83
                                        clear c83
                                        by_cases c84 : t688 > 0
                                        · rw [if_pos c84] at H
                                          have c84b0 : decide (0 < t688) = true := decide_eq_true c84
                                          clear c84
                                          by_cases c85 : t688 < (wrap64 (t687 - 1))
                                          · rw [if_pos c85] at H
                                            have c85b0 : decide (t688 < (wrap64 (t687 - 1))) = true := decide_eq_true c85
                                            clear c85
                                            obtain rfl := Option.some.inj H
                                            go_wp2
                                            go_ret
                                            exact ⟨by first | rfl | (simp [errW_none, errW_some] <;> rfl) | (simp [*, errW_none, errW_some] <;> rfl), by repeat (first | (with_reducible first | exact HB.out | apply below_alloc | apply pw_below_drewN | apply below_drew1) | exact HB.out)⟩
                                          · rw [if_neg c85] at H
                                            have c85b0 : decide (t688 < (wrap64 (t687 - 1))) = false := decide_eq_false c85
                                            clear c85
                                            obtain rfl := Option.some.inj H
                                            go_wp2
                                            go_ret
                                            exact ⟨by first | rfl | (simp [errW_none, errW_some] <;> rfl) | (simp [*, errW_none, errW_some] <;> rfl), by repeat (first | (with_reducible first | exact HB.out | apply below_alloc | apply pw_below_drewN | apply below_drew1) | exact HB.out)⟩
                                        · rw [if_neg c84] at H
                                          have c84b0 : decide (0 < t688) = false := decide_eq_false c84
                                          clear c84
                                          by_cases c86 : t689 = t693
                                          · rw [if_pos c86] at H
                                            have c86b0 : (t689 == t693) = true := beq_iff_eq.mpr c86
                                            have c86b1 : (t689 != t693) = false := bne_eq_false_iff_eq.mpr c86
                                            clear c86
                                            by_cases c87 : t688 < (wrap64 (t687 - 1))
                                            · rw [if_pos c87] at H
                                              have c87b0 : decide (t688 < (wrap64 (t687 - 1))) = true := decide_eq_true c87
                                              clear c87
                                              obtain rfl := Option.some.inj H
                                              go_wp2
                                              go_ret
                                              exact ⟨by first | rfl | (simp [errW_none, errW_some] <;> rfl) | (simp [*, errW_none, errW_some] <;> rfl), by repeat (first | (with_reducible first | exact HB.out | apply below_alloc | apply pw_below_drewN | apply below_drew1) | exact HB.out)⟩
                                            · rw [if_neg c87] at H
                                              have c87b0 : decide (t688 < (wrap64 (t687 - 1))) = false := decide_eq_false c87
                                              clear c87
                                              obtain rfl := Option.some.inj H
                                              go_wp2
                                              go_ret
                                              exact ⟨by first | rfl | (simp [errW_none, errW_some] <;> rfl) | (simp [*, errW_none, errW_some] <;> rfl), by repeat (first | (with_reducible first | exact HB.out | apply below_alloc | apply pw_below_drewN | apply below_drew1) | exact HB.out)⟩
                                          · rw [if_neg c86] at H
                                            have c86b0 : (t689 == t693) = false := beq_eq_false_iff_ne.mpr c86
                                            have c86b1 : (t689 != t693) = true := bne_iff_ne.mpr c86
                                            obtain rfl := Option.some.inj H
                                            go_wp2
                                            go_ret
                                            exact ⟨by first | rfl | (simp [errW_none, errW_some] <;> rfl) | (simp [*, errW_none, errW_some] <;> rfl), by repeat (first | (with_reducible first | exact HB.out | apply below_alloc | apply pw_below_drewN | apply below_drew1) | exact HB.out)⟩
                                      · rw [if_neg c83] at H
                                        have c83b0 : decide (t689 ≤ x35_5) = false := decide_eq_false c83
                                        clear c83
                                        obtain rfl := Option.some.inj H
                                        go_wp2
                                        go_ret
                                        exact ⟨by first | rfl | (simp [errW_none, errW_some] <;> rfl) | (simp [*, errW_none, errW_some] <;> rfl), by repeat (first | (with_reducible first | exact HB.out | apply below_alloc | apply pw_below_drewN | apply below_drew1) | exact HB.out)⟩
                                    · rw [if_neg c82] at H
                                      have c82b0 : decide (t693 ≤ t689) = false := decide_eq_false c82
                                      clear c82
                                      obtain rfl := Option.some.inj H
                                      go_wp2
                                      go_ret
                                      exact ⟨by first | rfl | (simp [errW_none, errW_some] <;> rfl) | (simp [*, errW_none, errW_some] <;> rfl), by repeat (first | (with_reducible first | exact HB.out | apply below_alloc | apply pw_below_drewN | apply below_drew1) | exact HB.out)⟩
                                  · replace c81 := Bool.eq_false_iff.mpr c81
                                    subst c81
                                    have H1 : (some false) = some r := by rw [if_neg (show ¬ (false = true) by decide)] at H; exact H
                                    clear H
                                    have H := H1
                                    clear H1
                                    obtain rfl := Option.some.inj H
                                    go_wp2
                                    go_ret
                                    exact ⟨by first | rfl | (simp [errW_none, errW_some] <;> rfl) | (simp [*, errW_none, errW_some] <;> rfl), by repeat (first | (with_reducible first | exact HB.out | apply below_alloc | apply pw_below_drewN | apply below_drew1) | exact HB.out)⟩
                          · replace c77 := Bool.eq_false_iff.mpr c77
                            subst c77
                            have H1 : (some true) = some r := by rw [if_neg (show ¬ (false = true) by decide)] at H; exact H
                            clear H
                            have H := H1
                            clear H1
                            obtain rfl := Option.some.inj H
                            go_wp2
                            go_ret
                            exact ⟨by first | rfl | (simp [errW_none, errW_some] <;> rfl) | (simp [*, errW_none, errW_some] <;> rfl), by repeat (first | (with_reducible first | exact HB.out | apply below_alloc | apply pw_below_drewN | apply below_drew1) | exact HB.out)⟩

/-- THE ONE PURE STATEMENT of laws_FnCarsThatLookBack: yours. -/
def laws_FnCarsThatLookBack.Pure : Prop := ∀ (l0 : List Int) (l1 : List Int), l0.length ≤ maxLen → l0.length * 1 ≤ 140737488351232 → (∀ x ∈ l0, (Lit.int .u8 x).wf = true) → l1.length ≤ maxLen → l1.length * 1 ≤ 140737488351232 → (∀ x ∈ l1, (Lit.int .u8 x).wf = true) → ∃ k, laws_FnCarsThatLookBack.f k l0 l1 = some true
theorem laws_FnCarsThatLookBack.walk (P : laws_FnCarsThatLookBack.Pure) (a0 : Option Addr) (len0 cap0 : Nat) (z0 : List Int) (a1 : Option Addr) (len1 cap1 : Nat) (z1 : List Int) (w : World) (w0 : (a0 = none ∧ len0 = 0 ∧ cap0 = 0 ∧ z0 = []) ∨ ∃ x, a0 = some x ∧ len0 ≤ cap0 ∧ cap0 ≤ maxLen ∧ z0.length = cap0 ∧ (∀ i, i < z0.length → w.cell? (x.add i) = some (.int .u8 (z0.getD i 0))) ∧ ∀ n ∈ z0, (Lit.int .u8 n).wf = true) (y0 : len0 * 1 ≤ 140737488351232) (w1 : (a1 = none ∧ len1 = 0 ∧ cap1 = 0 ∧ z1 = []) ∨ ∃ x, a1 = some x ∧ len1 ≤ cap1 ∧ cap1 ≤ maxLen ∧ z1.length = cap1 ∧ (∀ i, i < z1.length → w.cell? (x.add i) = some (.int .u8 (z1.getD i 0))) ∧ ∀ n ∈ z1, (Lit.int .u8 n).wf = true) (y1 : len1 * 1 ≤ 140737488351232) :
    Calls Try.prog 8 #[.slice a0 len0 cap0, .slice a1 len1 cap1] w fun e w' => e = .returned (.bool true) ∧ Below w.heap.size w w' := by
  obtain ⟨l0, rfl, hr0, hm0, hw0, hc0⟩ := ReadsInt.ofRowC w0
  obtain ⟨l1, rfl, hr1, hm1, hw1, hc1⟩ := ReadsInt.ofRowC w1
  obtain ⟨k, h⟩ := P l0 l1 hm0 y0 hw0 hm1 y1 hw1
  refine (laws_FnCarsThatLookBack.calls k _ _ l0 _ _ l1 true w (Kd.C_of_reads (d := (0 : Int)) (h1 := fun _ => rfl) hr0) hc0 (Kd.C_of_reads (d := (0 : Int)) (h1 := fun _ => rfl) hr1) hc1 h).mono ?_
  rintro e w' ⟨rfl, hd⟩
  exact ⟨rfl, hd⟩
end Go.Proofs.Ytfclfjengfmjaaa.G
namespace Go.Proofs.Ytfclfjengfmjaaa.G
open Go.RowKit Go.Proofs.YtfclfjengfmjaaaW.PrintWords Go.Proofs.YtfclfjengfmjaaaW.PrintLast Go.Proofs.YtfclfjengfmjaaaW.PrintMore
set_option linter.unusedVariables false
set_option linter.unusedSimpArgs false
theorem wrap_id {x : Int} (h1 : -9223372036854775808 ≤ x) (h2 : x ≤ 9223372036854775807) : wrap64 x = x := by unfold wrap64; omega
theorem wrap_next {i n : Nat} (h : i < n) (hn : n ≤ 4611686018427387904) : wrap64 ((i : Int) + 1) = ((i + 1 : Nat) : Int) := by rw [wrap_id (by omega) (by omega)]; rfl
theorem succ_of {d k : Nat} (h : d < k) : ∃ m, k = m + 1 := ⟨k - 1, by omega⟩
theorem rd_nat (l : List Int) (i : Nat) : rd l (i : Int) = l.getD i 0 := by unfold rd; rw [Int.toNat_natCast]
theorem drop_getD {l : List Int} {i : Nat} (h : i < l.length) : l.drop i = l.getD i 0 :: l.drop (i + 1) := by
  rw [List.drop_eq_getElem_cons h, List.getD_eq_getElem?_getD, List.getElem?_eq_getElem h]; rfl
theorem Ev.of_all {α : Type} {g : Nat → Option α} {r : α} (K : Nat) (h : ∀ k, K < k → g k = some r) : Ev g r := ⟨K + 1, fun k hk => h k (by omega)⟩
/-- A loop that counts up: its state at each count, what is left behind the last one. -/
theorem Ev.up {σ ρ : Type} (n : Nat) (S : Nat → σ) (L : Nat → σ → Int → Option ρ) (r : ρ)
    (hstep : ∀ i, i < n → Ev (fun k => L k (S (i + 1)) ((i + 1 : Nat) : Int)) r → Ev (fun k => L k (S i) (i : Int)) r)
    (hend : Ev (fun k => L k (S n) (n : Int)) r) : ∀ m, m ≤ n → Ev (fun k => L k (S m) (m : Int)) r := by
  intro m hm
  have key : ∀ d m, m + d = n → Ev (fun k => L k (S m) (m : Int)) r := by
    intro d
    induction d with
    | zero => intro m hd; obtain rfl : m = n := by omega
              exact hend
    | succ d ih => intro m hd; exact hstep m (by omega) (ih (m + 1) (by omega))
  exact key (n - m) m (by omega)
theorem Ev.up0 {σ ρ : Type} (n : Nat) (S : Nat → σ) (L : Nat → σ → Int → Option ρ) (r : ρ)
    (hstep : ∀ i, i < n → Ev (fun k => L k (S (i + 1)) ((i + 1 : Nat) : Int)) r → Ev (fun k => L k (S i) (i : Int)) r)
    (hend : Ev (fun k => L k (S n) (n : Int)) r) : Ev (fun k => L k (S 0) 0) r := Ev.up n S L r hstep hend 0 (Nat.zero_le _)
/-- A round that needs no rounds of others. -/
theorem Ev.one {α : Type} {g f : Nat → Option α} {r : α} (k : Ev f r) (h : ∀ k, g (k + 1) = f k) : Ev g r := Ev.step h k
theorem Ev.end_ {α : Type} {g : Nat → Option α} {r : α} (h : ∀ k, g (k + 1) = some r) : Ev g r := Ev.step h (Ev.now r)
theorem Ev.eq {α : Type} {g : Nat → Option α} {r : α} (h : ∀ k, g k = some r) : Ev g r := ⟨0, fun k _ => h k⟩
theorem l1In_eq (a b c : Int) : spec_l1In.f a b c = some (decide (b ≤ a ∧ a ≤ c)) := by
  unfold spec_l1In.f
  split
  · rename_i h; congr 1; rw [Bool.eq_iff_iff]; simp; omega
  · rename_i h; congr 1; rw [Bool.eq_iff_iff]; simp; omega
theorem l1All_l0 (l : List Int) (lo hi : Int) (hn : l.length ≤ 4611686018427387904) : ∀ (d k i : Nat), i + d = l.length → d < k → spec_l1All.l0 k lo hi l (l.length : Int) i = some ((l.drop i).all fun x => decide (lo ≤ x ∧ x ≤ hi)) := by
  intro d
  induction d with
  | zero =>
    intro k i hd hk
    obtain ⟨k, rfl⟩ := succ_of hk
    rw [spec_l1All.l0, if_neg (by omega), List.drop_of_length_le (by omega)]; rfl
  | succ d ih =>
    intro k i hd hk
    obtain ⟨k, rfl⟩ := succ_of hk
    rw [spec_l1All.l0, if_pos (by omega), if_pos (by omega), if_pos (by omega), l1In_eq, Option.bind_some, rd_nat, wrap_next (n := l.length) (by omega) hn, ih k (i + 1) (by omega) (by omega), drop_getD (l := l) (i := i) (by omega), List.all_cons]
    split
    · rename_i h; rw [h, Bool.true_and]
    · rename_i h; rw [Bool.not_eq_true] at h; rw [h, Bool.false_and]
theorem l1All_ev (l : List Int) (lo hi : Int) (hn : l.length ≤ 4611686018427387904) : Ev (fun k => spec_l1All.f k l lo hi) (l.all fun x => decide (lo ≤ x ∧ x ≤ hi)) := by
  refine Ev.of_all l.length fun k hk => ?_
  have := l1All_l0 l lo hi hn l.length k 0 (by omega) hk
  simpa [spec_l1All.f] using this
def Bytes (l : List Int) : Prop := ∀ x ∈ l, 0 ≤ x ∧ x ≤ 255
theorem bytes_of {l : List Int} (h : ∀ x ∈ l, (Lit.int .u8 x).wf = true) : Bytes l := by
  intro x hx
  have h2 := h x hx
  simp only [Lit.wf, Bool.and_eq_true, decide_eq_true_eq] at h2
  have e1 : IntKind.u8.min = 0 := by decide
  have e2 : IntKind.u8.max = 255 := by decide
  rw [e1, e2] at h2
  exact h2
theorem Bytes.get {l : List Int} (h : Bytes l) (j : Nat) : 0 ≤ l.getD j 0 ∧ l.getD j 0 ≤ 255 := by
  rcases Nat.lt_or_ge j l.length with hj | hj
  · exact h _ (by rw [List.getD_eq_getElem?_getD, List.getElem?_eq_getElem hj]; exact List.getElem_mem hj)
  · rw [List.getD_eq_getElem?_getD, List.getElem?_eq_none hj]; simp
theorem and255 (x : Int) : 0 ≤ Go.bits .and .u64 x 255 ∧ Go.bits .and .u64 x 255 ≤ 255 := by
  obtain ⟨a, ha⟩ : ∃ a : BitVec 64, a = BitVec.ofInt 64 x := ⟨_, rfl⟩
  have e : Go.bits .and .u64 x 255 = IntKind.u64.wrap ((BitVec.ofInt 64 x &&& BitVec.ofInt 64 255).toNat : Int) := rfl
  have hle : (BitVec.ofInt 64 x &&& BitVec.ofInt 64 255).toNat ≤ 255 := by
    rw [BitVec.toNat_and]
    exact Nat.le_trans Nat.and_le_right (by decide)
  rw [e, IntKind.wrap_u64]
  omega
theorem next_ok {l : List Int} (hb : Bytes l) (p s : Int) (h0 : 0 ≤ p) (h1 : p ≤ 1000000000000000000) : ∃ v s', spec_l1Cur_next.f l p s = some (v, p + 1, s') ∧ 0 ≤ v ∧ v ≤ 255 := by
  have hw : wrap64 (p + 1) = p + 1 := wrap_id (by omega) (by omega)
  have hr : 0 ≤ rd l p ∧ rd l p ≤ 255 := hb.get _
  unfold spec_l1Cur_next.f
  rw [hw]
  by_cases c1 : p < (l.length : Int)
  · rw [if_pos c1, if_pos h0]
    by_cases c2 : p + 1 ≤ (l.length : Int)
    · rw [if_pos c2]
      exact ⟨_, _, rfl, by rw [wrap_id (by omega) (by omega)]; exact hr⟩
    · omega
  · rw [if_neg c1]
    rw [if_neg (by omega)]
    refine ⟨_, _, rfl, ?_⟩
    have := and255 ((IntKind.u64.wrap ((IntKind.u64.wrap (IntKind.u64.wrap (s * 6364136223846793005))) + 1442695040888963407)) / 1099511627776)
    rw [wrap_id (by omega) (by omega)]
    exact this
theorem tmod_ok {v a : Int} (hv : 0 ≤ v) (ha : 0 < a) : 0 ≤ Int.tmod v a ∧ Int.tmod v a < a := by
  rw [Int.tmod_eq_emod_of_nonneg hv]
  exact ⟨Int.emod_nonneg _ (by omega), Int.emod_lt_of_pos _ ha⟩
theorem pick_ok {l : List Int} (hb : Bytes l) (p s a : Int) (h0 : 0 ≤ p) (h1 : p ≤ 100000000000000000) : ∃ r p' s', spec_l1Cur_pick.f l p s a = some (r, p', s') ∧ 0 ≤ r ∧ (r < a ∨ r = 0) ∧ p ≤ p' ∧ p' ≤ p + 2 := by
  unfold spec_l1Cur_pick.f
  by_cases c1 : a ≤ 1
  · rw [if_pos c1]
    exact ⟨0, p, s, rfl, by omega, Or.inr rfl, by omega, by omega⟩
  · rw [if_neg c1]
    obtain ⟨v, s1, e1, b1, b2⟩ := next_ok hb p s h0 (by omega)
    rw [e1, Option.bind_some]
    by_cases c2 : a > 200
    · rw [if_pos c2]
      obtain ⟨v2, s2, e2, b3, b4⟩ := next_ok hb (p + 1) s1 (by omega) (by omega)
      simp only [e2, Option.bind_some]
      rw [if_neg (by omega)]
      have hw : wrap64 (wrap64 (v * 256) + v2) = v * 256 + v2 := by rw [wrap_id (x := v * 256) (by omega) (by omega), wrap_id (by omega) (by omega)]
      have := tmod_ok (v := v * 256 + v2) (a := a) (by omega) (by omega)
      rw [hw]
      exact ⟨_, _, _, rfl, this.1, Or.inl this.2, by omega, by omega⟩
    · rw [if_neg c2, if_neg (by omega)]
      have := tmod_ok (v := v) (a := a) (by omega) (by omega)
      exact ⟨_, _, _, rfl, this.1, Or.inl this.2, by show p ≤ p + 1; omega, by show p + 1 ≤ p + 2; omega⟩
theorem among_ok {l : List Int} (hb : Bytes l) (p s : Int) (q : List Int) (hq : 0 < q.length) (h0 : 0 ≤ p) (h1 : p ≤ 100000000000000000) : ∃ v p' s', spec_l1Cur_among.f l p s q = some (v, p', s') ∧ p ≤ p' ∧ p' ≤ p + 2 := by
  obtain ⟨r, p', s', e, b1, b2, b3, b4⟩ := pick_ok hb p s (q.length : Int) h0 h1
  unfold spec_l1Cur_among.f
  rw [e, Option.bind_some]
  simp only [b1, if_true]
  rw [if_pos (by omega)]
  exact ⟨_, _, _, rfl, b3, b4⟩
theorem big_eq (a b : List Int) : ∃ r, laws_big.f a b = some r := by
  unfold laws_big.f
  split
  · exact ⟨_, rfl⟩
  · exact ⟨_, rfl⟩
end Go.Proofs.Ytfclfjengfmjaaa.G
namespace ParkT
/-- The first free place among a, a - 1, .., k places back at most. -/
def backF (S : Nat → Bool) : Nat → Nat → Option Nat
  | k, a => if S a = false then some a else match k, a with
    | k + 1, a + 1 => backF S k a
    | _, _ => none
/-- The first free place from a on, of d places. -/
def fwdF (S : Nat → Bool) : Nat → Nat → Option Nat
  | 0, _ => none
  | d + 1, a => if S a = false then some a else fwdF S d (a + 1)
def bplace (N : Nat) (S : Nat → Bool) (k a : Nat) : Option Nat := match backF S k a with
  | some p => some p
  | none => fwdF S (N - a) a
theorem backF_some {S : Nat → Bool} : ∀ {k a p : Nat}, backF S k a = some p → p ≤ a ∧ a ≤ p + k ∧ S p = false ∧ ∀ q, p < q → q ≤ a → S q = true
  | 0, a, p, h => by
    unfold backF at h
    split at h
    · obtain rfl := Option.some.inj h
      exact ⟨Nat.le_refl _, by omega, ‹_›, fun q h1 h2 => by omega⟩
    · simp at h
  | k + 1, 0, p, h => by
    unfold backF at h
    split at h
    · obtain rfl := Option.some.inj h
      exact ⟨Nat.le_refl _, by omega, ‹_›, fun q h1 h2 => by omega⟩
    · simp at h
  | k + 1, a + 1, p, h => by
    unfold backF at h
    split at h
    · obtain rfl := Option.some.inj h
      exact ⟨Nat.le_refl _, by omega, ‹_›, fun q h1 h2 => by omega⟩
    · rename_i hs
      obtain ⟨h1, h2, h3, h4⟩ := backF_some h
      refine ⟨by omega, by omega, h3, fun q hq1 hq2 => ?_⟩
      rcases Nat.lt_or_ge q (a + 1) with h5 | h5
      · exact h4 q hq1 (by omega)
      · have : q = a + 1 := by omega
        rw [this]; simpa using hs
theorem backF_none {S : Nat → Bool} : ∀ {k a : Nat}, backF S k a = none → ∀ q, q ≤ a → a ≤ q + k → S q = true
  | 0, a, h, q, h1, h2 => by
    unfold backF at h
    split at h
    · cases h
    · have : q = a := by omega
      rw [this]; simp_all
  | k + 1, 0, h, q, h1, h2 => by
    unfold backF at h
    split at h
    · cases h
    · have : q = 0 := by omega
      rw [this]; simp_all
  | k + 1, a + 1, h, q, h1, h2 => by
    unfold backF at h
    split at h
    · cases h
    · rename_i hs
      rcases Nat.lt_or_ge q (a + 1) with h5 | h5
      · exact backF_none h q (by omega) (by omega)
      · have : q = a + 1 := by omega
        rw [this]; simpa using hs
theorem fwdF_some {S : Nat → Bool} : ∀ {d a p : Nat}, fwdF S d a = some p → a ≤ p ∧ p < a + d ∧ S p = false ∧ ∀ q, a ≤ q → q < p → S q = true
  | 0, a, p, h => by simp [fwdF] at h
  | d + 1, a, p, h => by
    unfold fwdF at h
    split at h
    · obtain rfl := Option.some.inj h
      exact ⟨Nat.le_refl _, by omega, ‹_›, fun q h1 h2 => by omega⟩
    · rename_i hs
      obtain ⟨h1, h2, h3, h4⟩ := fwdF_some h
      refine ⟨by omega, by omega, h3, fun q hq1 hq2 => ?_⟩
      rcases Nat.lt_or_ge a q with h5 | h5
      · exact h4 q (by omega) hq2
      · have : q = a := by omega
        rw [this]; simpa using hs
theorem fwdF_none {S : Nat → Bool} : ∀ {d a : Nat}, fwdF S d a = none → ∀ q, a ≤ q → q < a + d → S q = true
  | 0, a, _, q, h1, h2 => by omega
  | d + 1, a, h, q, h1, h2 => by
    unfold fwdF at h
    split at h
    · cases h
    · rename_i hs
      rcases Nat.lt_or_ge a q with h5 | h5
      · exact fwdF_none h q (by omega) (by omega)
      · have : q = a := by omega
        rw [this]; simpa using hs
/-- How many of the places a, .., a + d - 1 are taken. -/
def cnt (S : Nat → Bool) : Nat → Nat → Nat
  | 0, _ => 0
  | d + 1, a => (if S a = true then 1 else 0) + cnt S d (a + 1)
theorem cnt_le (S : Nat → Bool) : ∀ (d a : Nat), cnt S d a ≤ d
  | 0, _ => Nat.le_refl _
  | d + 1, a => by have := cnt_le S d (a + 1); unfold cnt; split <;> omega
theorem cnt_full {S : Nat → Bool} : ∀ (d a : Nat), (∀ q, a ≤ q → q < a + d → S q = true) → cnt S d a = d
  | 0, _, _ => rfl
  | d + 1, a, h => by
    have := cnt_full d (a + 1) (fun q h1 h2 => h q (by omega) (by omega))
    unfold cnt
    rw [if_pos (h a (Nat.le_refl _) (by omega))]; omega
theorem full_of_cnt {S : Nat → Bool} : ∀ (d a : Nat), cnt S d a = d → ∀ q, a ≤ q → q < a + d → S q = true
  | 0, _, _, q, h1, h2 => by omega
  | d + 1, a, h, q, h1, h2 => by
    unfold cnt at h
    have hle := cnt_le S d (a + 1)
    by_cases hs : S a = true
    · rw [if_pos hs] at h
      rcases Nat.lt_or_ge a q with h5 | h5
      · exact full_of_cnt d (a + 1) (by omega) q (by omega) (by omega)
      · have : q = a := by omega
        rw [this]; exact hs
    · rw [if_neg hs] at h; omega
theorem cnt_add (S : Nat → Bool) : ∀ (d e a : Nat), cnt S (d + e) a = cnt S d a + cnt S e (a + d)
  | 0, e, a => by simp [cnt]
  | d + 1, e, a => by
    have := cnt_add S d e (a + 1)
    rw [show d + 1 + e = (d + e) + 1 by omega, cnt, cnt, this, show a + 1 + d = a + (d + 1) by omega]; omega
theorem cnt_lt {S : Nat → Bool} (d a q : Nat) (h1 : a ≤ q) (h2 : q < a + d) (hs : S q = false) : cnt S d a < d := by
  rcases Nat.lt_or_ge (cnt S d a) d with h | h
  · exact h
  · have hle := cnt_le S d a
    have := full_of_cnt (S := S) d a (by omega) q h1 h2
    rw [hs] at this; cases this
def put (S : Nat → Bool) (p : Nat) : Nat → Bool := fun q => decide (q = p) || S q
theorem cnt_put {S : Nat → Bool} {p : Nat} (hp : S p = false) : ∀ (d a : Nat), cnt (put S p) d a = cnt S d a + if a ≤ p ∧ p < a + d then 1 else 0
  | 0, a => by
    rw [if_neg (by omega)]; rfl
  | d + 1, a => by
    have ih := cnt_put hp d (a + 1)
    unfold cnt
    rw [ih]
    by_cases e : a = p
    · subst e
      have : ¬ (a + 1 ≤ a ∧ a < a + 1 + d) := by omega
      rw [if_neg this, if_pos (show a ≤ a ∧ a < a + (d + 1) by omega)]
      simp [put, hp]; omega
    · have hq : put S p a = S a := by simp [put, e]
      rw [hq]
      by_cases hr : a + 1 ≤ p ∧ p < a + 1 + d
      · rw [if_pos hr, if_pos (show a ≤ p ∧ p < a + (d + 1) by omega)]; omega
      · rw [if_neg hr, if_neg (show ¬ (a ≤ p ∧ p < a + (d + 1)) by omega)]; omega
/-- No more places are taken from any place on. -/
def Dom (N : Nat) (S' S : Nat → Bool) : Prop := ∀ j, j ≤ N → cnt S' (N - j) j ≤ cnt S (N - j) j
theorem Dom.refl (N : Nat) (S : Nat → Bool) : Dom N S S := fun _ _ => Nat.le_refl _
theorem bplace_some {N : Nat} {S : Nat → Bool} {k a p : Nat} (ha : a < N) (h : bplace N S k a = some p) : p < N ∧ S p = false ∧ a ≤ p + k ∧ ((p ≤ a ∧ ∀ q, p < q → q ≤ a → S q = true) ∨ (a < p ∧ (∀ q, q ≤ a → a ≤ q + k → S q = true) ∧ ∀ q, a ≤ q → q < p → S q = true)) := by
  unfold bplace at h
  split at h
  · rename_i p' hb
    obtain rfl := Option.some.inj h
    obtain ⟨h1, h2, h3, h4⟩ := backF_some hb
    exact ⟨by omega, h3, by omega, .inl ⟨h1, h4⟩⟩
  · rename_i hb
    have hn := backF_none hb
    obtain ⟨h1, h2, h3, h4⟩ := fwdF_some h
    refine ⟨by omega, h3, by omega, .inr ⟨?_, hn, h4⟩⟩
    rcases Nat.lt_or_ge a p with h5 | h5
    · exact h5
    · have : p = a := by omega
      rw [this, hn a (Nat.le_refl _) (by omega)] at h3; cases h3
theorem bplace_none {N : Nat} {S : Nat → Bool} {k a : Nat} (ha : a < N) (h : bplace N S k a = none) : ∀ q, a ≤ q + k → q < N → S q = true := by
  unfold bplace at h
  split at h
  · cases h
  · rename_i hb
    intro q h1 h2
    rcases Nat.lt_or_ge a q with h5 | h5
    · exact fwdF_none h q (by omega) (by omega)
    · exact backF_none hb q h5 h1
/-- ONE CAR: who looks farther back parks, and leaves no less room on the right. -/
theorem back_step {N : Nat} {S' S : Nat → Bool} {k a p : Nat} (hD : Dom N S' S) (ha : a < N) (h : bplace N S k a = some p) : ∃ p', bplace N S' (k + 1) a = some p' ∧ Dom N (put S' p') (put S p) := by
  obtain ⟨p1, p2, p3, p4⟩ := bplace_some ha h
  have split2 : ∀ (T : Nat → Bool) (i j : Nat), i ≤ j → j ≤ N → cnt T (N - i) i = cnt T (j - i) i + cnt T (N - j) j := by
    intro T i j h1 h2
    have := cnt_add T (j - i) (N - j) i
    rwa [show j - i + (N - j) = N - i by omega, show i + (j - i) = j by omega] at this
  cases h' : bplace N S' (k + 1) a with
  | none =>
    exfalso
    have hf := bplace_none ha h'
    -- all from a - k - 1 on are taken, so they are in S
    have e1 : cnt S' (N - (a - (k + 1))) (a - (k + 1)) = N - (a - (k + 1)) := cnt_full _ _ (fun q h1 h2 => hf q (by omega) (by omega))
    have e2 := hD (a - (k + 1)) (by omega)
    have e3 := cnt_lt (S := S) (N - (a - (k + 1))) (a - (k + 1)) p (by omega) (by omega) p2
    omega
  | some p' =>
    refine ⟨p', rfl, ?_⟩
    obtain ⟨q1, q2, q3, q4⟩ := bplace_some ha h'
    intro j hj
    rw [cnt_put q2, cnt_put p2]
    have hDj := hD j hj
    by_cases hc : j ≤ p' ∧ p' < j + (N - j)
    · rw [if_pos hc]
      by_cases hc2 : j ≤ p ∧ p < j + (N - j)
      · rw [if_pos hc2]; omega
      · rw [if_neg hc2]
        -- p < j ≤ p'
        have hpj : p < j := by omega
        have strict : cnt S' (N - j) j < cnt S (N - j) j := by
          rcases q4 with ⟨r1, r2⟩ | ⟨r1, r2, r3⟩
          · -- p' ≤ a: so p < a: in S all of (p, a] is taken
            rcases p4 with ⟨t1, t2⟩ | ⟨t1, t2, t3⟩
            · have s1 := split2 S j (a + 1) (by omega) (by omega)
              have s2 := split2 S' j (a + 1) (by omega) (by omega)
              have s3 := cnt_full (S := S) (a + 1 - j) j (fun q h1 h2 => t2 q (by omega) (by omega))
              have s4 := cnt_lt (S := S') (a + 1 - j) j p' (by omega) (by omega) q2
              have s5 := hD (a + 1) (by omega)
              omega
            · omega
          · -- p' > a: in S' all from a - k - 1 to p' is taken; p is free in S
            have lo : a - (k + 1) ≤ p := by omega
            have s1 := split2 S (a - (k + 1)) j (by omega) hj
            have s2 := split2 S' (a - (k + 1)) j (by omega) hj
            have s3 := cnt_full (S := S') (j - (a - (k + 1))) (a - (k + 1)) (fun q h1 h2 => by
              rcases Nat.lt_or_ge a q with h5 | h5
              · exact r3 q (by omega) (by omega)
              · exact r2 q h5 (by omega))
            have s4 := cnt_lt (S := S) (j - (a - (k + 1))) (a - (k + 1)) p lo (by omega) p2
            have s5 := hD (a - (k + 1)) (by omega)
            omega
        omega
    · rw [if_neg hc]; omega
/-- All cars, one behind the other; none where one fails. -/
def driveB (N k : Nat) : (Nat → Bool) → List Nat → Option (List Nat)
  | _, [] => some []
  | S, a :: l => match bplace N S k a with
    | none => none
    | some p => (driveB N k (put S p) l).map (p :: ·)
theorem back_mono {N k : Nat} : ∀ (l : List Nat) (S' S : Nat → Bool), Dom N S' S → (∀ a ∈ l, a < N) → (driveB N k S l).isSome = true → (driveB N (k + 1) S' l).isSome = true
  | [], _, _, _, _, _ => rfl
  | a :: l, S', S, hD, hl, h => by
    unfold driveB at h
    cases hb : bplace N S k a with
    | none => rw [hb] at h; simp at h
    | some p =>
      rw [hb] at h
      simp at h
      obtain ⟨p', hb', hD'⟩ := back_step hD (hl a (by simp)) hb
      unfold driveB
      rw [hb']
      simp
      exact back_mono l _ _ hD' (fun x hx => hl x (by simp [hx])) h
def fails (l : List (Option Nat)) : Nat := (l.filter fun x => x.isNone).length
end ParkT
namespace Go.Proofs.Ytfclfjengfmjaaa.G
open Go.RowKit Go.Proofs.YtfclfjengfmjaaaW.PrintWords Go.Proofs.YtfclfjengfmjaaaW.PrintLast Go.Proofs.YtfclfjengfmjaaaW.PrintMore
set_option linter.unusedVariables false
set_option linter.unusedSimpArgs false
/-- Every car finds a place. -/
def allP (N : Nat) : (Nat → Bool) → List Nat → Bool
  | _, [] => true
  | S, a :: l => match ParkT.fwdF S (N - a) a with
    | none => false
    | some p => allP N (ParkT.put S p) l
def valP : Option Nat → Int
  | none => -1
  | some p => p
def occ (x : List Int) (q : Nat) : Bool := decide ((q : Int) ∈ x)
theorem occ_none (x : List Int) : occ (x ++ [-1]) = occ x := by
  funext q
  unfold occ
  have : ¬ ((q : Int) = -1) := by omega
  simp [this]
theorem occ_some (x : List Int) (p : Nat) : occ (x ++ [(p : Int)]) = ParkT.put (occ x) p := by
  funext q
  unfold occ ParkT.put
  have : ((q : Int) = (p : Int)) ↔ q = p := by omega
  simp [this, Bool.or_comm]
theorem l1Has_l0 (x : List Int) (a : Int) (hn : x.length ≤ 4611686018427387904) : ∀ (d i : Nat), i + d = x.length → Ev (fun k => spec_l1Has.l0 k a x (x.length : Int) i) (decide (a ∈ x.drop i)) := by
  intro d
  induction d with
  | zero =>
    intro i hd
    refine Ev.end_ fun k => ?_
    rw [spec_l1Has.l0, if_neg (by omega), List.drop_eq_nil_of_le (by omega)]
    simp
  | succ d ih =>
    intro i hd
    have e1 := drop_getD (l := x) (i := i) (by omega)
    by_cases h : x.getD i 0 = a
    · refine Ev.end_ fun k => ?_
      rw [spec_l1Has.l0, if_pos (by omega), if_pos (by omega), if_pos (by omega), rd_nat, if_pos h, e1, h, decide_eq_true (List.mem_cons_self)]
    · refine Ev.one (f := fun k => spec_l1Has.l0 k a x (x.length : Int) ((i + 1 : Nat) : Int)) ?_ fun k => ?_
      · have := ih (i + 1) (by omega)
        have e : decide (a ∈ x.drop i) = decide (a ∈ x.drop (i + 1)) := by
          rw [e1]
          have : ¬ a = x.getD i 0 := fun e => h e.symm
          simp only [List.mem_cons, this, false_or]
        rw [e]; exact this
      · rw [spec_l1Has.l0, if_pos (by omega), if_pos (by omega), if_pos (by omega), rd_nat, if_neg h, wrap_next (n := x.length) (by omega) hn]
theorem l1Has_ev (x : List Int) (a : Int) (hn : x.length ≤ 4611686018427387904) : Ev (fun k => spec_l1Has.f k x a) (decide (a ∈ x)) := by
  unfold spec_l1Has.f
  have := l1Has_l0 x a hn x.length 0 (by omega)
  simpa using this
def natL (l : List Int) : List Nat := l.map Int.toNat
def taken (x : List Bool) (q : Nat) : Bool := x.getD q false
theorem drive_l1 (N : Nat) (hN : N ≤ 1000) (x : List Bool) (hx : x.length = N) (o l : List Int) (ho : o.length ≤ 1000) (len i : Int) (r : List Int × Bool) :
    ∀ (d a : Nat), a + d = N → (match ParkT.fwdF (taken x) d a with | none => r = ([], false) | some p => Ev (fun k => impl_drive.l0 k (N : Int) (x.set p true) (o ++ [(p : Int)]) l len (wrap64 (i + 1))) r) → Ev (fun k => impl_drive.l1 k (N : Int) x o (a : Int) l len i) r := by
  intro d
  induction d with
  | zero =>
    intro a ha h
    rw [ParkT.fwdF] at h
    subst h
    exact Ev.end_ fun k => by rw [impl_drive.l1, if_neg (by omega), if_pos (by omega)]
  | succ d ih =>
    intro a ha h
    rw [ParkT.fwdF] at h
    have hrd : rdOf false x (a : Int) = taken x a := by simp [rdOf, taken]
    by_cases hh : taken x a = true
    · rw [if_neg (by rw [hh]; simp)] at h
      refine Ev.one (ih (a + 1) (by omega) h) fun k => ?_
      rw [impl_drive.l1, if_pos (by omega), if_pos (by omega), if_pos (by omega), if_pos (by rw [hrd]; exact hh), wrap_next (n := N) (by omega) (by omega)]
    · rw [if_pos (by simpa using hh)] at h
      simp only at h
      refine Ev.one h fun k => ?_
      rw [impl_drive.l1, if_pos (by omega), if_pos (by omega), if_pos (by omega), if_neg (by rw [hrd]; exact hh), if_neg (by omega), if_pos (by omega), Int.toNat_natCast]
theorem drive_past (N : Nat) (x : List Bool) (o l : List Int) (len i a : Int) (ha : (N : Int) ≤ a) : Ev (fun k => impl_drive.l1 k (N : Int) x o a l len i) (([] : List Int), false) :=
  Ev.end_ fun k => by rw [impl_drive.l1, if_neg (by omega), if_pos (by omega)]
theorem taken_set {x : List Bool} {p : Nat} (hp : p < x.length) : taken (x.set p true) = ParkT.put (taken x) p := by
  funext q
  show (x.set p true).getD q false = (decide (q = p) || x.getD q false)
  rw [List.getD_eq_getElem?_getD, List.getD_eq_getElem?_getD, List.getElem?_set]
  by_cases e : p = q
  · subst e; simp [hp]
  · have : ¬ q = p := fun h => e h.symm
    simp [e, this]
/-- The places, where every car finds one. -/
def outP' (N : Nat) : (Nat → Bool) → List Nat → List Int
  | _, [] => []
  | S, a :: l => match ParkT.fwdF S (N - a) a with
    | none => []
    | some p => (p : Int) :: outP' N (ParkT.put S p) l
theorem drive_l0 (l : List Int) (N : Nat) (hN : N ≤ 1000) (hl : l.length ≤ 900) (hr : ∀ j, j < l.length → 0 ≤ l.getD j 0) : ∀ (d i : Nat) (x : List Bool) (o : List Int), i + d = l.length → x.length = N → o.length ≤ i → Ev (fun k => impl_drive.l0 k (N : Int) x o l (l.length : Int) i) (if allP N (taken x) (natL (l.drop i)) = true then (o ++ outP' N (taken x) (natL (l.drop i)), true) else ([], false)) := by
  intro d
  induction d with
  | zero =>
    intro i x o hd hx ho
    refine Ev.end_ fun k => ?_
    rw [impl_drive.l0, if_neg (by omega), List.drop_eq_nil_of_le (by omega)]
    simp [natL, allP, outP']
  | succ d ih =>
    intro i x o hd hx ho
    have hi : i < l.length := by omega
    have hri := hr i hi
    obtain ⟨a, ha⟩ : ∃ a : Nat, l.getD i 0 = a := ⟨(l.getD i 0).toNat, by omega⟩
    refine Ev.one (f := fun k => impl_drive.l1 k (N : Int) x o (a : Int) l (l.length : Int) (i : Int)) ?_ fun k => by rw [impl_drive.l0, if_pos (by omega), if_pos (by omega), if_pos (by omega), rd_nat, ha]
    have e0 : natL (l.drop i) = a :: natL (l.drop (i + 1)) := by
      rw [drop_getD hi, ha]
      show (a : Int).toNat :: natL (l.drop (i + 1)) = _
      rw [Int.toNat_natCast]
    rw [e0, allP, outP']
    by_cases hlt : a < N
    · refine drive_l1 N hN x hx o l (by omega) _ _ _ (N - a) a (by omega) ?_
      cases hf : ParkT.fwdF (taken x) (N - a) a with
      | none => simp
      | some p =>
        have hp := ParkT.fwdF_some hf
        simp only
        rw [wrap_next (n := l.length) hi (by omega)]
        have := ih (i + 1) (x.set p true) (o ++ [(p : Int)]) (by omega) (by simpa using hx) (by simp; omega)
        rw [taken_set (by omega)] at this
        simpa using this
    · have e1 : N - a = 0 := by omega
      rw [e1, ParkT.fwdF]
      simp only [Bool.false_eq_true, if_false]
      exact drive_past N x o l _ _ _ (by omega)
theorem own_eq (q : List Int) (h : q.length < 17592186044416) : spec_l1Own.f q = some q := by
  unfold spec_l1Own.f
  simp only [Option.bind_some, List.length_nil, Nat.zero_add, h, if_true, List.nil_append]
theorem between_eq (a b c : Int) : impl_between.f a b c = some (decide (b ≤ a ∧ a ≤ c)) := by
  unfold impl_between.f
  by_cases h : a ≥ b
  · rw [if_pos h]; congr 1; simp; omega
  · rw [if_neg h]; congr 1; simp; omega
def inB (l : List Int) (lo hi : Int) : Bool := l.all fun x => decide (lo ≤ x ∧ x ≤ hi)
theorem areBetween_eq (l : List Int) (lo hi : Int) : impl_areBetween.f l lo hi = some (inB l lo hi) := by
  unfold impl_areBetween.f inB
  congr 2
  funext x
  rw [Bool.eq_iff_iff]; simp
theorem inB_get {l : List Int} {lo hi : Int} (h : inB l lo hi = true) {j : Nat} (hj : j < l.length) : lo ≤ l.getD j 0 ∧ l.getD j 0 ≤ hi := by
  unfold inB at h
  rw [List.all_eq_true] at h
  have := h l[j] (List.getElem_mem hj)
  rw [List.getD_eq_getElem?_getD, List.getElem?_eq_getElem hj]
  simpa using this
theorem drive_ev (l : List Int) (N : Nat) (hN : N ≤ 1000) (hl : l.length ≤ 900) (hr : ∀ j, j < l.length → 0 ≤ l.getD j 0) : Ev (fun k => impl_drive.f k l (N : Int)) (if allP N (fun _ => false) (natL l) = true then (outP' N (fun _ => false) (natL l), true) else ([], false)) := by
  unfold impl_drive.f
  simp only [show (0 : Int) ≤ (N : Int) by omega, Int.toNat_natCast, show N ≤ 281474976710656 by omega, if_true]
  have := drive_l0 l N hN hl hr l.length 0 (List.replicate N false) [] (by omega) (by simp) (by simp)
  have et : taken (List.replicate N false) = fun _ => false := by
    funext q
    unfold taken
    rw [List.getD_eq_getElem?_getD, List.getElem?_replicate]
    split <;> rfl
  rw [et] at this
  simpa using this
theorem jSame_ev (a : List Int) (hn : a.length ≤ 4611686018427387904) : Ev (fun k => laws_jSame.f k a a) true := by
  unfold laws_jSame.f
  simp only [if_true]
  refine Ev.up0 a.length (fun _ => ()) (fun k _ q => laws_jSame.l0 k a a (a.length : Int) q) true (fun q hq h => Ev.one h fun k => ?_) (Ev.end_ fun k => ?_)
  · rw [laws_jSame.l0, if_pos (by omega), if_pos (by omega), if_pos (by omega), if_pos (by omega), if_pos rfl, wrap_next (n := a.length) hq hn]
  · rw [laws_jSame.l0, if_neg (by omega)]
theorem least_eq (a b : Int) : spec_l1Least.f a b = some (if a < b then a else b) := by
  unfold spec_l1Least.f
  split <;> rfl
theorem taken_none (S : Nat) : taken (List.replicate S false) = fun _ => false := by
  funext q
  unfold taken
  rw [List.getD_eq_getElem?_getD, List.getElem?_replicate]
  split <;> rfl
/-- The place of each car that looks back, none for those that fail. -/
def drB (N b : Nat) : (Nat → Bool) → List Nat → List (Option Nat)
  | _, [] => []
  | S, a :: l => match ParkT.bplace N S b a with
    | none => none :: drB N b S l
    | some p => some p :: drB N b (ParkT.put S p) l
theorem drB_len (N b : Nat) : ∀ (l : List Nat) (S : Nat → Bool), (drB N b S l).length = l.length
  | [], _ => rfl
  | a :: l, S => by
    rw [drB]
    cases ParkT.bplace N S b a <;> simp [drB_len N b l]
theorem drB_none {N b : Nat} : ∀ (l : List Nat) (S : Nat → Bool), decide ((-1 : Int) ∈ (drB N b S l).map valP) = (ParkT.driveB N b S l).isNone
  | [], _ => by simp [drB, ParkT.driveB]
  | a :: l, S => by
    rw [drB, ParkT.driveB]
    cases e : ParkT.bplace N S b a with
    | none => simp [valP]
    | some p =>
      have ih := drB_none (N := N) (b := b) l (ParkT.put S p)
      have h1 : ¬ ((-1 : Int) = (p : Int)) := by omega
      simp only [List.map_cons, List.mem_cons, valP, h1, false_or, ih, Option.isNone_map]
theorem drB_some {N b : Nat} : ∀ (l : List Nat) (S : Nat → Bool) (L : List Nat), ParkT.driveB N b S l = some L → (drB N b S l).map valP = L.map fun (p : Nat) => (p : Int)
  | [], _, L, h => by
    obtain rfl := Option.some.inj h
    rfl
  | a :: l, S, L, h => by
    rw [ParkT.driveB] at h
    rw [drB]
    cases e : ParkT.bplace N S b a with
    | none => rw [e] at h; cases h
    | some p =>
      rw [e] at h
      obtain ⟨L', hL, rfl⟩ := Option.map_eq_some_iff.1 h
      simp only [List.map_cons, drB_some l _ L' hL]
      rfl
theorem backF_zero (S : Nat → Bool) (a : Nat) : ParkT.backF S 0 a = if S a = false then some a else none := by
  rw [ParkT.backF.eq_def]
end Go.Proofs.Ytfclfjengfmjaaa.G
namespace Go.Proofs.Ytfclfjengfmjaaa.G
open Go.RowKit Go.Proofs.YtfclfjengfmjaaaW.PrintWords Go.Proofs.YtfclfjengfmjaaaW.PrintLast Go.Proofs.YtfclfjengfmjaaaW.PrintMore
set_option linter.unusedVariables false
set_option linter.unusedSimpArgs false
section
variable (N b : Nat) (l : List Int)
theorem sp_found (x : List Int) (hx : x.length ≤ 1000) (a : Int) (p : Nat) (q : Int) (i : Nat) (r : List Int) (h : Ev (fun k => spec_loBack.l0 k (N : Int) (b : Int) (x ++ [(p : Int)]) l (l.length : Int) (wrap64 ((i : Int) + 1))) r) :
    Ev (fun k => spec_loBack.l2 k (N : Int) (b : Int) x (p : Int) q l (l.length : Int) (i : Int)) r := by
  have h1 : Ev (fun k => spec_loBack.j4 k (N : Int) (b : Int) x (p : Int) q l (l.length : Int) (i : Int) false) r := Ev.one h fun k => by rw [spec_loBack.j4, if_neg (by decide), if_pos (by omega)]
  refine Ev.one h1 fun k => ?_
  rw [spec_loBack.l2, decide_eq_false (show ¬ (p : Int) < 0 by omega)]
  split <;> rfl
theorem sp_found1 (x : List Int) (hx : x.length ≤ 1000) (a : Int) (p : Nat) (q : Int) (i : Nat) (r : List Int) (h : Ev (fun k => spec_loBack.l0 k (N : Int) (b : Int) (x ++ [(p : Int)]) l (l.length : Int) (wrap64 ((i : Int) + 1))) r) :
    Ev (fun k => spec_loBack.l1 k (N : Int) (b : Int) x a (p : Int) q l (l.length : Int) (i : Int)) r := by
  have h1 : Ev (fun k => spec_loBack.j2 k (N : Int) (b : Int) x a (p : Int) q l (l.length : Int) (i : Int) false) r := Ev.one (sp_found N b l x hx a p a i r h) fun k => by rw [spec_loBack.j2, if_neg (by decide)]
  refine Ev.one h1 fun k => ?_
  rw [spec_loBack.l1, decide_eq_false (show ¬ (p : Int) < 0 by omega)]
  split
  · split <;> rfl
  · rfl
theorem sp_fwd (hN : N ≤ 1000) (x : List Int) (hx : x.length ≤ 1000) (i : Nat) (r : List Int) : ∀ (d a : Nat), a + d = N → Ev (fun k => spec_loBack.l0 k (N : Int) (b : Int) (x ++ [valP (ParkT.fwdF (occ x) d a)]) l (l.length : Int) (wrap64 ((i : Int) + 1))) r →
    Ev (fun k => spec_loBack.l2 k (N : Int) (b : Int) x (-1) (a : Int) l (l.length : Int) (i : Int)) r := by
  intro d
  induction d with
  | zero =>
    intro a ha h
    have h1 : Ev (fun k => spec_loBack.j4 k (N : Int) (b : Int) x (-1) (a : Int) l (l.length : Int) (i : Int) false) r := Ev.one h fun k => by rw [spec_loBack.j4, if_neg (by decide), if_pos (by omega)]; rfl
    exact Ev.one h1 fun k => by rw [spec_loBack.l2, if_neg (by omega)]
  | succ d ih =>
    intro a ha h
    rw [ParkT.fwdF] at h
    refine Ev.step (f := fun k => spec_loBack.j4 k (N : Int) (b : Int) x (-1) (a : Int) l (l.length : Int) (i : Int) true) (fun k => by rw [spec_loBack.l2, if_pos (by omega)]; rfl) ?_
    refine Ev.step (f := fun k => (spec_l1Has.f k x (a : Int)).bind fun t432 => (if t432 = true then (spec_loBack.l2 k (N : Int) (b : Int) x (-1) (wrap64 ((a : Int) + 1)) l (l.length : Int) (i : Int)) else (spec_loBack.l2 k (N : Int) (b : Int) x (a : Int) (wrap64 ((a : Int) + 1)) l (l.length : Int) (i : Int)))) (fun k => by rw [spec_loBack.j4, if_pos rfl]) ?_
    refine Ev.bind (l1Has_ev x _ (by omega)) ?_
    by_cases hh : occ x a = true
    · rw [if_neg (by rw [hh]; simp)] at h
      have e : decide ((a : Int) ∈ x) = true := hh
      simp only [e, if_true]
      rw [wrap_next (n := N) (by omega) (by omega)]
      exact ih (a + 1) (by omega) h
    · rw [if_pos (by simpa using hh)] at h
      have e : decide ((a : Int) ∈ x) = false := by simpa [occ] using hh
      simp only [e, Bool.false_eq_true, if_false]
      exact sp_found N b l x hx (a : Int) a _ i r h
theorem sp_stop (x : List Int) (a : Int) (q : Int) (i : Nat) (r : List Int) (hq : (b : Int) < q ∨ a - q < 0) (ha : 0 ≤ a ∧ a ≤ 100000) (hq2 : 0 ≤ q ∧ q ≤ 100000) (h : Ev (fun k => spec_loBack.l2 k (N : Int) (b : Int) x (-1) a l (l.length : Int) (i : Int)) r) :
    Ev (fun k => spec_loBack.l1 k (N : Int) (b : Int) x a (-1) q l (l.length : Int) (i : Int)) r := by
  have h1 : Ev (fun k => spec_loBack.j2 k (N : Int) (b : Int) x a (-1) q l (l.length : Int) (i : Int) false) r := Ev.one h fun k => by rw [spec_loBack.j2, if_neg (by decide)]
  refine Ev.one h1 fun k => ?_
  rw [spec_loBack.l1, wrap_id (x := a - q) (by omega) (by omega)]
  by_cases c : q ≤ (b : Int)
  · rw [if_pos c, if_neg (by omega)]
  · rw [if_neg c]
theorem sp_back (hb : b ≤ 1000) (x : List Int) (hx : x.length ≤ 1000) (a : Nat) (ha : a ≤ 1000) (i : Nat) (r : List Int) : ∀ (d q : Nat), q + d = b → q ≤ a →
    (match ParkT.backF (occ x) d (a - q) with | some p => Ev (fun k => spec_loBack.l0 k (N : Int) (b : Int) (x ++ [(p : Int)]) l (l.length : Int) (wrap64 ((i : Int) + 1))) r | none => Ev (fun k => spec_loBack.l2 k (N : Int) (b : Int) x (-1) (a : Int) l (l.length : Int) (i : Int)) r) →
    Ev (fun k => spec_loBack.l1 k (N : Int) (b : Int) x (a : Int) (-1) (q : Int) l (l.length : Int) (i : Int)) r := by
  have step : ∀ (q : Nat), q ≤ b → q ≤ a → (if occ x (a - q) = true then Ev (fun k => spec_loBack.l1 k (N : Int) (b : Int) x (a : Int) (-1) ((q + 1 : Nat) : Int) l (l.length : Int) (i : Int)) r else Ev (fun k => spec_loBack.l0 k (N : Int) (b : Int) (x ++ [((a - q : Nat) : Int)]) l (l.length : Int) (wrap64 ((i : Int) + 1))) r) →
      Ev (fun k => spec_loBack.l1 k (N : Int) (b : Int) x (a : Int) (-1) (q : Int) l (l.length : Int) (i : Int)) r := by
    intro q hq hqa h
    have hs : wrap64 ((a : Int) - (q : Int)) = ((a - q : Nat) : Int) := by rw [wrap_id (by omega) (by omega)]; omega
    refine Ev.step (f := fun k => spec_loBack.j2 k (N : Int) (b : Int) x (a : Int) (-1) (q : Int) l (l.length : Int) (i : Int) true) (fun k => by rw [spec_loBack.l1, if_pos (by omega), hs, if_pos (by omega)]; rfl) ?_
    refine Ev.step (f := fun k => (spec_l1Has.f k x ((a - q : Nat) : Int)).bind fun t431 => (if t431 = true then (spec_loBack.l1 k (N : Int) (b : Int) x (a : Int) (-1) (wrap64 ((q : Int) + 1)) l (l.length : Int) (i : Int)) else (spec_loBack.l1 k (N : Int) (b : Int) x (a : Int) ((a - q : Nat) : Int) (wrap64 ((q : Int) + 1)) l (l.length : Int) (i : Int)))) (fun k => by rw [spec_loBack.j2, if_pos rfl, hs]) ?_
    refine Ev.bind (l1Has_ev x _ (by omega)) ?_
    by_cases hh : occ x (a - q) = true
    · rw [if_pos hh] at h
      have e : decide (((a - q : Nat) : Int) ∈ x) = true := hh
      simp only [e, if_true]
      rw [wrap_next (n := b + 1) (by omega) (by omega)]
      exact h
    · rw [if_neg hh] at h
      have e : decide (((a - q : Nat) : Int) ∈ x) = false := by simpa [occ] using hh
      simp only [e, Bool.false_eq_true, if_false]
      exact sp_found1 N b l x hx (a : Int) (a - q) _ i r h
  intro d
  induction d with
  | zero =>
    intro q hq hqa h
    refine step q (by omega) hqa ?_
    rw [backF_zero] at h
    cases hh : occ x (a - q) with
    | true =>
      simp only [hh, Bool.true_eq_false, if_false] at h
      simp only [if_true]
      exact sp_stop N b l x (a : Int) _ i r (by omega) (by omega) (by omega) h
    | false =>
      simp only [hh, if_true] at h
      simp only [Bool.false_eq_true, if_false]
      exact h
  | succ d ih =>
    intro q hq hqa h
    refine step q (by omega) hqa ?_
    rw [ParkT.backF.eq_def] at h
    cases hh : occ x (a - q) with
    | true =>
      simp only [hh, Bool.true_eq_false, if_false] at h
      simp only [if_true]
      by_cases e : a = q
      · have e0 : a - q = 0 := by omega
        simp only [e0] at h
        exact sp_stop N b l x (a : Int) _ i r (by omega) (by omega) (by omega) h
      · obtain ⟨c, hc⟩ : ∃ c, a - q = c + 1 := ⟨a - q - 1, by omega⟩
        simp only [hc] at h
        have e1 : a - (q + 1) = c := by omega
        refine ih (q + 1) (by omega) (by omega) ?_
        rw [e1]
        exact h
    | false =>
      simp only [hh, if_true] at h
      simp only [Bool.false_eq_true, if_false]
      exact h
theorem sp_car (hN : N ≤ 1000) (hb : b ≤ 1000) (x : List Int) (hx : x.length ≤ 1000) (a : Nat) (ha : a < N) (i : Nat) (r : List Int) (h : Ev (fun k => spec_loBack.l0 k (N : Int) (b : Int) (x ++ [valP (ParkT.bplace N (occ x) b a)]) l (l.length : Int) (wrap64 ((i : Int) + 1))) r) :
    Ev (fun k => spec_loBack.l1 k (N : Int) (b : Int) x (a : Int) (-1) 0 l (l.length : Int) (i : Int)) r := by
  refine sp_back N b l hb x hx a (by omega) i r b 0 (by omega) (by omega) ?_
  rw [Nat.sub_zero]
  unfold ParkT.bplace at h
  cases e : ParkT.backF (occ x) b a with
  | some p => rw [e] at h; exact h
  | none =>
    rw [e] at h
    exact sp_fwd N b l hN x hx i r (N - a) a (by omega) h
theorem sp_lo_l0 (hN : N ≤ 1000) (hb : b ≤ 1000) (hl : l.length ≤ 900) (hr : ∀ j, j < l.length → 0 ≤ l.getD j 0 ∧ l.getD j 0 < N) : ∀ (d i : Nat) (x : List Int), i + d = l.length → x.length ≤ i → Ev (fun k => spec_loBack.l0 k (N : Int) (b : Int) x l (l.length : Int) (i : Int)) (x ++ (drB N b (occ x) (natL (l.drop i))).map valP) := by
  intro d
  induction d with
  | zero =>
    intro i x hd hx
    refine Ev.end_ fun k => ?_
    rw [spec_loBack.l0, if_neg (by omega), List.drop_eq_nil_of_le (by omega)]
    simp [natL, drB]
  | succ d ih =>
    intro i x hd hx
    have hi : i < l.length := by omega
    have hri := hr i hi
    obtain ⟨a, ha⟩ : ∃ a : Nat, l.getD i 0 = a := ⟨(l.getD i 0).toNat, by omega⟩
    refine Ev.one (f := fun k => spec_loBack.l1 k (N : Int) (b : Int) x (a : Int) (-1) 0 l (l.length : Int) (i : Int)) ?_ fun k => by rw [spec_loBack.l0, if_pos (by omega), if_pos (by omega), if_pos (by omega), rd_nat, ha]
    refine sp_car N b l hN hb x (by omega) a (by omega) i _ ?_
    rw [wrap_next (n := l.length) hi (by omega)]
    have := ih (i + 1) (x ++ [valP (ParkT.bplace N (occ x) b a)]) (by omega) (by simp; omega)
    have e : x ++ (drB N b (occ x) (natL (l.drop i))).map valP = x ++ [valP (ParkT.bplace N (occ x) b a)] ++ (drB N b (occ (x ++ [valP (ParkT.bplace N (occ x) b a)])) (natL (l.drop (i + 1)))).map valP := by
      rw [drop_getD hi, ha]
      show x ++ (drB N b (occ x) ((a : Int).toNat :: natL (l.drop (i + 1)))).map valP = _
      rw [Int.toNat_natCast, drB]
      cases hf : ParkT.bplace N (occ x) b a with
      | none => simp [valP, occ_none]
      | some p => simp [valP, occ_some]
    rw [e]
    exact this
theorem loBack_ev (hN : N ≤ 1000) (hb : b ≤ 1000) (hl : l.length ≤ 900) (hr : ∀ j, j < l.length → 0 ≤ l.getD j 0 ∧ l.getD j 0 < N) : Ev (fun k => spec_loBack.f k l (N : Int) (b : Int)) ((drB N b (fun _ => false) (natL l)).map valP) := by
  unfold spec_loBack.f
  have := sp_lo_l0 N b l hN hb hl hr l.length 0 [] (by omega) (by simp)
  have eo : occ [] = fun _ => false := by funext q; simp [occ]
  rw [eo] at this
  simpa using this
theorem im_put (x : List Bool) (o : List Int) (ho : o.length ≤ 1000) (p : Nat) (hp : p < x.length) (hxN : x.length = N) (a : Int) (i : Nat) (r : List Int × Bool) (h : Ev (fun k => impl_driveBack.l0 k (N : Int) (b : Int) (x.set p true) (o ++ [(p : Int)]) l (l.length : Int) (wrap64 ((i : Int) + 1))) r) :
    Ev (fun k => impl_driveBack.j3 k (N : Int) (b : Int) x o a (p : Int) l (l.length : Int) (i : Int) false) r := by
  refine Ev.one h fun k => ?_
  rw [impl_driveBack.j3, if_neg (by decide), if_neg (by omega), if_pos (by omega), if_pos (by omega), if_pos (by omega), Int.toNat_natCast]
theorem im_fwd (hN : N ≤ 1000) (x : List Bool) (hx : x.length = N) (o : List Int) (ho : o.length ≤ 1000) (i : Nat) (r : List Int × Bool) : ∀ (d a : Nat), a + d = N → (match ParkT.fwdF (taken x) d a with | none => r = ([], false) | some p => Ev (fun k => impl_driveBack.l0 k (N : Int) (b : Int) (x.set p true) (o ++ [(p : Int)]) l (l.length : Int) (wrap64 ((i : Int) + 1))) r) →
    Ev (fun k => impl_driveBack.l2 k (N : Int) (b : Int) x o (a : Int) l (l.length : Int) (i : Int)) r := by
  intro d
  induction d with
  | zero =>
    intro a ha h
    rw [ParkT.fwdF] at h
    subst h
    exact Ev.end_ fun k => by rw [impl_driveBack.l2, if_neg (by omega), if_pos (by omega)]
  | succ d ih =>
    intro a ha h
    rw [ParkT.fwdF] at h
    have hrd : rdOf false x (a : Int) = taken x a := by simp [rdOf, taken]
    by_cases hh : taken x a = true
    · rw [if_neg (by rw [hh]; simp)] at h
      refine Ev.one (ih (a + 1) (by omega) h) fun k => ?_
      rw [impl_driveBack.l2, if_pos (by omega), if_pos (by omega), if_pos (by omega), if_pos (by rw [hrd]; exact hh), wrap_next (n := N) (by omega) (by omega)]
    · rw [if_pos (by simpa using hh)] at h
      simp only at h
      refine Ev.one h fun k => ?_
      rw [impl_driveBack.l2, if_pos (by omega), if_pos (by omega), if_pos (by omega), if_neg (by rw [hrd]; exact hh), if_neg (by omega), if_pos (by omega), Int.toNat_natCast]
theorem im_none (x : List Bool) (o : List Int) (a to_ : Int) (i : Nat) (r : List Int × Bool) (ha : 0 ≤ a ∧ a ≤ 1000) (hb : b ≤ 1000) (ht : to_ < 0 ∨ to_ < a - b) (h : Ev (fun k => impl_driveBack.l2 k (N : Int) (b : Int) x o a l (l.length : Int) (i : Int)) r) :
    Ev (fun k => impl_driveBack.l1 k (N : Int) (b : Int) x o a to_ l (l.length : Int) (i : Int)) r := by
  have h1 : Ev (fun k => impl_driveBack.j3 k (N : Int) (b : Int) x o a to_ l (l.length : Int) (i : Int) true) r := Ev.one h fun k => by rw [impl_driveBack.j3, if_pos rfl]
  have hs : wrap64 (a - (b : Int)) = a - (b : Int) := wrap_id (by omega) (by omega)
  have h2 : Ev (fun k => impl_driveBack.j2 k (N : Int) (b : Int) x o a to_ l (l.length : Int) (i : Int)) r := by
    refine Ev.one h1 fun k => ?_
    rw [impl_driveBack.j2, hs]
    by_cases c : to_ < 0
    · rw [if_pos c]
    · rw [if_neg c, decide_eq_true (show to_ < a - (b : Int) by omega)]
  refine Ev.one h2 fun k => ?_
  rw [impl_driveBack.l1, hs]
  by_cases c : to_ ≥ 0
  · rw [if_pos c, if_neg (by omega)]
  · rw [if_neg c]
theorem im_back (hb : b ≤ 1000) (x : List Bool) (hx : x.length = N) (hN : N ≤ 1000) (o : List Int) (ho : o.length ≤ 1000) (a : Nat) (ha : a < N) (i : Nat) (r : List Int × Bool) : ∀ (d q : Nat), q + d = b → q ≤ a →
    (match ParkT.backF (taken x) d (a - q) with | some p => Ev (fun k => impl_driveBack.l0 k (N : Int) (b : Int) (x.set p true) (o ++ [(p : Int)]) l (l.length : Int) (wrap64 ((i : Int) + 1))) r | none => Ev (fun k => impl_driveBack.l2 k (N : Int) (b : Int) x o (a : Int) l (l.length : Int) (i : Int)) r) →
    Ev (fun k => impl_driveBack.l1 k (N : Int) (b : Int) x o (a : Int) ((a - q : Nat) : Int) l (l.length : Int) (i : Int)) r := by
  have hs : wrap64 ((a : Int) - (b : Int)) = (a : Int) - (b : Int) := wrap_id (by omega) (by omega)
  have step : ∀ (q : Nat), q ≤ b → q ≤ a → (if taken x (a - q) = true then Ev (fun k => impl_driveBack.l1 k (N : Int) (b : Int) x o (a : Int) (((a - q : Nat) : Int) - 1) l (l.length : Int) (i : Int)) r else Ev (fun k => impl_driveBack.l0 k (N : Int) (b : Int) (x.set (a - q) true) (o ++ [((a - q : Nat) : Int)]) l (l.length : Int) (wrap64 ((i : Int) + 1))) r) →
      Ev (fun k => impl_driveBack.l1 k (N : Int) (b : Int) x o (a : Int) ((a - q : Nat) : Int) l (l.length : Int) (i : Int)) r := by
    intro q hq hqa h
    have hrd : rdOf false x ((a - q : Nat) : Int) = taken x (a - q) := by simp [rdOf, taken]
    by_cases hh : taken x (a - q) = true
    · rw [if_pos hh] at h
      refine Ev.one h fun k => ?_
      rw [impl_driveBack.l1, hs, if_pos (by omega), if_pos (by omega), if_pos (by omega), if_pos (by omega), if_pos (by rw [hrd]; exact hh), wrap_id (by omega) (by omega)]
    · rw [if_neg hh] at h
      have h2 : Ev (fun k => impl_driveBack.j2 k (N : Int) (b : Int) x o (a : Int) ((a - q : Nat) : Int) l (l.length : Int) (i : Int)) r := by
        refine Ev.one (im_put N b l x o ho (a - q) (by omega) hx (a : Int) i r h) fun k => ?_
        rw [impl_driveBack.j2, hs, if_neg (by omega), decide_eq_false (show ¬ ((a - q : Nat) : Int) < (a : Int) - (b : Int) by omega)]
      refine Ev.one h2 fun k => ?_
      rw [impl_driveBack.l1, hs, if_pos (by omega), if_pos (by omega), if_pos (by omega), if_pos (by omega), if_neg (by rw [hrd]; exact hh)]
  intro d
  induction d with
  | zero =>
    intro q hq hqa h
    refine step q (by omega) hqa ?_
    rw [backF_zero] at h
    cases hh : taken x (a - q) with
    | true =>
      simp only [hh, Bool.true_eq_false, if_false] at h
      simp only [if_true]
      exact im_none N b l x o (a : Int) _ i r (by omega) hb (by omega) h
    | false =>
      simp only [hh, if_true] at h
      simp only [Bool.false_eq_true, if_false]
      exact h
  | succ d ih =>
    intro q hq hqa h
    refine step q (by omega) hqa ?_
    rw [ParkT.backF.eq_def] at h
    cases hh : taken x (a - q) with
    | true =>
      simp only [hh, Bool.true_eq_false, if_false] at h
      simp only [if_true]
      by_cases e : a = q
      · have e0 : a - q = 0 := by omega
        simp only [e0] at h
        exact im_none N b l x o (a : Int) _ i r (by omega) hb (by omega) h
      · obtain ⟨c, hc⟩ : ∃ c, a - q = c + 1 := ⟨a - q - 1, by omega⟩
        simp only [hc] at h
        have e1 : a - (q + 1) = c := by omega
        have := ih (q + 1) (by omega) (by omega) (by rw [e1]; exact h)
        rw [show (((a - q : Nat) : Int) - 1) = ((a - (q + 1) : Nat) : Int) by omega]
        exact this
    | false =>
      simp only [hh, if_true] at h
      simp only [Bool.false_eq_true, if_false]
      exact h
/-- What the program's drive answers. -/
def outB : Option (List Nat) → List Int → List Int × Bool
  | none, _ => ([], false)
  | some L, o => (o ++ L.map fun (p : Nat) => (p : Int), true)
theorem im_lo_l0 (hN : N ≤ 1000) (hb : b ≤ 1000) (hl : l.length ≤ 900) (hr : ∀ j, j < l.length → 0 ≤ l.getD j 0 ∧ l.getD j 0 < N) : ∀ (d i : Nat) (x : List Bool) (o : List Int), i + d = l.length → x.length = N → o.length ≤ i → Ev (fun k => impl_driveBack.l0 k (N : Int) (b : Int) x o l (l.length : Int) (i : Int)) (outB (ParkT.driveB N b (taken x) (natL (l.drop i))) o) := by
  intro d
  induction d with
  | zero =>
    intro i x o hd hx ho
    refine Ev.end_ fun k => ?_
    rw [impl_driveBack.l0, if_neg (by omega), List.drop_eq_nil_of_le (by omega)]
    simp [natL, ParkT.driveB, outB]
  | succ d ih =>
    intro i x o hd hx ho
    have hi : i < l.length := by omega
    have hri := hr i hi
    obtain ⟨a, ha⟩ : ∃ a : Nat, l.getD i 0 = a := ⟨(l.getD i 0).toNat, by omega⟩
    refine Ev.one (f := fun k => impl_driveBack.l1 k (N : Int) (b : Int) x o (a : Int) (a : Int) l (l.length : Int) (i : Int)) ?_ fun k => by rw [impl_driveBack.l0, if_pos (by omega), if_pos (by omega), if_pos (by omega), rd_nat, ha]
    have e0 : natL (l.drop i) = a :: natL (l.drop (i + 1)) := by
      rw [drop_getD hi, ha]
      show (a : Int).toNat :: natL (l.drop (i + 1)) = _
      rw [Int.toNat_natCast]
    rw [e0, ParkT.driveB]
    have next : ∀ p, p < N → Ev (fun k => impl_driveBack.l0 k (N : Int) (b : Int) (x.set p true) (o ++ [(p : Int)]) l (l.length : Int) (wrap64 ((i : Int) + 1))) (outB ((ParkT.driveB N b (ParkT.put (taken x) p) (natL (l.drop (i + 1)))).map (p :: ·)) o) := by
      intro p hp
      have := ih (i + 1) (x.set p true) (o ++ [(p : Int)]) (by omega) (by simpa using hx) (by simp; omega)
      rw [taken_set (by omega)] at this
      rw [wrap_next (n := l.length) hi (by omega)]
      cases hL : ParkT.driveB N b (ParkT.put (taken x) p) (natL (l.drop (i + 1))) with
      | none => rw [hL] at this; exact this
      | some L =>
        rw [hL] at this
        simpa [outB] using this
    have hback := im_back N b l hb x hx hN o (by omega) a (by omega) i (outB (match ParkT.bplace N (taken x) b a with | none => none | some p => (ParkT.driveB N b (ParkT.put (taken x) p) (natL (l.drop (i + 1)))).map (p :: ·)) o) b 0 (by omega) (by omega)
    rw [Nat.sub_zero] at hback
    refine hback ?_
    unfold ParkT.bplace
    cases e : ParkT.backF (taken x) b a with
    | some p =>
      have hp := ParkT.backF_some e
      exact next p (by omega)
    | none =>
      simp only
      refine im_fwd N b l hN x hx o (by omega) i _ (N - a) a (by omega) ?_
      cases hf : ParkT.fwdF (taken x) (N - a) a with
      | none => rfl
      | some p =>
        have hp := ParkT.fwdF_some hf
        exact next p (by omega)
theorem driveBack_ev (hN : N ≤ 1000) (hb : b ≤ 1000) (hl : l.length ≤ 900) (hr : ∀ j, j < l.length → 0 ≤ l.getD j 0 ∧ l.getD j 0 < N) : Ev (fun k => impl_driveBack.f k l (N : Int) (b : Int)) (outB (ParkT.driveB N b (fun _ => false) (natL l)) []) := by
  unfold impl_driveBack.f
  simp only [show (0 : Int) ≤ (N : Int) by omega, Int.toNat_natCast, show N ≤ 281474976710656 by omega, if_true]
  have := im_lo_l0 N b l hN hb hl hr l.length 0 (List.replicate N false) [] (by omega) (by simp) (by simp)
  rw [taken_none] at this
  simpa using this
end
end Go.Proofs.Ytfclfjengfmjaaa.G
namespace Go.Proofs.Ytfclfjengfmjaaa.G
set_option linter.unusedVariables false
set_option linter.unusedSimpArgs false
/-- f 0 + .. + f (m - 1) -/
def sumTo (f : Nat → Nat) : Nat → Nat
  | 0 => 0
  | m + 1 => sumTo f m + f m
def b2n (b : Bool) : Nat := if b = true then 1 else 0
end Go.Proofs.Ytfclfjengfmjaaa.G
namespace Go.Proofs.Ytfclfjengfmjaaa.G
open Go.RowKit Go.Proofs.YtfclfjengfmjaaaW.PrintWords Go.Proofs.YtfclfjengfmjaaaW.PrintLast Go.Proofs.YtfclfjengfmjaaaW.PrintMore
set_option linter.unusedVariables false
set_option linter.unusedSimpArgs false
theorem Ev.same {α : Type} {g f : Nat → Option α} {r : α} (h : ∀ k, g k = f k) (e : Ev f r) : Ev g r := by
  have : g = f := funext h
  rw [this]; exact e
def allL (n : Nat) : Nat → List Int → List (List Int)
  | 0, p => [p]
  | d + 1, p => (List.range n).flatMap fun (x : Nat) => allL n d (p ++ [(x : Int)])
theorem flat_len {α : Type} (f : Nat → List α) (M : Nat) (h : ∀ x, (f x).length = M) : ∀ q, ((List.range q).flatMap f).length = q * M
  | 0 => by simp
  | q + 1 => by
    rw [List.range_succ, List.flatMap_append, List.length_append, flat_len f M h q, Nat.add_mul]
    simp [h]
theorem allL_len (n : Nat) : ∀ (d : Nat) (p : List Int), (allL n d p).length = n ^ d
  | 0, p => by simp [allL]
  | d + 1, p => by
    rw [allL, flat_len _ (n ^ d) (fun x => allL_len n d _), Nat.pow_succ, Nat.mul_comm]
theorem flat_succ {α : Type} (f : Nat → List α) (q : Nat) : (List.range (q + 1)).flatMap f = (List.range q).flatMap f ++ f q := by
  rw [List.range_succ, List.flatMap_append]; simp
theorem pow_small {n d : Nat} (hn : n ≤ 5) (hd : d ≤ 5) : n ^ d ≤ 3125 := by
  have h1 : n ^ d ≤ 5 ^ d := Nat.pow_le_pow_left hn d
  have h2 : 5 ^ d ≤ 5 ^ 5 := Nat.pow_le_pow_right (by omega) hd
  have : (5 : Nat) ^ 5 = 3125 := by decide
  omega
theorem loAll_ev (n : Nat) (hn : n ≤ 5) : ∀ (d : Nat) (p : List Int), p.length + d = n → Ev (fun k => spec_loAll.f k p (n : Int)) (allL n d p) := by
  intro d
  induction d with
  | zero =>
    intro p hp
    refine Ev.end_ fun k => ?_
    rw [spec_loAll.f, if_pos (by omega), own_eq p (by omega), Option.bind_some]
    rfl
  | succ d ih =>
    intro p hp
    have hlp : ∀ x, (allL n d (p ++ [((x : Nat) : Int)])).length = n ^ d := fun x => allL_len n d _
    have hM := pow_small hn (show d ≤ 5 by omega)
    have hup := Ev.up0 n (fun q => (List.range q).flatMap fun (x : Nat) => allL n d (p ++ [(x : Int)])) (fun k s q => spec_loAll.l0 k p (n : Int) s q) (allL n (d + 1) p) (fun i hi h => ?_) (Ev.end_ fun k => ?_)
    · refine Ev.one hup fun k => ?_
      rw [spec_loAll.f, if_neg (by omega)]
      rfl
    · refine Ev.step (f := fun k => (spec_loAll.f k (p ++ [(i : Int)]) (n : Int)).bind fun t424 => (if ((List.range i).flatMap fun (x : Nat) => allL n d (p ++ [(x : Int)])).length + t424.length < 5864062014805 then (spec_loAll.l0 k p (n : Int) (((List.range i).flatMap fun (x : Nat) => allL n d (p ++ [(x : Int)])) ++ t424) (wrap64 ((i : Int) + 1))) else none)) (fun k => by
        rw [spec_loAll.l0, if_pos (by omega), own_eq p (by omega), Option.bind_some, if_pos (by omega)]) ?_
      refine Ev.bind (ih (p ++ [(i : Int)]) (by simp; omega)) ?_
      have hb : i * n ^ d ≤ 5 * 3125 := Nat.mul_le_mul (by omega) hM
      rw [wrap_next (n := n) hi (by omega)]
      simp only [show ((List.range i).flatMap fun (x : Nat) => allL n d (p ++ [(x : Int)])).length + (allL n d (p ++ [(i : Int)])).length < 5864062014805 by rw [flat_len _ (n ^ d) hlp, hlp]; omega, if_true]
      rw [flat_succ] at h
      exact h
    · rw [spec_loAll.l0, if_neg (by omega)]
      rfl
theorem digI_front (n : Nat) (hn : 0 < n) (x : Nat) (hx : x < n) : ∀ (m j : Nat), j < n ^ m → digI n (m + 1) (x * n ^ m + j) = (x : Int) :: digI n m j
  | 0, j, hj => by
    rw [Nat.pow_zero] at hj
    obtain rfl : j = 0 := by omega
    simp [digI, Nat.mod_eq_of_lt hx]
  | m + 1, j, hj => by
    have hj2 : j / n < n ^ m := by rw [Nat.div_lt_iff_lt_mul hn]; exact Nat.pow_succ .. ▸ hj
    have e1 : (x * n ^ (m + 1) + j) / n = x * n ^ m + j / n := by
      rw [Nat.pow_succ, ← Nat.mul_assoc, Nat.mul_comm _ n, Nat.mul_add_div hn]
    have e2 : (x * n ^ (m + 1) + j) % n = j % n := by
      rw [Nat.pow_succ, ← Nat.mul_assoc, Nat.mul_comm _ n, Nat.mul_add_mod]
    rw [digI, e1, e2, digI_front n hn x hx m (j / n) hj2, digI]
    rfl
theorem range_mul {α : Type} (f : Nat → α) (M : Nat) : ∀ (n : Nat), (List.range (n * M)).map f = (List.range n).flatMap fun x => (List.range M).map fun j => f (x * M + j)
  | 0 => by simp
  | n + 1 => by
    rw [Nat.add_mul, Nat.one_mul, List.range_add, List.map_append, range_mul f M n, flat_succ, List.map_map]
    rfl
theorem flat_congr {α : Type} (f g : Nat → List α) : ∀ (n : Nat), (∀ x, x < n → f x = g x) → (List.range n).flatMap f = (List.range n).flatMap g
  | 0, _ => rfl
  | n + 1, h => by rw [flat_succ, flat_succ, flat_congr f g n (fun x hx => h x (by omega)), h n (by omega)]
theorem allL_eq (n : Nat) (hn : 0 < n) : ∀ (d : Nat) (p : List Int), allL n d p = (List.range (n ^ d)).map fun j => p ++ digI n d j
  | 0, p => by simp [allL, digI, List.range_succ]
  | d + 1, p => by
    rw [allL, Nat.pow_succ, Nat.mul_comm, range_mul]
    refine flat_congr _ _ n fun x hx => ?_
    rw [allL_eq n hn d]
    refine List.map_congr_left fun j hj => ?_
    rw [digI_front n hn x hx d j (List.mem_range.1 hj)]
    simp
theorem digI_mem (n : Nat) (hn : 0 < n) : ∀ (m q : Nat), ∀ x ∈ digI n m q, 0 ≤ x ∧ x < (n : Int)
  | 0, q, x, h => by simp [digI] at h
  | m + 1, q, x, h => by
    rw [digI] at h
    rcases List.mem_append.1 h with h | h
    · exact digI_mem n hn m _ x h
    · rw [List.mem_singleton] at h
      have := Nat.mod_lt q hn
      omega
theorem digI_get (n : Nat) (hn : 0 < n) (m q : Nat) (j : Nat) (hj : j < (digI n m q).length) : 0 ≤ (digI n m q).getD j 0 ∧ (digI n m q).getD j 0 < (n : Int) := by
  have := digI_mem n hn m q _ (List.getElem_mem hj)
  rw [List.getD_eq_getElem?_getD, List.getElem?_eq_getElem hj]
  exact this
/-- Whether the j-th list parks. -/
def okB (n b j : Nat) : Bool := (ParkT.driveB n b (fun _ => false) (natL (digI n n j))).isSome
def cval (n b j : Nat) : Nat := sumTo (fun i => b2n (okB n b i)) j
theorem cval_le (n b : Nat) : ∀ j, cval n b j ≤ j
  | 0 => by simp [cval, sumTo]
  | j + 1 => by
    have h := cval_le n b j
    unfold cval at h ⊢
    rw [sumTo]
    have : b2n (okB n b j) ≤ 1 := by unfold b2n; split <;> omega
    omega
theorem cval_succ (n b j : Nat) : cval n b (j + 1) = cval n b j + b2n (okB n b j) := rfl
theorem outB_ok (o : Option (List Nat)) : (outB o []).2 = o.isSome := by cases o <;> rfl
theorem cntB_ev (n b : Nat) (hn : 1 ≤ n) (hn5 : n ≤ 5) (hb : b ≤ 1000) : ∀ j, j ≤ 100000 → Ev (fun k => cntB k n (b : Int) j) ((cval n b j : Nat) : Int)
  | 0, _ => Ev.eq fun k => rfl
  | j + 1, hj => by
    have ih := cntB_ev n b hn hn5 hb j (by omega)
    have hd := driveBack_ev n b (digI n n j) (by omega) hb (by rw [digI_len]; omega) (digI_get n (by omega) n j)
    have hle := cval_le n b j
    refine Ev.same (f := fun k => (cntB k n (b : Int) j).bind fun c => (impl_driveBack.f k (digI n n j) (n : Int) (b : Int)).bind fun r => some (if r.2 = true then wrap64 (c + 1) else c)) (fun k => rfl) ?_
    refine Ev.bind ih (Ev.bind hd ?_)
    rw [outB_ok, cval_succ]
    unfold b2n
    show Ev _ _
    cases h : okB n b j with
    | true =>
      unfold okB at h
      simp only [h, if_true]
      rw [wrap_next (n := 100001) (by omega) (by omega)]
      exact Ev.now _
    | false =>
      unfold okB at h
      simp only [h, Bool.false_eq_true, if_false]
      exact Ev.now _
end Go.Proofs.Ytfclfjengfmjaaa.G
