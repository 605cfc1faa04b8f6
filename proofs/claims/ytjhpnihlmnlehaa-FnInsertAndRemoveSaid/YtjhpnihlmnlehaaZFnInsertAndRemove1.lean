/- The law FnInsertAndRemove: part 1 of the printed functions and the facts on them that its row leans on (merged by this session's slim.py). -/
import Derived.Test.YtjhpnihlmnlehaaZFnInsertAndRemove0
set_option linter.unusedVariables false
set_option linter.unusedSimpArgs false
namespace Go.Proofs.Ytjhpnihlmnlehaa.G
open Go.RowKit Go.Proofs.YtjhpnihlmnlehaaW.PrintWords Go.Proofs.YtjhpnihlmnlehaaW.PrintLast Go.Proofs.YtjhpnihlmnlehaaW.PrintMore
attribute [local go_sem] max2_int min2_int max_two min_two max_three min_three max_four min_four   -- for this text's walks alone
/-! ### spec_l1Has: function 33 -/
def spec_l1Has.l0 : Nat → Int → List Int → Int → Int → Option (Bool)
 | 0, _, _, _, _ => none
 | k + 1, x1, x7, x8, x9 => if x9 < x8 then (if 0 ≤ x9 then (if x9 < (x7.length : Int) then (if (rd x7 x9) = x1 then (some true) else (spec_l1Has.l0 k x1 x7 x8 (wrap64 (x9 + 1)))) else (none)) else (none)) else (some false)
def spec_l1Has.f (k : Nat) (l0 : List Int) (a1 : Int) : Option (Bool) := spec_l1Has.l0 k a1 l0 (l0.length : Int) 0
theorem spec_l1Has.mono_l : ∀ k, (∀ y0 y1 y2 y3, LeO (spec_l1Has.l0 k y0 y1 y2 y3) (spec_l1Has.l0 (k + 1) y0 y1 y2 y3))
 | 0 => fun _ _ _ _ r h => by simp [spec_l1Has.l0] at h
 | k + 1 => by
  have ih0 := spec_l1Has.mono_l k
  ·intro y0 y1 y2 y3
   unfold spec_l1Has.l0
   repeat' first
   | (with_reducible exact ih0 _ _ _ _)
   | (with_reducible exact LeO.refl _)
   | (with_reducible exact LeO.none _)
   | (with_reducible refine LeO.ite ?_ ?_)
   | (with_reducible refine LeO.bind ?_ (fun _ => ?_))
   | exact ih0 _ _ _ _
   | exact LeO.none _
   | refine LeO.ite ?_ ?_
   | refine LeO.bind ?_ (fun _ => ?_)
theorem spec_l1Has.mono : ∀ a0 a1 k, LeO (spec_l1Has.f k a0 a1) (spec_l1Has.f (k + 1) a0 a1) := by
 intro a0 a1 k
 have ih0 := spec_l1Has.mono_l k
 unfold spec_l1Has.f
 repeat' first
   | (with_reducible exact ih0 _ _ _ _)
   | (with_reducible exact LeO.refl _)
   | (with_reducible exact LeO.none _)
   | (with_reducible refine LeO.ite ?_ ?_)
   | (with_reducible refine LeO.bind ?_ (fun _ => ?_))
   | exact ih0 _ _ _ _
   | exact LeO.none _
   | refine LeO.ite ?_ ?_
   | refine LeO.bind ?_ (fun _ => ?_)
set_option maxHeartbeats 8000000 in
set_option maxRecDepth 100000 in
theorem spec_l1Has.calls (k : Nat) (A0 : Option Addr) (c0 : Nat) (l0 : List Int) (a1 : Int) (r : Bool) (w : World) (hr0 : Kd.C (Kd.int .i64) w A0 l0.length l0) (hc0 : l0.length ≤ c0) (h : spec_l1Has.f k l0 a1 = some r) :
  Calls Try.prog 33 #[.slice A0 l0.length c0, .int .i64 a1] w fun e w' => e = .returned (.bool r) ∧ Drawn0 w w' := by
 have HR0 := aS_ hr0
 have HC0 := aS_ hc0
 clear hr0 hc0
 have H : (spec_l1Has.l0 k a1 l0 (l0.length : Int) 0) = some r := h
 clear h
 have H' := aS_ H
 clear H
 go_enter Try.func33, Try.ntmps33
 go_wp2
 go_loopg [9] k (fun kq v9 w' => ∃ (x9_1 : Int), v9 = .int .i64 x9_1 ∧ Aside0 (spec_l1Has.l0 kq a1 l0 (l0.length : Int) x9_1 = some r) ∧ Aside0 (kq ≤ k) ∧ Drawn0 w w')
 case atStart => exact ⟨(0), sR_, H', ⟨Nat.le_refl _⟩, by repeat (first | exact Drawn0.refl _ | apply Drawn0.step)⟩
 case round =>
  clear H'
  try clear p2
  obtain ⟨x9_1, rfl, HA, HK1, ⟨m1, rfl⟩⟩ := hrel
  cases gk with
  | zero => exact absurd HA.out (by simp [spec_l1Has.l0])
  | succ k1 =>
   have H := HA.out
   clear HA
   simp only [spec_l1Has.l0] at H
   by_cases c3 : x9_1 < (l0.length : Int)
   ·rw [if_pos c3] at H
    have c3b0 : decide (x9_1 < (l0.length : Int)) = true := decide_eq_true c3
    clear c3
    by_cases c4 : 0 ≤ x9_1
    ·rw [if_pos c4] at H
     have c4b0 : decide (0 ≤ x9_1) = true := decide_eq_true c4
     clear c4
     by_cases c5 : x9_1 < (l0.length : Int)
     ·rw [if_pos c5] at H
      have c5b0 : decide (x9_1 < (l0.length : Int)) = true := decide_eq_true c5
      clear c5
      by_cases c6 : (rd l0 x9_1) = a1
      ·rw [if_pos c6] at H
       have c6b0 : ((rd l0 x9_1) == a1) = true := beq_iff_eq.mpr c6
       have c6b1 : ((rd l0 x9_1) != a1) = false := bne_eq_false_iff_eq.mpr c6
       clear c6
       obtain rfl := Option.some.inj H
       have p115 : 0 ≤ (x9_1 : Int) := of_decide_eq_true (by assumption)
       have q115 : x9_1 < (l0.length : Int) := of_decide_eq_true (by assumption)
       obtain ⟨ad115, e115, hx115_0⟩ := Kd.at_int HR0.out x9_1 p115 q115
       cases e115
       replace p115 := eq_true p115
       replace q115 := eq_true q115
       go_wp2
       go_ret
       exact ⟨sR_, by repeat (first | exact Drawn0.refl _ | apply Drawn0.step)⟩
      ·rw [if_neg c6] at H
       have c6b0 : ((rd l0 x9_1) == a1) = false := beq_eq_false_iff_ne.mpr c6
       have c6b1 : ((rd l0 x9_1) != a1) = true := bne_iff_ne.mpr c6
       have H' := aS_ H
       clear H
       have p115 : 0 ≤ (x9_1 : Int) := of_decide_eq_true (by assumption)
       have q115 : x9_1 < (l0.length : Int) := of_decide_eq_true (by assumption)
       obtain ⟨ad115, e115, hx115_0⟩ := Kd.at_int HR0.out x9_1 p115 q115
       cases e115
       replace p115 := eq_true p115
       replace q115 := eq_true q115
       go_wp2
       go_roundg k1
       case measure => have := HK1.out; omega
       case rel => exact ⟨(wrap64 (x9_1 + 1)), sR_, H', ⟨by have := HK1.out; omega⟩, by repeat (first | exact Drawn0.refl _ | apply Drawn0.step)⟩
     ·rw [if_neg c5] at H
      exact absurd H (by simp)
    ·rw [if_neg c4] at H
     exact absurd H (by simp)
   ·rw [if_neg c3] at H
    have c3b0 : decide (x9_1 < (l0.length : Int)) = false := decide_eq_false c3
    clear c3
    obtain rfl := Option.some.inj H
    go_wp2
    go_ret
    exact ⟨sR_, by repeat (first | exact Drawn0.refl _ | apply Drawn0.step)⟩
/-! ### spec_l1Cur_keys: function 48 -/
def spec_l1Cur_keys.l0 : Nat → Int → List Int → Int → List Int → Int → Int → Option (Int × List Int × Int × Int)
 | 0, _, _, _, _, _, _ => none
 | k + 1, x4, x5, x6, x1000, x1001, x1002 => if x6 > 0 then ((spec_l1Cur_among.f x1000 x1001 x1002 (([12, 40, 1000] : List Int))).bind fun bt131 => ((spec_l1Cur_pick.f x1000 bt131.2.1 bt131.2.2 bt131.1).bind fun bt134 => ((spec_l1Has.f k x5 bt134.1).bind fun t137 => (if t137 = true then ((spec_l1Cur_one.f x1000 bt134.2.1 bt134.2.2 20).bind fun bt138 => (if bt138.1 = true then (if x5.length < 17592186044416 then (spec_l1Cur_keys.l0 k x4 (x5 ++ [bt134.1]) (wrap64 (x6 - 1)) x1000 bt138.2.1 bt138.2.2) else (none)) else (spec_l1Cur_keys.l0 k x4 x5 (wrap64 (x6 - 1)) x1000 bt138.2.1 bt138.2.2))) else (if x5.length < 17592186044416 then (spec_l1Cur_keys.l0 k x4 (x5 ++ [bt134.1]) (wrap64 (x6 - 1)) x1000 bt134.2.1 bt134.2.2) else (none)))))) else ((spec_l1Cur_pick.f x1000 x1001 x1002 24).bind fun bt147 => (if bt147.1 = 0 then ((spec_l1Cur_among.f x1000 bt147.2.1 bt147.2.2 (([(-1), 999, 1000] : List Int))).bind fun bt153 => (if x5.length < 17592186044416 then (some (x4, (x5 ++ [bt153.1]), bt153.2.1, bt153.2.2)) else (none))) else (if bt147.1 = 1 then ((spec_l1Cur_among.f x1000 bt147.2.1 bt147.2.2 (([0, 1, (-1), 12, 13] : List Int))).bind fun bt162 => (some (bt162.1, x5, bt162.2.1, bt162.2.2))) else (some (x4, x5, bt147.2.1, bt147.2.2)))))
def spec_l1Cur_keys.f (k : Nat) (s0_0 : List Int) (s0_1 : Int) (s0_2 : Int) : Option (Int × List Int × Int × Int) := (spec_l1Cur_among.f s0_0 s0_1 s0_2 (([4, 7, 11] : List Int))).bind fun bt119 => ((spec_l1Cur_pick.f s0_0 bt119.2.1 bt119.2.2 bt119.1).bind fun bt122 => ((spec_l1Cur_pick.f s0_0 bt122.2.1 bt122.2.2 (wrap64 ((wrap64 (2 + bt122.1)) + 1))).bind fun bt125 => (spec_l1Cur_keys.l0 k (wrap64 (2 + bt122.1)) ([] : List Int) bt125.1 s0_0 bt125.2.1 bt125.2.2)))
theorem spec_l1Cur_keys.mono_l : ∀ k, (∀ y0 y1 y2 y3 y4 y5, LeO (spec_l1Cur_keys.l0 k y0 y1 y2 y3 y4 y5) (spec_l1Cur_keys.l0 (k + 1) y0 y1 y2 y3 y4 y5))
 | 0 => fun _ _ _ _ _ _ r h => by simp [spec_l1Cur_keys.l0] at h
 | k + 1 => by
  have ih0 := spec_l1Cur_keys.mono_l k
  ·intro y0 y1 y2 y3 y4 y5
   unfold spec_l1Cur_keys.l0
   repeat' first
   | (with_reducible exact ih0 _ _ _ _ _ _)
   | (with_reducible exact spec_l1Has.mono _ _ _)
   | (with_reducible exact LeO.refl _)
   | (with_reducible exact LeO.none _)
   | (with_reducible refine LeO.ite ?_ ?_)
   | (with_reducible refine LeO.bind ?_ (fun _ => ?_))
   | exact ih0 _ _ _ _ _ _
   | exact spec_l1Has.mono _ _ _
   | exact LeO.none _
   | refine LeO.ite ?_ ?_
   | refine LeO.bind ?_ (fun _ => ?_)
theorem spec_l1Cur_keys.mono : ∀ a0 a1 a2 k, LeO (spec_l1Cur_keys.f k a0 a1 a2) (spec_l1Cur_keys.f (k + 1) a0 a1 a2) := by
 intro a0 a1 a2 k
 have ih0 := spec_l1Cur_keys.mono_l k
 unfold spec_l1Cur_keys.f
 repeat' first
   | (with_reducible exact ih0 _ _ _ _ _ _)
   | (with_reducible exact spec_l1Has.mono _ _ _)
   | (with_reducible exact LeO.refl _)
   | (with_reducible exact LeO.none _)
   | (with_reducible refine LeO.ite ?_ ?_)
   | (with_reducible refine LeO.bind ?_ (fun _ => ?_))
   | exact ih0 _ _ _ _ _ _
   | exact spec_l1Has.mono _ _ _
   | exact LeO.none _
   | refine LeO.ite ?_ ?_
   | refine LeO.bind ?_ (fun _ => ?_)
set_option maxHeartbeats 8000000 in
set_option maxRecDepth 100000 in
theorem spec_l1Cur_keys.calls (k : Nat) (g : Nat) (s0_0 : List Int) (s0_1 : Int) (s0_2 : Int) (r1 : Int) (r2 : List Int) (r3 : Int) (r4 : Int) (w0 w : World) (hI : IsS46 w0 w g s0_0 s0_1 s0_2) (hB : Below w0.heap.size w0 w) (h : spec_l1Cur_keys.f k s0_0 s0_1 s0_2 = some (r1, r2, r3, r4)) :
  Calls Try.prog 48 #[.pointer (some ⟨g, 0, none⟩)] w fun e w' => ∃ v1_ : Value, e = .returned (.tuple #[.int .i64 r1, v1_]) ∧ Kd.R (Kd.int .i64) 3 w' w.heap.size (fun _ => True) v1_ r2 ∧ IsS46 w0 w' g s0_0 r3 r4 ∧ Below w0.heap.size w0 w' ∧ KeepBut w w' g none := by
 have HI0 := aS_ hI
 have HK := aS_ (KeepBut.refl w g none)
 have HL := aS_ hB.size
 clear hI
 have HW0 := aS_ hB.size
 have HB := aS_ hB
 clear hB
 have H : ((spec_l1Cur_among.f s0_0 s0_1 s0_2 (([4, 7, 11] : List Int))).bind fun bt119 => ((spec_l1Cur_pick.f s0_0 bt119.2.1 bt119.2.2 bt119.1).bind fun bt122 => ((spec_l1Cur_pick.f s0_0 bt122.2.1 bt122.2.2 (wrap64 ((wrap64 (2 + bt122.1)) + 1))).bind fun bt125 => (spec_l1Cur_keys.l0 k (wrap64 (2 + bt122.1)) ([] : List Int) bt125.1 s0_0 bt125.2.1 bt125.2.2)))) = some (r1, r2, r3, r4) := h
 clear h
 obtain ⟨y116, hy116⟩ : ∃ y_ : List Int, y_ = (([4, 7, 11] : List Int)) := ⟨_, rfl⟩
 replace H : ((spec_l1Cur_among.f s0_0 s0_1 s0_2 y116).bind fun bt119 => ((spec_l1Cur_pick.f s0_0 bt119.2.1 bt119.2.2 bt119.1).bind fun bt122 => ((spec_l1Cur_pick.f s0_0 bt122.2.1 bt122.2.2 (wrap64 ((wrap64 (2 + bt122.1)) + 1))).bind fun bt125 => (spec_l1Cur_keys.l0 k (wrap64 (2 + bt122.1)) ([] : List Int) bt125.1 s0_0 bt125.2.1 bt125.2.2)))) = some (r1, r2, r3, r4) := by first | (rw [hy116]; with_reducible exact H) | (have H2_ := (Option.bind_some _ _).symm.trans H; rw [hy116]; with_reducible exact H2_) | (have H2_ := (Option.bind_some _ _).symm.trans H; with_reducible exact H2_) | with_reducible exact H | (rw [hy116]; exact H) | exact H
 have Ny116 := aS_ hy116
 clear hy116
 replace H := Option.bind_eq_some_iff.mp H
 obtain ⟨⟨t119, t120, t121⟩, A20, H⟩ := H
 have A2 := aS_ A20
 clear A20
 replace H := Option.bind_eq_some_iff.mp H
 obtain ⟨⟨t122, t123, t124⟩, A30, H⟩ := H
 have A3 := aS_ A30
 clear A30
 replace H := Option.bind_eq_some_iff.mp H
 obtain ⟨⟨t125, t126, t127⟩, A40, H⟩ := H
 have A4 := aS_ A40
 clear A40
 have H' := aS_ H
 clear H
 go_enter Try.func48, Try.ntmps48
 go_wp2_with (first | ((with_reducible refine gate_dst (N := 10) rfl ?_); refine Kd.R_lit (Kd.int .i64) _ 3 ?hg (N := 10) ?hd (xs := ([4, 7, 11] : List Int)) (inner := [.int .i64 4, .int .i64 7, .int .i64 11]) (ok := fun _ => True) (okp := fun _ => True) ?hr ?hp (fun _ hk => hk) trivial (Below.refl _ _) (Nat.le_refl _) (by simp) ?_; (case hd => rfl); (case hg => rfl); (case hr => first | (go_simp; done) | (go_simp; rfl)); (case hp => exact (Reps.one (show Kd.M (Kd.int .i64) _ _ _ 4 [.int .i64 4] from rfl) (Reps.one (show Kd.M (Kd.int .i64) _ _ _ 7 [.int .i64 7] from rfl) (Reps.one (show Kd.M (Kd.int .i64) _ _ _ 11 [.int .i64 11] from rfl) (Reps.none _ _))))); intro v117 w5 ho6 hb hg_ hnew_; clear hg_ hnew_; (first | rw [← Ny116.out] at ho6 | (simp only [Int.reduceToNat] at ho6; rw [← Ny116.out] at ho6)); have HO118 := aS_ (Kd.R_lower ho6 (keep_size (w := w) (g := g) (row := none) (hh_ HK))); replace HK := aS_ (KeepBut.trans (hh_ HK) (KeepBut.of_below hb g none) (.inl rfl)); replace HB := aS_ (below_step (by repeat (first | (with_reducible first | exact HB.out | apply bA_ | apply pN_ | apply bD_ | refine bS_ ?_ (IsS46.ge HI0.out)) | exact HB.out)) hb); replace HI0 := aS_ (IsS46.below (ss_ HI0) hb); clear hb ho6; obtain ⟨Ao7, co7, eo7⟩ := Kd.R_slice HO118.out; subst eo7) | ((with_reducible refine gate_callee (f := 24) rfl ?_); refine goesL_ (some 11) rfl rfl Try.func24 (by kernel_rfl) rfl #[.pointer (some ⟨g, 0, none⟩), .slice Ao7 y116.length co7] rfl aR_ ?_; (with_reducible refine (spec_l1Cur_among.calls g s0_0 s0_1 s0_2 _ _ y116 t119 t120 t121 w0 _ ?side1 ?side2 ?side3 ?side4 ?side5 A2.out).mono ?_); (case side1 => exact ss_ HI0); (case side2 => repeat (first | (with_reducible first | exact HB.out | apply bA_ | apply pN_ | apply bD_ | refine bS_ ?_ (IsS46.ge HI0.out)) | exact HB.out)); (case side3 => exact cR_ HO118); (case side4 => exact (Kd.R_reads' HO118.out).2.1); (case side5 => exact far_slice (IsS46.own_ne HI0.out HO118.out (by decide))); rintro e w8 ⟨rfl, hi, hb, hk⟩; refine ⟨_, rfl, ?_⟩; replace HO118 := aS_ (Kd.R_mono (Kd.R_keep (IsS46.apart (show IsS46 w0 _ g s0_0 s0_1 s0_2 from ss_ HI0) (rr_ HO118) (by decide)) hk (fun _ h => h.2)) (fun _ h => h.1)); replace HK := aS_ (KeepBut.trans (hh_ HK) hk (.inl rfl)); replace HB := aS_ (hb); replace HI0 := aS_ (hi); (try clear hb); (try clear hk); (try clear hi)) | ((with_reducible refine gate_callee (f := 23) rfl ?_); refine goesL_ (some 12) rfl rfl Try.func23 (by kernel_rfl) rfl #[.pointer (some ⟨g, 0, none⟩), .int .i64 t119] rfl aR_ ?_; (with_reducible refine (spec_l1Cur_pick.calls g s0_0 t120 t121 t119 t122 t123 t124 w0 _ ?side1 ?side2 A3.out).mono ?_); (case side1 => exact ss_ HI0); (case side2 => repeat (first | (with_reducible first | exact HB.out | apply bA_ | apply pN_ | apply bD_ | refine bS_ ?_ (IsS46.ge HI0.out)) | exact HB.out)); rintro e w9 ⟨rfl, hi, hb, hk⟩; refine ⟨_, rfl, ?_⟩; replace HO118 := aS_ (Kd.R_mono (Kd.R_keep (IsS46.apart (show IsS46 w0 _ g s0_0 t120 t121 from ss_ HI0) (rr_ HO118) (by decide)) hk (fun _ h => h.2)) (fun _ h => h.1)); replace HK := aS_ (KeepBut.trans (hh_ HK) hk (.inl rfl)); replace HB := aS_ (hb); replace HI0 := aS_ (hi); (try clear hb); (try clear hk); (try clear hi)) | ((with_reducible refine gate_callee (f := 23) rfl ?_); refine goesL_ (some 17) rfl rfl Try.func23 (by kernel_rfl) rfl #[.pointer (some ⟨g, 0, none⟩), .int .i64 (wrap64 ((wrap64 (2 + t122)) + 1))] rfl aR_ ?_; (with_reducible refine (spec_l1Cur_pick.calls g s0_0 t123 t124 (wrap64 ((wrap64 (2 + t122)) + 1)) t125 t126 t127 w0 _ ?side1 ?side2 A4.out).mono ?_); (case side1 => exact ss_ HI0); (case side2 => repeat (first | (with_reducible first | exact HB.out | apply bA_ | apply pN_ | apply bD_ | refine bS_ ?_ (IsS46.ge HI0.out)) | exact HB.out)); rintro e w10 ⟨rfl, hi, hb, hk⟩; refine ⟨_, rfl, ?_⟩; replace HO118 := aS_ (Kd.R_mono (Kd.R_keep (IsS46.apart (show IsS46 w0 _ g s0_0 t123 t124 from ss_ HI0) (rr_ HO118) (by decide)) hk (fun _ h => h.2)) (fun _ h => h.1)); replace HK := aS_ (KeepBut.trans (hh_ HK) hk (.inl rfl)); replace HB := aS_ (hb); replace HI0 := aS_ (hi); (try clear hb); (try clear hk); (try clear hi)))
 go_loopg [5, 6] k (fun kq v5 v6 w' => ∃ (x5_1 : List Int) (x6_1 : Int) (x1001_1 : Int) (x1002_1 : Int), v6 = .int .i64 x6_1 ∧ Aside0 (spec_l1Cur_keys.l0 kq (wrap64 (2 + t122)) x5_1 x6_1 s0_0 x1001_1 x1002_1 = some (r1, r2, r3, r4)) ∧ Aside0 (kq ≤ k) ∧ Aside0 (Kd.R (Kd.int .i64) 3 w' w.heap.size (fun _ => True) v5 x5_1) ∧ Aside0 (IsS46 w0 w' g s0_0 x1001_1 x1002_1) ∧ Aside0 (KeepBut w w' g none) ∧ Aside0 (Below w0.heap.size w0 w'))
 case atStart => exact ⟨(([] : List Int)), (t125), (t126), (t127), sR_, H', ⟨Nat.le_refl _⟩, ⟨by first | exact Kd.R_nil _ _ _ _ _ | exact Kd.N_nil _ _ _ _ _ | exact Kd.V_nil _ _ _ _ _ | exact Kd.Q_nil _ _ _ _ _ | exact Kd.S_nil _ _ _ _ _⟩, ⟨ss_ HI0⟩, ⟨hh_ HK⟩, ⟨by repeat (first | (with_reducible first | exact HB.out | apply bA_ | apply pN_ | apply bD_ | refine bS_ ?_ (IsS46.ge HI0.out)) | exact HB.out)⟩⟩
 case round =>
  clear H'
  try clear c2
  try clear p2
  try clear c4
  try clear p6
  obtain ⟨x5_1, x6_1, x1001_1, x1002_1, rfl, HA, HK1, HO_5, HI0, HK, HB⟩ := hrel
  cases gk with
  | zero => exact absurd HA.out (by simp [spec_l1Cur_keys.l0])
  | succ k1 =>
   have H := HA.out
   clear HA
   simp only [spec_l1Cur_keys.l0] at H
   by_cases c11 : x6_1 > 0
   ·rw [if_pos c11] at H
    have c11b0 : decide (0 < x6_1) = true := decide_eq_true c11
    clear c11
    obtain ⟨y128, hy128⟩ : ∃ y_ : List Int, y_ = (([12, 40, 1000] : List Int)) := ⟨_, rfl⟩
    replace H : ((spec_l1Cur_among.f s0_0 x1001_1 x1002_1 y128).bind fun bt131 => ((spec_l1Cur_pick.f s0_0 bt131.2.1 bt131.2.2 bt131.1).bind fun bt134 => ((spec_l1Has.f k1 x5_1 bt134.1).bind fun t137 => (if t137 = true then ((spec_l1Cur_one.f s0_0 bt134.2.1 bt134.2.2 20).bind fun bt138 => (if bt138.1 = true then (if x5_1.length < 17592186044416 then (spec_l1Cur_keys.l0 k1 (wrap64 (2 + t122)) (x5_1 ++ [bt134.1]) (wrap64 (x6_1 - 1)) s0_0 bt138.2.1 bt138.2.2) else (none)) else (spec_l1Cur_keys.l0 k1 (wrap64 (2 + t122)) x5_1 (wrap64 (x6_1 - 1)) s0_0 bt138.2.1 bt138.2.2))) else (if x5_1.length < 17592186044416 then (spec_l1Cur_keys.l0 k1 (wrap64 (2 + t122)) (x5_1 ++ [bt134.1]) (wrap64 (x6_1 - 1)) s0_0 bt134.2.1 bt134.2.2) else (none)))))) = some (r1, r2, r3, r4) := by first | (rw [hy128]; with_reducible exact H) | (have H2_ := (Option.bind_some _ _).symm.trans H; rw [hy128]; with_reducible exact H2_) | (have H2_ := (Option.bind_some _ _).symm.trans H; with_reducible exact H2_) | with_reducible exact H | (rw [hy128]; exact H) | exact H
    have Ny128 := aS_ hy128
    clear hy128
    replace H := Option.bind_eq_some_iff.mp H
    obtain ⟨⟨t131, t132, t133⟩, A120, H⟩ := H
    have A12 := aS_ A120
    clear A120
    replace H := Option.bind_eq_some_iff.mp H
    obtain ⟨⟨t134, t135, t136⟩, A130, H⟩ := H
    have A13 := aS_ A130
    clear A130
    replace H := Option.bind_eq_some_iff.mp H
    obtain ⟨t137, A140, H⟩ := H
    have A14 := aS_ A140
    clear A140
    by_cases c15 : t137 = true
    ·subst c15
     rw [if_pos rfl] at H
     replace H := Option.bind_eq_some_iff.mp H
     obtain ⟨⟨t138, t139, t140⟩, A160, H⟩ := H
     have A16 := aS_ A160
     clear A160
     by_cases c17 : t138 = true
     ·subst c17
      rw [if_pos rfl] at H
      by_cases c18 : x5_1.length < 17592186044416
      ·rw [if_pos c18] at H
       have LMc18 := aS_ c18
       clear c18
       obtain ⟨y141, hy141⟩ : ∃ y_ : List Int, y_ = (x5_1 ++ [t134]) := ⟨_, rfl⟩
       replace H : (spec_l1Cur_keys.l0 k1 (wrap64 (2 + t122)) y141 (wrap64 (x6_1 - 1)) s0_0 t139 t140) = some (r1, r2, r3, r4) := by first | (rw [hy141]; with_reducible exact H) | (have H2_ := (Option.bind_some _ _).symm.trans H; rw [hy141]; with_reducible exact H2_) | (have H2_ := (Option.bind_some _ _).symm.trans H; with_reducible exact H2_) | with_reducible exact H | (rw [hy141]; exact H) | exact H
       have Ny141 := aS_ hy141
       clear hy141
       have H' := aS_ H
       clear H
       go_wp2_with (first | ((with_reducible refine gate_dst (N := 24) rfl ?_); refine Kd.R_lit (Kd.int .i64) _ 3 ?hg (N := 24) ?hd (xs := ([12, 40, 1000] : List Int)) (inner := [.int .i64 12, .int .i64 40, .int .i64 1000]) (ok := fun _ => True) (okp := fun _ => True) ?hr ?hp (fun _ hk => hk) trivial (Below.refl _ _) (Nat.le_refl _) (by simp) ?_; (case hd => rfl); (case hg => rfl); (case hr => first | (go_simp; done) | (go_simp; rfl)); (case hp => exact (Reps.one (show Kd.M (Kd.int .i64) _ _ _ 12 [.int .i64 12] from rfl) (Reps.one (show Kd.M (Kd.int .i64) _ _ _ 40 [.int .i64 40] from rfl) (Reps.one (show Kd.M (Kd.int .i64) _ _ _ 1000 [.int .i64 1000] from rfl) (Reps.none _ _))))); intro v129 w19 ho20 hb hg_ hnew_; clear hg_ hnew_; (first | rw [← Ny128.out] at ho20 | (simp only [Int.reduceToNat] at ho20; rw [← Ny128.out] at ho20)); have HO130 := aS_ (Kd.R_lower (Kd.R_new' ho20 (Kd.R_lt (rr_ HO_5))) (keep_size (w := w) (g := g) (row := none) (hh_ HK))); replace HO_5 := aS_ (Kd.R_elder' (rr_ HO_5) (Kd.R_base ho20) hb); replace HK := aS_ (KeepBut.trans (hh_ HK) (KeepBut.of_below hb g none) (.inl rfl)); replace HB := aS_ (below_step (by repeat (first | (with_reducible first | exact HB.out | apply bA_ | apply pN_ | apply bD_ | refine bS_ ?_ (IsS46.ge HI0.out)) | exact HB.out)) hb); replace HI0 := aS_ (IsS46.below (ss_ HI0) hb); clear hb ho20; obtain ⟨Ao21, co21, eo21⟩ := Kd.R_slice HO130.out; subst eo21) | ((with_reducible refine gate_callee (f := 24) rfl ?_); refine goesL_ (some 25) rfl rfl Try.func24 (by kernel_rfl) rfl #[.pointer (some ⟨g, 0, none⟩), .slice Ao21 y128.length co21] rfl aR_ ?_; (with_reducible refine (spec_l1Cur_among.calls g s0_0 x1001_1 x1002_1 _ _ y128 t131 t132 t133 w0 _ ?side1 ?side2 ?side3 ?side4 ?side5 A12.out).mono ?_); (case side1 => exact ss_ HI0); (case side2 => repeat (first | (with_reducible first | exact HB.out | apply bA_ | apply pN_ | apply bD_ | refine bS_ ?_ (IsS46.ge HI0.out)) | exact HB.out)); (case side3 => exact cR_ HO130); (case side4 => exact (Kd.R_reads' HO130.out).2.1); (case side5 => exact far_slice (IsS46.own_ne HI0.out HO130.out (by decide))); rintro e w22 ⟨rfl, hi, hb, hk⟩; refine ⟨_, rfl, ?_⟩; replace HO_5 := aS_ (Kd.R_mono (Kd.R_keep (IsS46.apart (show IsS46 w0 _ g s0_0 x1001_1 x1002_1 from ss_ HI0) (rr_ HO_5) (by decide)) hk (fun _ h => h.2)) (fun _ h => h.1)); replace HO130 := aS_ (Kd.R_mono (Kd.R_keep (IsS46.apart (show IsS46 w0 _ g s0_0 x1001_1 x1002_1 from ss_ HI0) (rr_ HO130) (by decide)) hk (fun _ h => h.2)) (fun _ h => h.1)); replace HK := aS_ (KeepBut.trans (hh_ HK) hk (.inl rfl)); replace HB := aS_ (hb); replace HI0 := aS_ (hi); (try clear hb); (try clear hk); (try clear hi)) | ((with_reducible refine gate_callee (f := 23) rfl ?_); refine goesL_ (some 26) rfl rfl Try.func23 (by kernel_rfl) rfl #[.pointer (some ⟨g, 0, none⟩), .int .i64 t131] rfl aR_ ?_; (with_reducible refine (spec_l1Cur_pick.calls g s0_0 t132 t133 t131 t134 t135 t136 w0 _ ?side1 ?side2 A13.out).mono ?_); (case side1 => exact ss_ HI0); (case side2 => repeat (first | (with_reducible first | exact HB.out | apply bA_ | apply pN_ | apply bD_ | refine bS_ ?_ (IsS46.ge HI0.out)) | exact HB.out)); rintro e w23 ⟨rfl, hi, hb, hk⟩; refine ⟨_, rfl, ?_⟩; replace HO_5 := aS_ (Kd.R_mono (Kd.R_keep (IsS46.apart (show IsS46 w0 _ g s0_0 t132 t133 from ss_ HI0) (rr_ HO_5) (by decide)) hk (fun _ h => h.2)) (fun _ h => h.1)); replace HO130 := aS_ (Kd.R_mono (Kd.R_keep (IsS46.apart (show IsS46 w0 _ g s0_0 t132 t133 from ss_ HI0) (rr_ HO130) (by decide)) hk (fun _ h => h.2)) (fun _ h => h.1)); replace HK := aS_ (KeepBut.trans (hh_ HK) hk (.inl rfl)); replace HB := aS_ (hb); replace HI0 := aS_ (hi); (try clear hb); (try clear hk); (try clear hi); obtain ⟨Ao24, co24, eo24⟩ := Kd.R_slice HO_5.out; subst eo24) | ((with_reducible refine gate_callee (f := 33) rfl ?_); refine goesL_ (some 29) rfl rfl Try.func33 (by kernel_rfl) rfl #[.slice Ao24 x5_1.length co24, .int .i64 t134] rfl aR_ ?_; (with_reducible refine (spec_l1Has.calls k1 _ _ x5_1 t134 true _ ?side1 ?side2 A14.out).mono ?_); (case side1 => exact cR_ HO_5); (case side2 => exact (Kd.R_reads' HO_5.out).2.1); rintro e w' ⟨rfl, ⟨nd, rfl⟩⟩; refine ⟨_, rfl, ?_⟩) | (go_at_call 21; (with_reducible refine (spec_l1Cur_one.calls g s0_0 t135 t136 20 true t139 t140 w0 _ ?side1 ?side2 A16.out).mono ?_); (case side1 => exact ss_ HI0); (case side2 => repeat (first | (with_reducible first | exact HB.out | apply bA_ | apply pN_ | apply bD_ | refine bS_ ?_ (IsS46.ge HI0.out)) | exact HB.out)); rintro e w25 ⟨rfl, hi, hb, hk⟩; replace HO_5 := aS_ (Kd.R_mono (Kd.R_keep (IsS46.apart (show IsS46 w0 _ g s0_0 t135 t136 from ss_ HI0) (rr_ HO_5) (by decide)) hk (fun _ h => h.2)) (fun _ h => h.1)); replace HO130 := aS_ (Kd.R_mono (Kd.R_keep (IsS46.apart (show IsS46 w0 _ g s0_0 t135 t136 from ss_ HI0) (rr_ HO130) (by decide)) hk (fun _ h => h.2)) (fun _ h => h.1)); replace HK := aS_ (KeepBut.trans (hh_ HK) hk (.inl rfl)); replace HB := aS_ (hb); replace HI0 := aS_ (hi); (try clear hb); (try clear hk); (try clear hi)) | ((with_reducible refine gate_builtin (b := .append) (xs := #[.tmp 35, .tmp 37]) rfl ?_); at_builtin; refine Kd.R_append (Kd.int .i64) w.heap.size rfl (.tmp 35) (.tmp 37) 24 3 (.int .i64 0) 8 rfl Try.underlying24 info3 rfl (by decide) (by omega) (.slice Ao24 x5_1.length co24) x5_1 t134 [.int .i64 t134] (fun k_ => some k_ ≠ (.slice Ao21 y128.length co21 : Value).ownBlock) (fun _ => False) rfl rfl ?aP (fun _ hk => hk.elim) ?aF ?aO (Below.refl _ _) ?aS ?aL ?_; (case aP => exact rfl); (case aF => exact (fun k_ hk => Kd.fresh' (Kd.R_lt (rr_ HO130)) k_ hk)); (case aO => exact (by (with_reducible repeat (first | apply rA_ | apply rN_ | apply rD_)); exact Kd.R_mono HO_5.out (fun _ hk => hk.2))); (case aS => exact (keep_size (w := w) (g := g) (row := none) (hh_ HK))); (case aL => have := LMc18.out; omega); intro v142 w26 ho hb hg hat; rw [← Ny141.out] at ho; replace HO130 := aS_ (Kd.R_after (ok := (fun _ => True)) (rr_ HO130) hg hat); replace HB := aS_ (below_weaken (by repeat (first | (with_reducible first | exact HB.out | apply bA_ | apply pN_ | apply bD_ | refine bS_ ?_ (IsS46.ge HI0.out)) | exact HB.out)) HL.out hb); replace HI0 := aS_ (IsS46.grown (ss_ HI0) hg (IsS46.own_ne HI0.out HO_5.out (by decide))); replace HK := aS_ (KeepBut.trans (hh_ HK) (KeepBut.of_grown hg g) (Kd.R_base2 HO_5.out)); have HO143 := aS_ (ho); clear HO_5; clear ho hb hg hat))
       go_roundg k1
       case measure => have := HK1.out; omega
       case rel => exact ⟨(y141), (wrap64 (x6_1 - 1)), (t139), (t140), sR_, H', ⟨by have := HK1.out; omega⟩, ⟨by (with_reducible repeat (first | apply rA_ | apply rN_ | apply rD_)); exact Kd.R_mono HO143.out (fun _ hk => trivial)⟩, ⟨ss_ HI0⟩, ⟨hh_ HK⟩, ⟨by repeat (first | (with_reducible first | exact HB.out | apply bA_ | apply pN_ | apply bD_ | refine bS_ ?_ (IsS46.ge HI0.out)) | exact HB.out)⟩⟩
      ·rw [if_neg c18] at H
       exact absurd H (by simp)
     ·replace c17 := Bool.eq_false_iff.mpr c17
      subst c17
      rw [if_neg (show ¬ (false = true) by decide)] at H
      have H' := aS_ H
      clear H
      go_wp2_with (first | ((with_reducible refine gate_dst (N := 24) rfl ?_); refine Kd.R_lit (Kd.int .i64) _ 3 ?hg (N := 24) ?hd (xs := ([12, 40, 1000] : List Int)) (inner := [.int .i64 12, .int .i64 40, .int .i64 1000]) (ok := fun _ => True) (okp := fun _ => True) ?hr ?hp (fun _ hk => hk) trivial (Below.refl _ _) (Nat.le_refl _) (by simp) ?_; (case hd => rfl); (case hg => rfl); (case hr => first | (go_simp; done) | (go_simp; rfl)); (case hp => exact (Reps.one (show Kd.M (Kd.int .i64) _ _ _ 12 [.int .i64 12] from rfl) (Reps.one (show Kd.M (Kd.int .i64) _ _ _ 40 [.int .i64 40] from rfl) (Reps.one (show Kd.M (Kd.int .i64) _ _ _ 1000 [.int .i64 1000] from rfl) (Reps.none _ _))))); intro v129 w27 ho28 hb hg_ hnew_; clear hg_ hnew_; (first | rw [← Ny128.out] at ho28 | (simp only [Int.reduceToNat] at ho28; rw [← Ny128.out] at ho28)); have HO130 := aS_ (Kd.R_lower (Kd.R_new' ho28 (Kd.R_lt (rr_ HO_5))) (keep_size (w := w) (g := g) (row := none) (hh_ HK))); replace HO_5 := aS_ (Kd.R_elder' (rr_ HO_5) (Kd.R_base ho28) hb); replace HK := aS_ (KeepBut.trans (hh_ HK) (KeepBut.of_below hb g none) (.inl rfl)); replace HB := aS_ (below_step (by repeat (first | (with_reducible first | exact HB.out | apply bA_ | apply pN_ | apply bD_ | refine bS_ ?_ (IsS46.ge HI0.out)) | exact HB.out)) hb); replace HI0 := aS_ (IsS46.below (ss_ HI0) hb); clear hb ho28; obtain ⟨Ao29, co29, eo29⟩ := Kd.R_slice HO130.out; subst eo29) | ((with_reducible refine gate_callee (f := 24) rfl ?_); refine goesL_ (some 25) rfl rfl Try.func24 (by kernel_rfl) rfl #[.pointer (some ⟨g, 0, none⟩), .slice Ao29 y128.length co29] rfl aR_ ?_; (with_reducible refine (spec_l1Cur_among.calls g s0_0 x1001_1 x1002_1 _ _ y128 t131 t132 t133 w0 _ ?side1 ?side2 ?side3 ?side4 ?side5 A12.out).mono ?_); (case side1 => exact ss_ HI0); (case side2 => repeat (first | (with_reducible first | exact HB.out | apply bA_ | apply pN_ | apply bD_ | refine bS_ ?_ (IsS46.ge HI0.out)) | exact HB.out)); (case side3 => exact cR_ HO130); (case side4 => exact (Kd.R_reads' HO130.out).2.1); (case side5 => exact far_slice (IsS46.own_ne HI0.out HO130.out (by decide))); rintro e w30 ⟨rfl, hi, hb, hk⟩; refine ⟨_, rfl, ?_⟩; replace HO_5 := aS_ (Kd.R_mono (Kd.R_keep (IsS46.apart (show IsS46 w0 _ g s0_0 x1001_1 x1002_1 from ss_ HI0) (rr_ HO_5) (by decide)) hk (fun _ h => h.2)) (fun _ h => h.1)); replace HO130 := aS_ (Kd.R_mono (Kd.R_keep (IsS46.apart (show IsS46 w0 _ g s0_0 x1001_1 x1002_1 from ss_ HI0) (rr_ HO130) (by decide)) hk (fun _ h => h.2)) (fun _ h => h.1)); replace HK := aS_ (KeepBut.trans (hh_ HK) hk (.inl rfl)); replace HB := aS_ (hb); replace HI0 := aS_ (hi); (try clear hb); (try clear hk); (try clear hi)) | ((with_reducible refine gate_callee (f := 23) rfl ?_); refine goesL_ (some 26) rfl rfl Try.func23 (by kernel_rfl) rfl #[.pointer (some ⟨g, 0, none⟩), .int .i64 t131] rfl aR_ ?_; (with_reducible refine (spec_l1Cur_pick.calls g s0_0 t132 t133 t131 t134 t135 t136 w0 _ ?side1 ?side2 A13.out).mono ?_); (case side1 => exact ss_ HI0); (case side2 => repeat (first | (with_reducible first | exact HB.out | apply bA_ | apply pN_ | apply bD_ | refine bS_ ?_ (IsS46.ge HI0.out)) | exact HB.out)); rintro e w31 ⟨rfl, hi, hb, hk⟩; refine ⟨_, rfl, ?_⟩; replace HO_5 := aS_ (Kd.R_mono (Kd.R_keep (IsS46.apart (show IsS46 w0 _ g s0_0 t132 t133 from ss_ HI0) (rr_ HO_5) (by decide)) hk (fun _ h => h.2)) (fun _ h => h.1)); replace HO130 := aS_ (Kd.R_mono (Kd.R_keep (IsS46.apart (show IsS46 w0 _ g s0_0 t132 t133 from ss_ HI0) (rr_ HO130) (by decide)) hk (fun _ h => h.2)) (fun _ h => h.1)); replace HK := aS_ (KeepBut.trans (hh_ HK) hk (.inl rfl)); replace HB := aS_ (hb); replace HI0 := aS_ (hi); (try clear hb); (try clear hk); (try clear hi); obtain ⟨Ao32, co32, eo32⟩ := Kd.R_slice HO_5.out; subst eo32) | ((with_reducible refine gate_callee (f := 33) rfl ?_); refine goesL_ (some 29) rfl rfl Try.func33 (by kernel_rfl) rfl #[.slice Ao32 x5_1.length co32, .int .i64 t134] rfl aR_ ?_; (with_reducible refine (spec_l1Has.calls k1 _ _ x5_1 t134 true _ ?side1 ?side2 A14.out).mono ?_); (case side1 => exact cR_ HO_5); (case side2 => exact (Kd.R_reads' HO_5.out).2.1); rintro e w' ⟨rfl, ⟨nd, rfl⟩⟩; refine ⟨_, rfl, ?_⟩) | (go_at_call 21; (with_reducible refine (spec_l1Cur_one.calls g s0_0 t135 t136 20 false t139 t140 w0 _ ?side1 ?side2 A16.out).mono ?_); (case side1 => exact ss_ HI0); (case side2 => repeat (first | (with_reducible first | exact HB.out | apply bA_ | apply pN_ | apply bD_ | refine bS_ ?_ (IsS46.ge HI0.out)) | exact HB.out)); rintro e w33 ⟨rfl, hi, hb, hk⟩; replace HO_5 := aS_ (Kd.R_mono (Kd.R_keep (IsS46.apart (show IsS46 w0 _ g s0_0 t135 t136 from ss_ HI0) (rr_ HO_5) (by decide)) hk (fun _ h => h.2)) (fun _ h => h.1)); replace HO130 := aS_ (Kd.R_mono (Kd.R_keep (IsS46.apart (show IsS46 w0 _ g s0_0 t135 t136 from ss_ HI0) (rr_ HO130) (by decide)) hk (fun _ h => h.2)) (fun _ h => h.1)); replace HK := aS_ (KeepBut.trans (hh_ HK) hk (.inl rfl)); replace HB := aS_ (hb); replace HI0 := aS_ (hi); (try clear hb); (try clear hk); (try clear hi)))
      go_roundg k1
      case measure => have := HK1.out; omega
      case rel => exact ⟨(x5_1), (wrap64 (x6_1 - 1)), (t139), (t140), sR_, H', ⟨by have := HK1.out; omega⟩, ⟨by (with_reducible repeat (first | apply rA_ | apply rN_ | apply rD_)); exact Kd.R_mono HO_5.out (fun _ hk => trivial)⟩, ⟨ss_ HI0⟩, ⟨hh_ HK⟩, ⟨by repeat (first | (with_reducible first | exact HB.out | apply bA_ | apply pN_ | apply bD_ | refine bS_ ?_ (IsS46.ge HI0.out)) | exact HB.out)⟩⟩
    ·replace c15 := Bool.eq_false_iff.mpr c15
     subst c15
     rw [if_neg (show ¬ (false = true) by decide)] at H
     by_cases c34 : x5_1.length < 17592186044416
     ·rw [if_pos c34] at H
      have LMc34 := aS_ c34
      clear c34
      obtain ⟨y144, hy144⟩ : ∃ y_ : List Int, y_ = (x5_1 ++ [t134]) := ⟨_, rfl⟩
      replace H : (spec_l1Cur_keys.l0 k1 (wrap64 (2 + t122)) y144 (wrap64 (x6_1 - 1)) s0_0 t135 t136) = some (r1, r2, r3, r4) := by first | (rw [hy144]; with_reducible exact H) | (have H2_ := (Option.bind_some _ _).symm.trans H; rw [hy144]; with_reducible exact H2_) | (have H2_ := (Option.bind_some _ _).symm.trans H; with_reducible exact H2_) | with_reducible exact H | (rw [hy144]; exact H) | exact H
      have Ny144 := aS_ hy144
      clear hy144
      have H' := aS_ H
      clear H
      go_wp2_with (first | ((with_reducible refine gate_dst (N := 24) rfl ?_); refine Kd.R_lit (Kd.int .i64) _ 3 ?hg (N := 24) ?hd (xs := ([12, 40, 1000] : List Int)) (inner := [.int .i64 12, .int .i64 40, .int .i64 1000]) (ok := fun _ => True) (okp := fun _ => True) ?hr ?hp (fun _ hk => hk) trivial (Below.refl _ _) (Nat.le_refl _) (by simp) ?_; (case hd => rfl); (case hg => rfl); (case hr => first | (go_simp; done) | (go_simp; rfl)); (case hp => exact (Reps.one (show Kd.M (Kd.int .i64) _ _ _ 12 [.int .i64 12] from rfl) (Reps.one (show Kd.M (Kd.int .i64) _ _ _ 40 [.int .i64 40] from rfl) (Reps.one (show Kd.M (Kd.int .i64) _ _ _ 1000 [.int .i64 1000] from rfl) (Reps.none _ _))))); intro v129 w35 ho36 hb hg_ hnew_; clear hg_ hnew_; (first | rw [← Ny128.out] at ho36 | (simp only [Int.reduceToNat] at ho36; rw [← Ny128.out] at ho36)); have HO130 := aS_ (Kd.R_lower (Kd.R_new' ho36 (Kd.R_lt (rr_ HO_5))) (keep_size (w := w) (g := g) (row := none) (hh_ HK))); replace HO_5 := aS_ (Kd.R_elder' (rr_ HO_5) (Kd.R_base ho36) hb); replace HK := aS_ (KeepBut.trans (hh_ HK) (KeepBut.of_below hb g none) (.inl rfl)); replace HB := aS_ (below_step (by repeat (first | (with_reducible first | exact HB.out | apply bA_ | apply pN_ | apply bD_ | refine bS_ ?_ (IsS46.ge HI0.out)) | exact HB.out)) hb); replace HI0 := aS_ (IsS46.below (ss_ HI0) hb); clear hb ho36; obtain ⟨Ao37, co37, eo37⟩ := Kd.R_slice HO130.out; subst eo37) | ((with_reducible refine gate_callee (f := 24) rfl ?_); refine goesL_ (some 25) rfl rfl Try.func24 (by kernel_rfl) rfl #[.pointer (some ⟨g, 0, none⟩), .slice Ao37 y128.length co37] rfl aR_ ?_; (with_reducible refine (spec_l1Cur_among.calls g s0_0 x1001_1 x1002_1 _ _ y128 t131 t132 t133 w0 _ ?side1 ?side2 ?side3 ?side4 ?side5 A12.out).mono ?_); (case side1 => exact ss_ HI0); (case side2 => repeat (first | (with_reducible first | exact HB.out | apply bA_ | apply pN_ | apply bD_ | refine bS_ ?_ (IsS46.ge HI0.out)) | exact HB.out)); (case side3 => exact cR_ HO130); (case side4 => exact (Kd.R_reads' HO130.out).2.1); (case side5 => exact far_slice (IsS46.own_ne HI0.out HO130.out (by decide))); rintro e w38 ⟨rfl, hi, hb, hk⟩; refine ⟨_, rfl, ?_⟩; replace HO_5 := aS_ (Kd.R_mono (Kd.R_keep (IsS46.apart (show IsS46 w0 _ g s0_0 x1001_1 x1002_1 from ss_ HI0) (rr_ HO_5) (by decide)) hk (fun _ h => h.2)) (fun _ h => h.1)); replace HO130 := aS_ (Kd.R_mono (Kd.R_keep (IsS46.apart (show IsS46 w0 _ g s0_0 x1001_1 x1002_1 from ss_ HI0) (rr_ HO130) (by decide)) hk (fun _ h => h.2)) (fun _ h => h.1)); replace HK := aS_ (KeepBut.trans (hh_ HK) hk (.inl rfl)); replace HB := aS_ (hb); replace HI0 := aS_ (hi); (try clear hb); (try clear hk); (try clear hi)) | ((with_reducible refine gate_callee (f := 23) rfl ?_); refine goesL_ (some 26) rfl rfl Try.func23 (by kernel_rfl) rfl #[.pointer (some ⟨g, 0, none⟩), .int .i64 t131] rfl aR_ ?_; (with_reducible refine (spec_l1Cur_pick.calls g s0_0 t132 t133 t131 t134 t135 t136 w0 _ ?side1 ?side2 A13.out).mono ?_); (case side1 => exact ss_ HI0); (case side2 => repeat (first | (with_reducible first | exact HB.out | apply bA_ | apply pN_ | apply bD_ | refine bS_ ?_ (IsS46.ge HI0.out)) | exact HB.out)); rintro e w39 ⟨rfl, hi, hb, hk⟩; refine ⟨_, rfl, ?_⟩; replace HO_5 := aS_ (Kd.R_mono (Kd.R_keep (IsS46.apart (show IsS46 w0 _ g s0_0 t132 t133 from ss_ HI0) (rr_ HO_5) (by decide)) hk (fun _ h => h.2)) (fun _ h => h.1)); replace HO130 := aS_ (Kd.R_mono (Kd.R_keep (IsS46.apart (show IsS46 w0 _ g s0_0 t132 t133 from ss_ HI0) (rr_ HO130) (by decide)) hk (fun _ h => h.2)) (fun _ h => h.1)); replace HK := aS_ (KeepBut.trans (hh_ HK) hk (.inl rfl)); replace HB := aS_ (hb); replace HI0 := aS_ (hi); (try clear hb); (try clear hk); (try clear hi); obtain ⟨Ao40, co40, eo40⟩ := Kd.R_slice HO_5.out; subst eo40) | ((with_reducible refine gate_callee (f := 33) rfl ?_); refine goesL_ (some 29) rfl rfl Try.func33 (by kernel_rfl) rfl #[.slice Ao40 x5_1.length co40, .int .i64 t134] rfl aR_ ?_; (with_reducible refine (spec_l1Has.calls k1 _ _ x5_1 t134 false _ ?side1 ?side2 A14.out).mono ?_); (case side1 => exact cR_ HO_5); (case side2 => exact (Kd.R_reads' HO_5.out).2.1); rintro e w' ⟨rfl, ⟨nd, rfl⟩⟩; refine ⟨_, rfl, ?_⟩) | ((with_reducible refine gate_builtin (b := .append) (xs := #[.tmp 35, .tmp 37]) rfl ?_); at_builtin; refine Kd.R_append (Kd.int .i64) w.heap.size rfl (.tmp 35) (.tmp 37) 24 3 (.int .i64 0) 8 rfl Try.underlying24 info3 rfl (by decide) (by omega) (.slice Ao40 x5_1.length co40) x5_1 t134 [.int .i64 t134] (fun k_ => some k_ ≠ (.slice Ao37 y128.length co37 : Value).ownBlock) (fun _ => False) rfl rfl ?aP (fun _ hk => hk.elim) ?aF ?aO (Below.refl _ _) ?aS ?aL ?_; (case aP => exact rfl); (case aF => exact (fun k_ hk => Kd.fresh' (Kd.R_lt (rr_ HO130)) k_ hk)); (case aO => exact (by (with_reducible repeat (first | apply rA_ | apply rN_ | apply rD_)); exact Kd.R_mono HO_5.out (fun _ hk => hk.2))); (case aS => exact (keep_size (w := w) (g := g) (row := none) (hh_ HK))); (case aL => have := LMc34.out; omega); intro v145 w41 ho hb hg hat; rw [← Ny144.out] at ho; replace HO130 := aS_ (Kd.R_after (ok := (fun _ => True)) (rr_ HO130) hg hat); replace HB := aS_ (below_weaken (by repeat (first | (with_reducible first | exact HB.out | apply bA_ | apply pN_ | apply bD_ | refine bS_ ?_ (IsS46.ge HI0.out)) | exact HB.out)) HL.out hb); replace HI0 := aS_ (IsS46.grown (ss_ HI0) hg (IsS46.own_ne HI0.out HO_5.out (by decide))); replace HK := aS_ (KeepBut.trans (hh_ HK) (KeepBut.of_grown hg g) (Kd.R_base2 HO_5.out)); have HO146 := aS_ (ho); clear HO_5; clear ho hb hg hat))
      go_roundg k1
      case measure => have := HK1.out; omega
      case rel => exact ⟨(y144), (wrap64 (x6_1 - 1)), (t135), (t136), sR_, H', ⟨by have := HK1.out; omega⟩, ⟨by (with_reducible repeat (first | apply rA_ | apply rN_ | apply rD_)); exact Kd.R_mono HO146.out (fun _ hk => trivial)⟩, ⟨ss_ HI0⟩, ⟨hh_ HK⟩, ⟨by repeat (first | (with_reducible first | exact HB.out | apply bA_ | apply pN_ | apply bD_ | refine bS_ ?_ (IsS46.ge HI0.out)) | exact HB.out)⟩⟩
     ·rw [if_neg c34] at H
      exact absurd H (by simp)
   ·rw [if_neg c11] at H
    have c11b0 : decide (0 < x6_1) = false := decide_eq_false c11
    clear c11
    replace H := Option.bind_eq_some_iff.mp H
    obtain ⟨⟨t147, t148, t149⟩, A420, H⟩ := H
    have A42 := aS_ A420
    clear A420
    by_cases c43 : t147 = 0
    ·rw [if_pos c43] at H
     have c43b0 : (t147 == 0) = true := beq_iff_eq.mpr c43
     have c43b1 : (t147 != 0) = false := bne_eq_false_iff_eq.mpr c43
     clear c43
     obtain ⟨y150, hy150⟩ : ∃ y_ : List Int, y_ = (([(-1), 999, 1000] : List Int)) := ⟨_, rfl⟩
     replace H : ((spec_l1Cur_among.f s0_0 t148 t149 y150).bind fun bt153 => (if x5_1.length < 17592186044416 then (some ((wrap64 (2 + t122)), (x5_1 ++ [bt153.1]), bt153.2.1, bt153.2.2)) else (none))) = some (r1, r2, r3, r4) := by first | (rw [hy150]; with_reducible exact H) | (have H2_ := (Option.bind_some _ _).symm.trans H; rw [hy150]; with_reducible exact H2_) | (have H2_ := (Option.bind_some _ _).symm.trans H; with_reducible exact H2_) | with_reducible exact H | (rw [hy150]; exact H) | exact H
     have Ny150 := aS_ hy150
     clear hy150
     replace H := Option.bind_eq_some_iff.mp H
     obtain ⟨⟨t153, t154, t155⟩, A440, H⟩ := H
     have A44 := aS_ A440
     clear A440
     by_cases c45 : x5_1.length < 17592186044416
     ·rw [if_pos c45] at H
      have LMc45 := aS_ c45
      clear c45
      obtain ⟨y156, hy156⟩ : ∃ y_ : List Int, y_ = (x5_1 ++ [t153]) := ⟨_, rfl⟩
      replace H : (some ((wrap64 (2 + t122)), y156, t154, t155)) = some (r1, r2, r3, r4) := by first | (rw [hy156]; with_reducible exact H) | (have H2_ := (Option.bind_some _ _).symm.trans H; rw [hy156]; with_reducible exact H2_) | (have H2_ := (Option.bind_some _ _).symm.trans H; with_reducible exact H2_) | with_reducible exact H | (rw [hy156]; exact H) | exact H
      have Ny156 := aS_ hy156
      clear hy156
      simp only [Option.some.injEq, Prod.mk.injEq] at H
      obtain ⟨rfl, rfl, rfl, rfl⟩ := H
      go_wp2_with (first | ((with_reducible refine gate_callee (f := 23) rfl ?_); refine goesL_ (some 40) rfl rfl Try.func23 (by kernel_rfl) rfl #[.pointer (some ⟨g, 0, none⟩), .int .i64 24] rfl aR_ ?_; (with_reducible refine (spec_l1Cur_pick.calls g s0_0 x1001_1 x1002_1 24 t147 t148 t149 w0 _ ?side1 ?side2 A42.out).mono ?_); (case side1 => exact ss_ HI0); (case side2 => repeat (first | (with_reducible first | exact HB.out | apply bA_ | apply pN_ | apply bD_ | refine bS_ ?_ (IsS46.ge HI0.out)) | exact HB.out)); rintro e w46 ⟨rfl, hi, hb, hk⟩; refine ⟨_, rfl, ?_⟩; replace HO_5 := aS_ (Kd.R_mono (Kd.R_keep (IsS46.apart (show IsS46 w0 _ g s0_0 x1001_1 x1002_1 from ss_ HI0) (rr_ HO_5) (by decide)) hk (fun _ h => h.2)) (fun _ h => h.1)); replace HK := aS_ (KeepBut.trans (hh_ HK) hk (.inl rfl)); replace HB := aS_ (hb); replace HI0 := aS_ (hi); (try clear hb); (try clear hk); (try clear hi)) | ((with_reducible refine gate_dst (N := 45) rfl ?_); refine Kd.R_lit (Kd.int .i64) _ 3 ?hg (N := 45) ?hd (xs := ([(-1), 999, 1000] : List Int)) (inner := [.int .i64 (-1), .int .i64 999, .int .i64 1000]) (ok := fun _ => True) (okp := fun _ => True) ?hr ?hp (fun _ hk => hk) trivial (Below.refl _ _) (Nat.le_refl _) (by simp) ?_; (case hd => rfl); (case hg => rfl); (case hr => first | (go_simp; done) | (go_simp; rfl)); (case hp => exact (Reps.one (show Kd.M (Kd.int .i64) _ _ _ (-1) [.int .i64 (-1)] from rfl) (Reps.one (show Kd.M (Kd.int .i64) _ _ _ 999 [.int .i64 999] from rfl) (Reps.one (show Kd.M (Kd.int .i64) _ _ _ 1000 [.int .i64 1000] from rfl) (Reps.none _ _))))); intro v151 w47 ho48 hb hg_ hnew_; clear hg_ hnew_; (first | rw [← Ny150.out] at ho48 | (simp only [Int.reduceToNat] at ho48; rw [← Ny150.out] at ho48)); have HO152 := aS_ (Kd.R_lower (Kd.R_new' ho48 (Kd.R_lt (rr_ HO_5))) (keep_size (w := w) (g := g) (row := none) (hh_ HK))); replace HO_5 := aS_ (Kd.R_elder' (rr_ HO_5) (Kd.R_base ho48) hb); replace HK := aS_ (KeepBut.trans (hh_ HK) (KeepBut.of_below hb g none) (.inl rfl)); replace HB := aS_ (below_step (by repeat (first | (with_reducible first | exact HB.out | apply bA_ | apply pN_ | apply bD_ | refine bS_ ?_ (IsS46.ge HI0.out)) | exact HB.out)) hb); replace HI0 := aS_ (IsS46.below (ss_ HI0) hb); clear hb ho48; obtain ⟨Ao49, co49, eo49⟩ := Kd.R_slice HO152.out; subst eo49) | ((with_reducible refine gate_callee (f := 24) rfl ?_); refine goesL_ (some 46) rfl rfl Try.func24 (by kernel_rfl) rfl #[.pointer (some ⟨g, 0, none⟩), .slice Ao49 y150.length co49] rfl aR_ ?_; (with_reducible refine (spec_l1Cur_among.calls g s0_0 t148 t149 _ _ y150 t153 t154 t155 w0 _ ?side1 ?side2 ?side3 ?side4 ?side5 A44.out).mono ?_); (case side1 => exact ss_ HI0); (case side2 => repeat (first | (with_reducible first | exact HB.out | apply bA_ | apply pN_ | apply bD_ | refine bS_ ?_ (IsS46.ge HI0.out)) | exact HB.out)); (case side3 => exact cR_ HO152); (case side4 => exact (Kd.R_reads' HO152.out).2.1); (case side5 => exact far_slice (IsS46.own_ne HI0.out HO152.out (by decide))); rintro e w50 ⟨rfl, hi, hb, hk⟩; refine ⟨_, rfl, ?_⟩; replace HO_5 := aS_ (Kd.R_mono (Kd.R_keep (IsS46.apart (show IsS46 w0 _ g s0_0 t148 t149 from ss_ HI0) (rr_ HO_5) (by decide)) hk (fun _ h => h.2)) (fun _ h => h.1)); replace HO152 := aS_ (Kd.R_mono (Kd.R_keep (IsS46.apart (show IsS46 w0 _ g s0_0 t148 t149 from ss_ HI0) (rr_ HO152) (by decide)) hk (fun _ h => h.2)) (fun _ h => h.1)); replace HK := aS_ (KeepBut.trans (hh_ HK) hk (.inl rfl)); replace HB := aS_ (hb); replace HI0 := aS_ (hi); (try clear hb); (try clear hk); (try clear hi)) | ((with_reducible refine gate_builtin (b := .append) (xs := #[.tmp 43, .tmp 47]) rfl ?_); at_builtin; refine Kd.R_append (Kd.int .i64) w.heap.size rfl (.tmp 43) (.tmp 47) 24 3 (.int .i64 0) 8 rfl Try.underlying24 info3 rfl (by decide) (by omega) u5 x5_1 t153 [.int .i64 t153] (fun k_ => some k_ ≠ (.slice Ao49 y150.length co49 : Value).ownBlock) (fun _ => False) rfl rfl ?aP (fun _ hk => hk.elim) ?aF ?aO (Below.refl _ _) ?aS ?aL ?_; (case aP => exact rfl); (case aF => exact (fun k_ hk => Kd.fresh' (Kd.R_lt (rr_ HO152)) k_ hk)); (case aO => exact (by (with_reducible repeat (first | apply rA_ | apply rN_ | apply rD_)); exact Kd.R_mono HO_5.out (fun _ hk => hk.2))); (case aS => exact (keep_size (w := w) (g := g) (row := none) (hh_ HK))); (case aL => have := LMc45.out; omega); intro v157 w51 ho hb hg hat; rw [← Ny156.out] at ho; replace HO152 := aS_ (Kd.R_after (ok := (fun _ => True)) (rr_ HO152) hg hat); replace HB := aS_ (below_weaken (by repeat (first | (with_reducible first | exact HB.out | apply bA_ | apply pN_ | apply bD_ | refine bS_ ?_ (IsS46.ge HI0.out)) | exact HB.out)) HL.out hb); replace HI0 := aS_ (IsS46.grown (ss_ HI0) hg (IsS46.own_ne HI0.out HO_5.out (by decide))); replace HK := aS_ (KeepBut.trans (hh_ HK) (KeepBut.of_grown hg g) (Kd.R_base2 HO_5.out)); have HO158 := aS_ (ho); clear HO_5; clear ho hb hg hat))
      go_ret2
      exact ⟨_, by first | rfl | (simp [errW_none, errW_some] <;> rfl) | (simp [*, errW_none, errW_some] <;> rfl), by (with_reducible repeat (first | apply rA_ | apply rN_ | apply rD_)); exact Kd.R_mono HO158.out (fun _ hk => trivial), ss_ HI0, by repeat (first | (with_reducible first | exact HB.out | apply bA_ | apply pN_ | apply bD_ | refine bS_ ?_ (IsS46.ge HI0.out)) | exact HB.out), hh_ HK⟩
     ·rw [if_neg c45] at H
      exact absurd H (by simp)
    ·rw [if_neg c43] at H
     have c43b0 : (t147 == 0) = false := beq_eq_false_iff_ne.mpr c43
     have c43b1 : (t147 != 0) = true := bne_iff_ne.mpr c43
     by_cases c52 : t147 = 1
     ·rw [if_pos c52] at H
      have c52b0 : (t147 == 1) = true := beq_iff_eq.mpr c52
      have c52b1 : (t147 != 1) = false := bne_eq_false_iff_eq.mpr c52
      clear c52
      obtain ⟨y159, hy159⟩ : ∃ y_ : List Int, y_ = (([0, 1, (-1), 12, 13] : List Int)) := ⟨_, rfl⟩
      replace H : ((spec_l1Cur_among.f s0_0 t148 t149 y159).bind fun bt162 => (some (bt162.1, x5_1, bt162.2.1, bt162.2.2))) = some (r1, r2, r3, r4) := by first | (rw [hy159]; with_reducible exact H) | (have H2_ := (Option.bind_some _ _).symm.trans H; rw [hy159]; with_reducible exact H2_) | (have H2_ := (Option.bind_some _ _).symm.trans H; with_reducible exact H2_) | with_reducible exact H | (rw [hy159]; exact H) | exact H
      have Ny159 := aS_ hy159
      clear hy159
      replace H := Option.bind_eq_some_iff.mp H
      obtain ⟨⟨t162, t163, t164⟩, A530, H⟩ := H
      have A53 := aS_ A530
      clear A530
      simp only [Option.some.injEq, Prod.mk.injEq] at H
      obtain ⟨rfl, rfl, rfl, rfl⟩ := H
      go_wp2_with (first | ((with_reducible refine gate_callee (f := 23) rfl ?_); refine goesL_ (some 40) rfl rfl Try.func23 (by kernel_rfl) rfl #[.pointer (some ⟨g, 0, none⟩), .int .i64 24] rfl aR_ ?_; (with_reducible refine (spec_l1Cur_pick.calls g s0_0 x1001_1 x1002_1 24 t147 t148 t149 w0 _ ?side1 ?side2 A42.out).mono ?_); (case side1 => exact ss_ HI0); (case side2 => repeat (first | (with_reducible first | exact HB.out | apply bA_ | apply pN_ | apply bD_ | refine bS_ ?_ (IsS46.ge HI0.out)) | exact HB.out)); rintro e w54 ⟨rfl, hi, hb, hk⟩; refine ⟨_, rfl, ?_⟩; replace HO_5 := aS_ (Kd.R_mono (Kd.R_keep (IsS46.apart (show IsS46 w0 _ g s0_0 x1001_1 x1002_1 from ss_ HI0) (rr_ HO_5) (by decide)) hk (fun _ h => h.2)) (fun _ h => h.1)); replace HK := aS_ (KeepBut.trans (hh_ HK) hk (.inl rfl)); replace HB := aS_ (hb); replace HI0 := aS_ (hi); (try clear hb); (try clear hk); (try clear hi)) | ((with_reducible refine gate_dst (N := 52) rfl ?_); refine Kd.R_lit (Kd.int .i64) _ 3 ?hg (N := 52) ?hd (xs := ([0, 1, (-1), 12, 13] : List Int)) (inner := [.int .i64 0, .int .i64 1, .int .i64 (-1), .int .i64 12, .int .i64 13]) (ok := fun _ => True) (okp := fun _ => True) ?hr ?hp (fun _ hk => hk) trivial (Below.refl _ _) (Nat.le_refl _) (by simp) ?_; (case hd => rfl); (case hg => rfl); (case hr => first | (go_simp; done) | (go_simp; rfl)); (case hp => exact (Reps.one (show Kd.M (Kd.int .i64) _ _ _ 0 [.int .i64 0] from rfl) (Reps.one (show Kd.M (Kd.int .i64) _ _ _ 1 [.int .i64 1] from rfl) (Reps.one (show Kd.M (Kd.int .i64) _ _ _ (-1) [.int .i64 (-1)] from rfl) (Reps.one (show Kd.M (Kd.int .i64) _ _ _ 12 [.int .i64 12] from rfl) (Reps.one (show Kd.M (Kd.int .i64) _ _ _ 13 [.int .i64 13] from rfl) (Reps.none _ _))))))); intro v160 w55 ho56 hb hg_ hnew_; clear hg_ hnew_; (first | rw [← Ny159.out] at ho56 | (simp only [Int.reduceToNat] at ho56; rw [← Ny159.out] at ho56)); have HO161 := aS_ (Kd.R_lower (Kd.R_new' ho56 (Kd.R_lt (rr_ HO_5))) (keep_size (w := w) (g := g) (row := none) (hh_ HK))); replace HO_5 := aS_ (Kd.R_elder' (rr_ HO_5) (Kd.R_base ho56) hb); replace HK := aS_ (KeepBut.trans (hh_ HK) (KeepBut.of_below hb g none) (.inl rfl)); replace HB := aS_ (below_step (by repeat (first | (with_reducible first | exact HB.out | apply bA_ | apply pN_ | apply bD_ | refine bS_ ?_ (IsS46.ge HI0.out)) | exact HB.out)) hb); replace HI0 := aS_ (IsS46.below (ss_ HI0) hb); clear hb ho56; obtain ⟨Ao57, co57, eo57⟩ := Kd.R_slice HO161.out; subst eo57) | ((with_reducible refine gate_callee (f := 24) rfl ?_); refine goesL_ (some 53) rfl rfl Try.func24 (by kernel_rfl) rfl #[.pointer (some ⟨g, 0, none⟩), .slice Ao57 y159.length co57] rfl aR_ ?_; (with_reducible refine (spec_l1Cur_among.calls g s0_0 t148 t149 _ _ y159 t162 t163 t164 w0 _ ?side1 ?side2 ?side3 ?side4 ?side5 A53.out).mono ?_); (case side1 => exact ss_ HI0); (case side2 => repeat (first | (with_reducible first | exact HB.out | apply bA_ | apply pN_ | apply bD_ | refine bS_ ?_ (IsS46.ge HI0.out)) | exact HB.out)); (case side3 => exact cR_ HO161); (case side4 => exact (Kd.R_reads' HO161.out).2.1); (case side5 => exact far_slice (IsS46.own_ne HI0.out HO161.out (by decide))); rintro e w58 ⟨rfl, hi, hb, hk⟩; refine ⟨_, rfl, ?_⟩; replace HO_5 := aS_ (Kd.R_mono (Kd.R_keep (IsS46.apart (show IsS46 w0 _ g s0_0 t148 t149 from ss_ HI0) (rr_ HO_5) (by decide)) hk (fun _ h => h.2)) (fun _ h => h.1)); replace HO161 := aS_ (Kd.R_mono (Kd.R_keep (IsS46.apart (show IsS46 w0 _ g s0_0 t148 t149 from ss_ HI0) (rr_ HO161) (by decide)) hk (fun _ h => h.2)) (fun _ h => h.1)); replace HK := aS_ (KeepBut.trans (hh_ HK) hk (.inl rfl)); replace HB := aS_ (hb); replace HI0 := aS_ (hi); (try clear hb); (try clear hk); (try clear hi)))
      go_ret2
      exact ⟨_, by first | rfl | (simp [errW_none, errW_some] <;> rfl) | (simp [*, errW_none, errW_some] <;> rfl), by (with_reducible repeat (first | apply rA_ | apply rN_ | apply rD_)); exact Kd.R_mono HO_5.out (fun _ hk => trivial), ss_ HI0, by repeat (first | (with_reducible first | exact HB.out | apply bA_ | apply pN_ | apply bD_ | refine bS_ ?_ (IsS46.ge HI0.out)) | exact HB.out), hh_ HK⟩
     ·rw [if_neg c52] at H
      have c52b0 : (t147 == 1) = false := beq_eq_false_iff_ne.mpr c52
      have c52b1 : (t147 != 1) = true := bne_iff_ne.mpr c52
      simp only [Option.some.injEq, Prod.mk.injEq] at H
      obtain ⟨rfl, rfl, rfl, rfl⟩ := H
      go_wp2_with (first | ((with_reducible refine gate_callee (f := 23) rfl ?_); refine goesL_ (some 40) rfl rfl Try.func23 (by kernel_rfl) rfl #[.pointer (some ⟨g, 0, none⟩), .int .i64 24] rfl aR_ ?_; (with_reducible refine (spec_l1Cur_pick.calls g s0_0 x1001_1 x1002_1 24 t147 t148 t149 w0 _ ?side1 ?side2 A42.out).mono ?_); (case side1 => exact ss_ HI0); (case side2 => repeat (first | (with_reducible first | exact HB.out | apply bA_ | apply pN_ | apply bD_ | refine bS_ ?_ (IsS46.ge HI0.out)) | exact HB.out)); rintro e w59 ⟨rfl, hi, hb, hk⟩; refine ⟨_, rfl, ?_⟩; replace HO_5 := aS_ (Kd.R_mono (Kd.R_keep (IsS46.apart (show IsS46 w0 _ g s0_0 x1001_1 x1002_1 from ss_ HI0) (rr_ HO_5) (by decide)) hk (fun _ h => h.2)) (fun _ h => h.1)); replace HK := aS_ (KeepBut.trans (hh_ HK) hk (.inl rfl)); replace HB := aS_ (hb); replace HI0 := aS_ (hi); (try clear hb); (try clear hk); (try clear hi)))
      go_ret2
      exact ⟨_, by first | rfl | (simp [errW_none, errW_some] <;> rfl) | (simp [*, errW_none, errW_some] <;> rfl), rr_ HO_5, ss_ HI0, by repeat (first | (with_reducible first | exact HB.out | apply bA_ | apply pN_ | apply bD_ | refine bS_ ?_ (IsS46.ge HI0.out)) | exact HB.out), hh_ HK⟩
/-! ### spec_l1In: function 60 -/
def spec_l1In.f (a0 : Int) (a1 : Int) (a2 : Int) : Option (Bool) := if a0 ≥ a1 then (some (decide (a0 ≤ a2))) else (some false)
set_option maxHeartbeats 8000000 in
set_option maxRecDepth 100000 in
theorem spec_l1In.calls (a0 : Int) (a1 : Int) (a2 : Int) (r : Bool) (w : World) (h : spec_l1In.f a0 a1 a2 = some r) :
  Calls Try.prog 60 #[.int .i64 a0, .int .i64 a1, .int .i64 a2] w fun e w' => e = .returned (.bool r) ∧ Drawn0 w w' := by
 have H : (if a0 ≥ a1 then (some (decide (a0 ≤ a2))) else (some false)) = some r := h
 clear h
 by_cases c4 : a0 ≥ a1
 ·rw [if_pos c4] at H
  have c4b0 : decide (a1 ≤ a0) = true := decide_eq_true c4
  clear c4
  obtain rfl := Option.some.inj H
  go_enter Try.func60, Try.ntmps60
  go_wp2
  go_ret
  exact ⟨sR_, by repeat (first | exact Drawn0.refl _ | apply Drawn0.step)⟩
 ·rw [if_neg c4] at H
  have c4b0 : decide (a1 ≤ a0) = false := decide_eq_false c4
  clear c4
  obtain rfl := Option.some.inj H
  go_enter Try.func60, Try.ntmps60
  go_wp2
  go_ret
  exact ⟨sR_, by repeat (first | exact Drawn0.refl _ | apply Drawn0.step)⟩
/-! ### spec_l1All: function 61 -/
def spec_l1All.l0 : Nat → Int → Int → List Int → Int → Int → Option (Bool)
 | 0, _, _, _, _, _ => none
 | k + 1, x1, x2, x9, x10, x11 => if x11 < x10 then (if 0 ≤ x11 then (if x11 < (x9.length : Int) then ((spec_l1In.f (rd x9 x11) x1 x2).bind fun t166 => (if t166 = true then (spec_l1All.l0 k x1 x2 x9 x10 (wrap64 (x11 + 1))) else (some false))) else (none)) else (none)) else (some true)
def spec_l1All.f (k : Nat) (l0 : List Int) (a1 : Int) (a2 : Int) : Option (Bool) := spec_l1All.l0 k a1 a2 l0 (l0.length : Int) 0
theorem spec_l1All.mono_l : ∀ k, (∀ y0 y1 y2 y3 y4, LeO (spec_l1All.l0 k y0 y1 y2 y3 y4) (spec_l1All.l0 (k + 1) y0 y1 y2 y3 y4))
 | 0 => fun _ _ _ _ _ r h => by simp [spec_l1All.l0] at h
 | k + 1 => by
  have ih0 := spec_l1All.mono_l k
  ·intro y0 y1 y2 y3 y4
   unfold spec_l1All.l0
   repeat' first
   | (with_reducible exact ih0 _ _ _ _ _)
   | (with_reducible exact LeO.refl _)
   | (with_reducible exact LeO.none _)
   | (with_reducible refine LeO.ite ?_ ?_)
   | (with_reducible refine LeO.bind ?_ (fun _ => ?_))
   | exact ih0 _ _ _ _ _
   | exact LeO.none _
   | refine LeO.ite ?_ ?_
   | refine LeO.bind ?_ (fun _ => ?_)
theorem spec_l1All.mono : ∀ a0 a1 a2 k, LeO (spec_l1All.f k a0 a1 a2) (spec_l1All.f (k + 1) a0 a1 a2) := by
 intro a0 a1 a2 k
 have ih0 := spec_l1All.mono_l k
 unfold spec_l1All.f
 repeat' first
   | (with_reducible exact ih0 _ _ _ _ _)
   | (with_reducible exact LeO.refl _)
   | (with_reducible exact LeO.none _)
   | (with_reducible refine LeO.ite ?_ ?_)
   | (with_reducible refine LeO.bind ?_ (fun _ => ?_))
   | exact ih0 _ _ _ _ _
   | exact LeO.none _
   | refine LeO.ite ?_ ?_
   | refine LeO.bind ?_ (fun _ => ?_)
set_option maxHeartbeats 8000000 in
set_option maxRecDepth 100000 in
theorem spec_l1All.calls (k : Nat) (A0 : Option Addr) (c0 : Nat) (l0 : List Int) (a1 : Int) (a2 : Int) (r : Bool) (w : World) (hr0 : Kd.C (Kd.int .i64) w A0 l0.length l0) (hc0 : l0.length ≤ c0) (h : spec_l1All.f k l0 a1 a2 = some r) :
  Calls Try.prog 61 #[.slice A0 l0.length c0, .int .i64 a1, .int .i64 a2] w fun e w' => e = .returned (.bool r) ∧ Drawn0 w w' := by
 have HR0 := aS_ hr0
 have HC0 := aS_ hc0
 clear hr0 hc0
 have H : (spec_l1All.l0 k a1 a2 l0 (l0.length : Int) 0) = some r := h
 clear h
 have H' := aS_ H
 clear H
 go_enter Try.func61, Try.ntmps61
 go_wp2
 go_loopg [11] k (fun kq v11 w' => ∃ (x11_1 : Int), v11 = .int .i64 x11_1 ∧ Aside0 (spec_l1All.l0 kq a1 a2 l0 (l0.length : Int) x11_1 = some r) ∧ Aside0 (kq ≤ k) ∧ Drawn0 w w')
 case atStart => exact ⟨(0), sR_, H', ⟨Nat.le_refl _⟩, by repeat (first | exact Drawn0.refl _ | apply Drawn0.step)⟩
 case round =>
  clear H'
  try clear p2
  obtain ⟨x11_1, rfl, HA, HK1, ⟨m1, rfl⟩⟩ := hrel
  cases gk with
  | zero => exact absurd HA.out (by simp [spec_l1All.l0])
  | succ k1 =>
   have H := HA.out
   clear HA
   simp only [spec_l1All.l0] at H
   by_cases c4 : x11_1 < (l0.length : Int)
   ·rw [if_pos c4] at H
    have c4b0 : decide (x11_1 < (l0.length : Int)) = true := decide_eq_true c4
    clear c4
    by_cases c5 : 0 ≤ x11_1
    ·rw [if_pos c5] at H
     have c5b0 : decide (0 ≤ x11_1) = true := decide_eq_true c5
     clear c5
     by_cases c6 : x11_1 < (l0.length : Int)
     ·rw [if_pos c6] at H
      have c6b0 : decide (x11_1 < (l0.length : Int)) = true := decide_eq_true c6
      clear c6
      replace H := Option.bind_eq_some_iff.mp H
      obtain ⟨t166, A70, H⟩ := H
      have A7 := aS_ A70
      clear A70
      by_cases c8 : t166 = true
      ·subst c8
       rw [if_pos rfl] at H
       have H' := aS_ H
       clear H
       have p165 : 0 ≤ (x11_1 : Int) := of_decide_eq_true (by assumption)
       have q165 : x11_1 < (l0.length : Int) := of_decide_eq_true (by assumption)
       obtain ⟨ad165, e165, hx165_0⟩ := Kd.at_int HR0.out x11_1 p165 q165
       cases e165
       replace p165 := eq_true p165
       replace q165 := eq_true q165
       go_wp2_with (first | ((with_reducible refine gate_callee (f := 60) rfl ?_); refine goesL_ (some 18) rfl rfl Try.func60 (by kernel_rfl) rfl #[.int .i64 (rd l0 x11_1), .int .i64 a1, .int .i64 a2] rfl aR_ ?_; (with_reducible refine (spec_l1In.calls (rd l0 x11_1) a1 a2 true _ A7.out).mono ?_); rintro e w' ⟨rfl, ⟨nd, rfl⟩⟩; refine ⟨_, rfl, ?_⟩))
       go_roundg k1
       case measure => have := HK1.out; omega
       case rel => exact ⟨(wrap64 (x11_1 + 1)), sR_, H', ⟨by have := HK1.out; omega⟩, by repeat (first | exact Drawn0.refl _ | apply Drawn0.step)⟩
      ·replace c8 := Bool.eq_false_iff.mpr c8
       subst c8
       rw [if_neg (show ¬ (false = true) by decide)] at H
       obtain rfl := Option.some.inj H
       have p165 : 0 ≤ (x11_1 : Int) := of_decide_eq_true (by assumption)
       have q165 : x11_1 < (l0.length : Int) := of_decide_eq_true (by assumption)
       obtain ⟨ad165, e165, hx165_0⟩ := Kd.at_int HR0.out x11_1 p165 q165
       cases e165
       replace p165 := eq_true p165
       replace q165 := eq_true q165
       go_wp2_with (first | ((with_reducible refine gate_callee (f := 60) rfl ?_); refine goesL_ (some 18) rfl rfl Try.func60 (by kernel_rfl) rfl #[.int .i64 (rd l0 x11_1), .int .i64 a1, .int .i64 a2] rfl aR_ ?_; (with_reducible refine (spec_l1In.calls (rd l0 x11_1) a1 a2 false _ A7.out).mono ?_); rintro e w' ⟨rfl, ⟨nd, rfl⟩⟩; refine ⟨_, rfl, ?_⟩))
       go_ret
       exact ⟨sR_, by repeat (first | exact Drawn0.refl _ | apply Drawn0.step)⟩
     ·rw [if_neg c6] at H
      exact absurd H (by simp)
    ·rw [if_neg c5] at H
     exact absurd H (by simp)
   ·rw [if_neg c4] at H
    have c4b0 : decide (x11_1 < (l0.length : Int)) = false := decide_eq_false c4
    clear c4
    obtain rfl := Option.some.inj H
    go_wp2
    go_ret
    exact ⟨sR_, by repeat (first | exact Drawn0.refl _ | apply Drawn0.step)⟩
/-! ### spec_prSize: function 69 -/
def spec_prSize.f (a0 : Int) : Option (Bool) := (spec_l1In.f a0 2 12).bind fun t167 => (some t167)
set_option maxHeartbeats 8000000 in
set_option maxRecDepth 100000 in
theorem spec_prSize.calls (a0 : Int) (r : Bool) (w : World) (h : spec_prSize.f a0 = some r) :
  Calls Try.prog 69 #[.int .i64 a0] w fun e w' => e = .returned (.bool r) ∧ Drawn0 w w' := by
 have H : ((spec_l1In.f a0 2 12).bind fun t167 => (some t167)) = some r := h
 clear h
 replace H := Option.bind_eq_some_iff.mp H
 obtain ⟨t167, A20, H⟩ := H
 have A2 := aS_ A20
 clear A20
 obtain rfl := Option.some.inj H
 go_enter Try.func69, Try.ntmps69
 go_wp2_with (first | ((with_reducible refine gate_callee (f := 60) rfl ?_); refine goesL_ (some 4) rfl rfl Try.func60 (by kernel_rfl) rfl #[.int .i64 a0, .int .i64 2, .int .i64 12] rfl aR_ ?_; (with_reducible refine (spec_l1In.calls a0 2 12 t167 _ A2.out).mono ?_); rintro e w' ⟨rfl, ⟨nd, rfl⟩⟩; refine ⟨_, rfl, ?_⟩))
 go_ret
 exact ⟨sR_, by repeat (first | exact Drawn0.refl _ | apply Drawn0.step)⟩
/-! ### spec_prKeys: function 49 -/
mutual
def spec_prKeys.j0 : Nat → List Int → Bool → Option (Bool)
 | 0, _, _ => none
 | k + 1, x1, x20 => if x20 = true then (some false) else (spec_prKeys.l0 k x1 x1 (x1.length : Int) 0)
def spec_prKeys.l0 : Nat → List Int → List Int → Int → Int → Option (Bool)
 | 0, _, _, _, _ => none
 | k + 1, x1, x21, x22, x23 => if x23 < x22 then (if 0 ≤ x23 then (if x23 < (x21.length : Int) then (if x23 ≤ (x1.length : Int) then ((spec_l1Has.f k (x1.take (x23 : Int).toNat) (rd x21 x23)).bind fun t172 => (if t172 = true then (some false) else (spec_prKeys.l0 k x1 x21 x22 (wrap64 (x23 + 1))))) else (none)) else (none)) else (none)) else (some true)
end
def spec_prKeys.f (k : Nat) (a0 : Int) (l1 : List Int) : Option (Bool) := (spec_prSize.f a0).bind fun t168 => (if t168 = true then (if (l1.length : Int) ≥ a0 then (spec_prKeys.j0 k l1 true) else ((spec_l1All.f k l1 0 999).bind fun t169 => (spec_prKeys.j0 k l1 (!t169)))) else (spec_prKeys.j0 k l1 true))
theorem spec_prKeys.mono_l : ∀ k, (∀ y0 y1, LeO (spec_prKeys.j0 k y0 y1) (spec_prKeys.j0 (k + 1) y0 y1)) ∧ (∀ y0 y1 y2 y3, LeO (spec_prKeys.l0 k y0 y1 y2 y3) (spec_prKeys.l0 (k + 1) y0 y1 y2 y3))
 | 0 => ⟨fun _ _ r h => by simp [spec_prKeys.j0] at h, fun _ _ _ _ r h => by simp [spec_prKeys.l0] at h⟩
 | k + 1 => by
  obtain ⟨ih0, ih1⟩ := spec_prKeys.mono_l k
  refine ⟨?_, ?_⟩
  ·intro y0 y1
   unfold spec_prKeys.j0
   repeat' first
   | (with_reducible exact ih0 _ _)
   | (with_reducible exact ih1 _ _ _ _)
   | (with_reducible exact spec_l1All.mono _ _ _ _)
   | (with_reducible exact spec_l1Has.mono _ _ _)
   | (with_reducible exact LeO.refl _)
   | (with_reducible exact LeO.none _)
   | (with_reducible refine LeO.ite ?_ ?_)
   | (with_reducible refine LeO.bind ?_ (fun _ => ?_))
   | exact ih0 _ _
   | exact ih1 _ _ _ _
   | exact spec_l1All.mono _ _ _ _
   | exact spec_l1Has.mono _ _ _
   | exact LeO.none _
   | refine LeO.ite ?_ ?_
   | refine LeO.bind ?_ (fun _ => ?_)
  ·intro y0 y1 y2 y3
   unfold spec_prKeys.l0
   repeat' first
   | (with_reducible exact ih0 _ _)
   | (with_reducible exact ih1 _ _ _ _)
   | (with_reducible exact spec_l1All.mono _ _ _ _)
   | (with_reducible exact spec_l1Has.mono _ _ _)
   | (with_reducible exact LeO.refl _)
   | (with_reducible exact LeO.none _)
   | (with_reducible refine LeO.ite ?_ ?_)
   | (with_reducible refine LeO.bind ?_ (fun _ => ?_))
   | exact ih0 _ _
   | exact ih1 _ _ _ _
   | exact spec_l1All.mono _ _ _ _
   | exact spec_l1Has.mono _ _ _
   | exact LeO.none _
   | refine LeO.ite ?_ ?_
   | refine LeO.bind ?_ (fun _ => ?_)
theorem spec_prKeys.mono : ∀ a0 a1 k, LeO (spec_prKeys.f k a0 a1) (spec_prKeys.f (k + 1) a0 a1) := by
 intro a0 a1 k
 obtain ⟨ih0, ih1⟩ := spec_prKeys.mono_l k
 unfold spec_prKeys.f
 repeat' first
   | (with_reducible exact ih0 _ _)
   | (with_reducible exact ih1 _ _ _ _)
   | (with_reducible exact spec_l1All.mono _ _ _ _)
   | (with_reducible exact spec_l1Has.mono _ _ _)
   | (with_reducible exact LeO.refl _)
   | (with_reducible exact LeO.none _)
   | (with_reducible refine LeO.ite ?_ ?_)
   | (with_reducible refine LeO.bind ?_ (fun _ => ?_))
   | exact ih0 _ _
   | exact ih1 _ _ _ _
   | exact spec_l1All.mono _ _ _ _
   | exact spec_l1Has.mono _ _ _
   | exact LeO.none _
   | refine LeO.ite ?_ ?_
   | refine LeO.bind ?_ (fun _ => ?_)
set_option maxHeartbeats 8000000 in
set_option maxRecDepth 100000 in
theorem spec_prKeys.calls (k : Nat) (a0 : Int) (A1 : Option Addr) (c1 : Nat) (l1 : List Int) (r : Bool) (w : World) (hr1 : Kd.C (Kd.int .i64) w A1 l1.length l1) (hc1 : l1.length ≤ c1) (h : spec_prKeys.f k a0 l1 = some r) :
  Calls Try.prog 49 #[.int .i64 a0, .slice A1 l1.length c1] w fun e w' => e = .returned (.bool r) ∧ Drawn0 w w' := by
 have HR1 := aS_ hr1
 have HC1 := aS_ hc1
 clear hr1 hc1
 have H : ((spec_prSize.f a0).bind fun t168 => (if t168 = true then (if (l1.length : Int) ≥ a0 then (spec_prKeys.j0 k l1 true) else ((spec_l1All.f k l1 0 999).bind fun t169 => (spec_prKeys.j0 k l1 (!t169)))) else (spec_prKeys.j0 k l1 true))) = some r := h
 clear h
 have HC3 := aS_ H
 clear H
 go_enter Try.func49, Try.ntmps49
 go_upto_region 1 with (fail)
 go_cut [20] (fun v20 wc => ∃ (kq : Nat) (x20_2 : Bool), v20 = .bool x20_2 ∧ Aside0 (spec_prKeys.j0 kq l1 x20_2 = some r) ∧ Aside0 (kq ≤ k) ∧ Drawn0 w wc)
 case first =>
  have H := HC3.out
  clear HC3
  replace H := Option.bind_eq_some_iff.mp H
  obtain ⟨t168, A40, H⟩ := H
  have A4 := aS_ A40
  clear A40
  by_cases c5 : t168 = true
  ·subst c5
   rw [if_pos rfl] at H
   by_cases c6 : (l1.length : Int) ≥ a0
   ·rw [if_pos c6] at H
    have c6b0 : decide (a0 ≤ (l1.length : Int)) = true := decide_eq_true c6
    clear c6
    (first | rw [c6b0] | (simp only [i64_w, i32_w]; rw [c6b0]) | skip)
    have H' := aS_ H
    clear H
    go_wp2_with (first | ((with_reducible refine gate_callee (f := 69) rfl ?_); refine goesL_ (some 8) rfl rfl Try.func69 (by kernel_rfl) rfl #[.int .i64 a0] rfl aR_ ?_; (with_reducible refine (spec_prSize.calls a0 true _ A4.out).mono ?_); rintro e w' ⟨rfl, ⟨nd, rfl⟩⟩; refine ⟨_, rfl, ?_⟩))
    go_meet
    case rel => exact ⟨_, (true), sR_, H', ⟨by first | omega | exact Nat.le_refl _⟩, by repeat (first | exact Drawn0.refl _ | apply Drawn0.step)⟩
   ·rw [if_neg c6] at H
    have c6b0 : decide (a0 ≤ (l1.length : Int)) = false := decide_eq_false c6
    clear c6
    (first | rw [c6b0] | (simp only [i64_w, i32_w]; rw [c6b0]) | skip)
    replace H := Option.bind_eq_some_iff.mp H
    obtain ⟨t169, A70, H⟩ := H
    have A7 := aS_ A70
    clear A70
    have H' := aS_ H
    clear H
    go_wp2_with (first | ((with_reducible refine gate_callee (f := 69) rfl ?_); refine goesL_ (some 8) rfl rfl Try.func69 (by kernel_rfl) rfl #[.int .i64 a0] rfl aR_ ?_; (with_reducible refine (spec_prSize.calls a0 true _ A4.out).mono ?_); rintro e w' ⟨rfl, ⟨nd, rfl⟩⟩; refine ⟨_, rfl, ?_⟩) | (go_at_call 61; (with_reducible refine (spec_l1All.calls k _ _ l1 0 999 t169 _ ?side1 ?side2 A7.out).mono ?_); (case side1 => repeat (first | exact HR1.out | (with_reducible refine Kd.C_alloc ?_ _) | (with_reducible refine Kd.C_drewN ?_ _) | (with_reducible refine Kd.C_drew ?_))); (case side2 => exact HC1.out); rintro e w' ⟨rfl, ⟨nd, rfl⟩⟩))
    go_meet
    case rel => exact ⟨_, (!t169), sR_, H', ⟨by first | omega | exact Nat.le_refl _⟩, by repeat (first | exact Drawn0.refl _ | apply Drawn0.step)⟩
  ·replace c5 := Bool.eq_false_iff.mpr c5
   subst c5
   rw [if_neg (show ¬ (false = true) by decide)] at H
   have H' := aS_ H
   clear H
   go_wp2_with (first | ((with_reducible refine gate_callee (f := 69) rfl ?_); refine goesL_ (some 8) rfl rfl Try.func69 (by kernel_rfl) rfl #[.int .i64 a0] rfl aR_ ?_; (with_reducible refine (spec_prSize.calls a0 false _ A4.out).mono ?_); rintro e w' ⟨rfl, ⟨nd, rfl⟩⟩; refine ⟨_, rfl, ?_⟩))
   go_meet
   case rel => exact ⟨_, (true), sR_, H', ⟨by first | omega | exact Nat.le_refl _⟩, by repeat (first | exact Drawn0.refl _ | apply Drawn0.step)⟩
 case rest =>
  clear HC3
  try clear c1
  try clear p2
  try clear c4
  try clear c5
  try clear c6
  try clear c6b0
  obtain ⟨kq, x20_2, rfl, HA, HJ2, ⟨mc2, rfl⟩⟩ := hcut
  cases kq with
  | zero => exact absurd HA.out (by simp [spec_prKeys.j0])
  | succ kj2 =>
   have H := HA.out
   clear HA
   simp only [spec_prKeys.j0] at H
   by_cases c8 : x20_2 = true
   ·subst c8
    rw [if_pos rfl] at H
    obtain rfl := Option.some.inj H
    go_wp2
    go_ret
    exact ⟨sR_, by repeat (first | exact Drawn0.refl _ | apply Drawn0.step)⟩
   ·replace c8 := Bool.eq_false_iff.mpr c8
    subst c8
    rw [if_neg (show ¬ (false = true) by decide)] at H
    have H' := aS_ H
    clear H
    go_wp2
    go_loopg [23] kj2 (fun kq v23 w' => ∃ (x23_2 : Int), v23 = .int .i64 x23_2 ∧ Aside0 (spec_prKeys.l0 kq l1 l1 (l1.length : Int) x23_2 = some r) ∧ Aside0 (kq ≤ kj2) ∧ Drawn0 w w')
    case atStart => exact ⟨(0), sR_, H', ⟨Nat.le_refl _⟩, by repeat (first | exact Drawn0.refl _ | apply Drawn0.step)⟩
    case round =>
     clear H'
     try clear c1
     try clear c2
     try clear p2
     try clear c4
     try clear c5
     try clear c6
     try clear c6b0
     try clear c8
     try clear p2
     obtain ⟨x23_2, rfl, HA, HK2, ⟨m2, rfl⟩⟩ := hrel
     cases gk with
     | zero => exact absurd HA.out (by simp [spec_prKeys.l0])
     | succ k2 =>
      have H := HA.out
      clear HA
      simp only [spec_prKeys.l0] at H
      by_cases c9 : x23_2 < (l1.length : Int)
      ·rw [if_pos c9] at H
       have c9b0 : decide (x23_2 < (l1.length : Int)) = true := decide_eq_true c9
       clear c9
       by_cases c10 : 0 ≤ x23_2
       ·rw [if_pos c10] at H
        have c10b0 : decide (0 ≤ x23_2) = true := decide_eq_true c10
        clear c10
        by_cases c11 : x23_2 < (l1.length : Int)
        ·rw [if_pos c11] at H
         have c11b0 : decide (x23_2 < (l1.length : Int)) = true := decide_eq_true c11
         clear c11
         have c12b0 := eq_true (of_decide_eq_true (by assumption) : 0 ≤ x23_2)
         by_cases c13 : x23_2 ≤ (l1.length : Int)
         ·rw [if_pos c13] at H
          have c13b0 := eq_true c13
          have c13b1 : decide (x23_2 ≤ (l1.length : Int)) = true := decide_eq_true c13
          clear c13
          replace H := Option.bind_eq_some_iff.mp H
          obtain ⟨t172, A140, H⟩ := H
          have A14 := aS_ A140
          clear A140
          by_cases c15 : t172 = true
          ·subst c15
           rw [if_pos rfl] at H
           obtain rfl := Option.some.inj H
           have p170 : 0 ≤ (x23_2 : Int) := of_decide_eq_true (by assumption)
           have q170 : x23_2 < (l1.length : Int) := of_decide_eq_true (by assumption)
           obtain ⟨ad170, e170, hx170_0⟩ := Kd.at_int HR1.out x23_2 p170 q170
           cases e170
           replace p170 := eq_true p170
           replace q170 := eq_true q170
           obtain ⟨i016, hi016, _, hsz16, _⟩ := info_parts info3
           obtain ⟨hcut16, hA16, hC16⟩ := print_take_of (P := Try.prog) (Value.int .i64) 0 24 3 .i64 Try.underlying24 hi016 hsz16 (some ad170) c1 l1 x23_2 (of_decide_eq_true (by assumption)) (of_decide_eq_true (by assumption)) HC1.out
           have HR171 := aS_ (Kd.C_of_reads (h1 := fun _ => rfl) (hA16 _ (Kd.reads_of_C HR1.out)))
           have HC171 := aS_ hC16
           clear hA16 hC16 hi016 hsz16
           go_wp2_with (first | ((with_reducible refine gate_callee (f := 33) rfl ?_); refine goesL_ (some 32) rfl rfl Try.func33 (by kernel_rfl) rfl #[.slice (some ad170) (l1.take (x23_2 : Int).toNat).length c1, .int .i64 (rd l1 x23_2)] rfl (by (try simp only [List.map_toArray, List.map_cons, List.map_nil]); first | done | (rw [show (l1.take (x23_2 : Int).toNat).length = x23_2.toNat from (by rw [List.length_take]; have h_ : (x23_2 : Int) ≤ (l1.length : Int) := of_decide_eq_true (by assumption); omega)] <;> rfl) | rfl | (simp only [List.length_drop, List.length_take]; rfl)) ?_; (refine' calls_args ?ha_ ((spec_l1Has.calls k2 _ _ (l1.take (x23_2 : Int).toNat) (rd l1 x23_2) true _ ?side1 ?side2 A14.out).mono ?_)); (case ha_ => first | rfl | (rw [List.length_take, Nat.min_eq_left (by have q_ : x23_2 ≤ (l1.length : Int) := of_decide_eq_true (by assumption); omega)]) | (rw [List.length_take, Nat.min_eq_left (by omega)])); (case side1 => repeat (first | exact HR171.out | (with_reducible refine Kd.C_alloc ?_ _) | (with_reducible refine Kd.C_drewN ?_ _) | (with_reducible refine Kd.C_drew ?_))); (case side2 => exact HC171.out); rintro e w' ⟨rfl, ⟨nd, rfl⟩⟩; refine ⟨_, rfl, ?_⟩))
           go_ret
           exact ⟨sR_, by repeat (first | exact Drawn0.refl _ | apply Drawn0.step)⟩
          ·replace c15 := Bool.eq_false_iff.mpr c15
           subst c15
           rw [if_neg (show ¬ (false = true) by decide)] at H
           have H' := aS_ H
           clear H
           have p170 : 0 ≤ (x23_2 : Int) := of_decide_eq_true (by assumption)
           have q170 : x23_2 < (l1.length : Int) := of_decide_eq_true (by assumption)
           obtain ⟨ad170, e170, hx170_0⟩ := Kd.at_int HR1.out x23_2 p170 q170
           cases e170
           replace p170 := eq_true p170
           replace q170 := eq_true q170
           obtain ⟨i017, hi017, _, hsz17, _⟩ := info_parts info3
           obtain ⟨hcut17, hA17, hC17⟩ := print_take_of (P := Try.prog) (Value.int .i64) 0 24 3 .i64 Try.underlying24 hi017 hsz17 (some ad170) c1 l1 x23_2 (of_decide_eq_true (by assumption)) (of_decide_eq_true (by assumption)) HC1.out
           have HR171 := aS_ (Kd.C_of_reads (h1 := fun _ => rfl) (hA17 _ (Kd.reads_of_C HR1.out)))
           have HC171 := aS_ hC17
           clear hA17 hC17 hi017 hsz17
           go_wp2_with (first | ((with_reducible refine gate_callee (f := 33) rfl ?_); refine goesL_ (some 32) rfl rfl Try.func33 (by kernel_rfl) rfl #[.slice (some ad170) (l1.take (x23_2 : Int).toNat).length c1, .int .i64 (rd l1 x23_2)] rfl (by (try simp only [List.map_toArray, List.map_cons, List.map_nil]); first | done | (rw [show (l1.take (x23_2 : Int).toNat).length = x23_2.toNat from (by rw [List.length_take]; have h_ : (x23_2 : Int) ≤ (l1.length : Int) := of_decide_eq_true (by assumption); omega)] <;> rfl) | rfl | (simp only [List.length_drop, List.length_take]; rfl)) ?_; (refine' calls_args ?ha_ ((spec_l1Has.calls k2 _ _ (l1.take (x23_2 : Int).toNat) (rd l1 x23_2) false _ ?side1 ?side2 A14.out).mono ?_)); (case ha_ => first | rfl | (rw [List.length_take, Nat.min_eq_left (by have q_ : x23_2 ≤ (l1.length : Int) := of_decide_eq_true (by assumption); omega)]) | (rw [List.length_take, Nat.min_eq_left (by omega)])); (case side1 => repeat (first | exact HR171.out | (with_reducible refine Kd.C_alloc ?_ _) | (with_reducible refine Kd.C_drewN ?_ _) | (with_reducible refine Kd.C_drew ?_))); (case side2 => exact HC171.out); rintro e w' ⟨rfl, ⟨nd, rfl⟩⟩; refine ⟨_, rfl, ?_⟩))
           go_roundg k2
           case measure => have := HJ2.out; have := HK2.out; omega
           case rel => exact ⟨(wrap64 (x23_2 + 1)), sR_, H', ⟨by have := HJ2.out; have := HK2.out; omega⟩, by repeat (first | exact Drawn0.refl _ | apply Drawn0.step)⟩
         ·rw [if_neg c13] at H
          exact absurd H (by simp)
        ·rw [if_neg c11] at H
         exact absurd H (by simp)
       ·rw [if_neg c10] at H
        exact absurd H (by simp)
      ·rw [if_neg c9] at H
       have c9b0 : decide (x23_2 < (l1.length : Int)) = false := decide_eq_false c9
       clear c9
       obtain rfl := Option.some.inj H
       go_wp2
       go_ret
       exact ⟨sR_, by repeat (first | exact Drawn0.refl _ | apply Drawn0.step)⟩
/-! ### spec_prInsert: function 36 -/
def spec_prInsert.l0 : Nat → List Int → Int → Int → Option (Int × List Int)
 | 0, _, _, _ => none
 | k + 1, x0, x1, x5 => if 0 ≤ x5 then (if x5 < (x0.length : Int) then (if (rd x0 x5) = (-1) then (some (x5, (x0.set (x5 : Int).toNat x1))) else (if (x0.length : Int) = 0 then (none) else (spec_prInsert.l0 k x0 x1 (Int.tmod (wrap64 (x5 + 1)) (x0.length : Int))))) else (none)) else (none)
def spec_prInsert.f (k : Nat) (l0 : List Int) (a1 : Int) : Option (Int × List Int) := if (l0.length : Int) = 0 then (none) else (spec_prInsert.l0 k l0 a1 (Int.tmod a1 (l0.length : Int)))
theorem spec_prInsert.mono_l : ∀ k, (∀ y0 y1 y2, LeO (spec_prInsert.l0 k y0 y1 y2) (spec_prInsert.l0 (k + 1) y0 y1 y2))
 | 0 => fun _ _ _ r h => by simp [spec_prInsert.l0] at h
 | k + 1 => by
  have ih0 := spec_prInsert.mono_l k
  ·intro y0 y1 y2
   unfold spec_prInsert.l0
   repeat' first
   | (with_reducible exact ih0 _ _ _)
   | (with_reducible exact LeO.refl _)
   | (with_reducible exact LeO.none _)
   | (with_reducible refine LeO.ite ?_ ?_)
   | (with_reducible refine LeO.bind ?_ (fun _ => ?_))
   | exact ih0 _ _ _
   | exact LeO.none _
   | refine LeO.ite ?_ ?_
   | refine LeO.bind ?_ (fun _ => ?_)
theorem spec_prInsert.mono : ∀ a0 a1 k, LeO (spec_prInsert.f k a0 a1) (spec_prInsert.f (k + 1) a0 a1) := by
 intro a0 a1 k
 have ih0 := spec_prInsert.mono_l k
 unfold spec_prInsert.f
 repeat' first
   | (with_reducible exact ih0 _ _ _)
   | (with_reducible exact LeO.refl _)
   | (with_reducible exact LeO.none _)
   | (with_reducible refine LeO.ite ?_ ?_)
   | (with_reducible refine LeO.bind ?_ (fun _ => ?_))
   | exact ih0 _ _ _
   | exact LeO.none _
   | refine LeO.ite ?_ ?_
   | refine LeO.bind ?_ (fun _ => ?_)
set_option maxHeartbeats 8000000 in
set_option maxRecDepth 100000 in
theorem spec_prInsert.calls (k : Nat) (P0_ : Nat → Prop) (u9000_ : Value) (l0 : List Int) (a1 : Int) (r1 : Int) (r2 : List Int) (w0 w : World) (hB : Below w0.heap.size w0 w) (ho0 : Kd.R (Kd.int .i64) 3 w w0.heap.size P0_ u9000_ l0) (h : spec_prInsert.f k l0 a1 = some (r1, r2)) :
  Calls Try.prog 36 #[u9000_, .int .i64 a1] w fun e w' => e = .returned (.int .i64 r1) ∧ Kd.R (Kd.int .i64) 3 w' w0.heap.size (fun k_ => (P0_ k_ ∨ w.heap.size ≤ k_)) u9000_ r2 ∧ Below w0.heap.size w0 w' ∧ Kept w w' (fun k_ => P0_ k_) := by
 have HO0 := aS_ (show Kd.R (Kd.int .i64) 3 w w0.heap.size (fun k_ => (P0_ k_ ∨ w.heap.size ≤ k_)) u9000_ l0 from Kd.R_mono ho0 (fun k_ hk => (.inl hk)))
 have HK := aS_ (Kept.refl w (fun k_ => P0_ k_))
 have HW0 := aS_ hB.size
 have HB := aS_ hB
 clear hB
 have H : (if (l0.length : Int) = 0 then (none) else (spec_prInsert.l0 k l0 a1 (Int.tmod a1 (l0.length : Int)))) = some (r1, r2) := h
 clear h
 by_cases c3 : (l0.length : Int) = 0
 ·rw [if_pos c3] at H
  exact absurd H (by simp)
 ·rw [if_neg c3] at H
  have c3b0 : ((l0.length : Int) == 0) = false := beq_eq_false_iff_ne.mpr c3
  have c3b1 : ((l0.length : Int) != 0) = true := bne_iff_ne.mpr c3
  have c3b2 : ¬ (l0 = []) := fun h_ => c3 (by rw [h_]; rfl)
  have H' := aS_ H
  clear H
  obtain ⟨Ao4, co4, eo4⟩ := Kd.R_slice HO0.out
  subst eo4
  go_enter Try.func36, Try.ntmps36
  go_wp2
  go_loopg [5] k (fun kq v5 w' => ∃ (x5_1 : Int), v5 = .int .i64 x5_1 ∧ Aside0 (spec_prInsert.l0 kq l0 a1 x5_1 = some (r1, r2)) ∧ Aside0 (kq ≤ k) ∧ Aside0 (Kd.R (Kd.int .i64) 3 w' w0.heap.size (fun k_ => (P0_ k_ ∨ w.heap.size ≤ k_)) (.slice Ao4 l0.length co4) l0) ∧ Aside0 (Kept w w' (fun k_ => P0_ k_)) ∧ Aside0 (Below w0.heap.size w0 w'))
  case atStart => exact ⟨(Int.tmod a1 (l0.length : Int)), sR_, H', ⟨Nat.le_refl _⟩, ⟨rr_ HO0⟩, ⟨by repeat (first | (with_reducible first | exact HK.out | apply Kept.alloc | apply Kept.drewN | apply Kept.drew) | exact HK.out)⟩, ⟨bb_ HB⟩⟩
  case round =>
   clear H'
   try clear p2
   try clear c3
   try clear c3b0
   try clear c3b1
   try clear c3b2
   obtain ⟨x5_1, rfl, HA, HK1, HO_0, HK, HB⟩ := hrel
   cases gk with
   | zero => exact absurd HA.out (by simp [spec_prInsert.l0])
   | succ k1 =>
    have H := HA.out
    clear HA
    simp only [spec_prInsert.l0] at H
    by_cases c5 : 0 ≤ x5_1
    ·rw [if_pos c5] at H
     have c5b0 : decide (0 ≤ x5_1) = true := decide_eq_true c5
     clear c5
     by_cases c6 : x5_1 < (l0.length : Int)
     ·rw [if_pos c6] at H
      have c6b0 : decide (x5_1 < (l0.length : Int)) = true := decide_eq_true c6
      clear c6
      by_cases c7 : (rd l0 x5_1) = (-1)
      ·rw [if_pos c7] at H
       have c7b0 : ((rd l0 x5_1) == (-1)) = true := beq_iff_eq.mpr c7
       have c7b1 : ((rd l0 x5_1) != (-1)) = false := bne_eq_false_iff_eq.mpr c7
       clear c7
       obtain ⟨y174, hy174⟩ : ∃ y_ : List Int, y_ = (l0.set (x5_1 : Int).toNat a1) := ⟨_, rfl⟩
       replace H : (some (x5_1, y174)) = some (r1, r2) := by first | (rw [hy174]; with_reducible exact H) | (have H2_ := (Option.bind_some _ _).symm.trans H; rw [hy174]; with_reducible exact H2_) | (have H2_ := (Option.bind_some _ _).symm.trans H; with_reducible exact H2_) | with_reducible exact H | (rw [hy174]; exact H) | exact H
       have Ny174 := aS_ hy174
       clear hy174
       simp only [Option.some.injEq, Prod.mk.injEq] at H
       obtain ⟨rfl, rfl⟩ := H
       have p173 : 0 ≤ (x5_1 : Int) := of_decide_eq_true (by assumption)
       have q173 : x5_1 < (l0.length : Int) := of_decide_eq_true (by assumption)
       obtain ⟨ad173, e173, hx173_0⟩ := Kd.at_int (Kd.R_reads' HO_0.out).2.2 x5_1 p173 q173
       cases e173
       replace p173 := eq_true p173
       replace q173 := eq_true q173
       have p8 : 0 ≤ (x5_1 : Int) := of_decide_eq_true (by assumption)
       have q8 : (x5_1 : Int) < ((l0.length : Int) : Int) := of_decide_eq_true (by assumption)
       obtain ⟨go8, co8, eo8, gb8, gl8, cl8, HG8⟩ := Kd.R_form HO_0.out (by omega)
       (first | cases eo8 | (injection eo8 with ea_ en_ ec_; (first | subst ea_ | (injection ea_ with ea_; subst ea_)); subst ec_; clear en_))
       have GB8 := aS_ gb8
       have GG8 := aS_ HG8
       clear gb8 gl8 HG8
       have HMgo8 := aS_ (show (P0_ go8 ∨ w.heap.size ≤ go8) from (HO_0.out.1 _ rfl))
       (first | simp only [add_plain] at hx173_0 | skip)
       obtain ⟨hx8_0, hf8_0⟩ := Kd.R_celln 0 HO_0.out (x5_1 : Int) p8 q8
       replace p8 := eq_true p8
       replace q8 := eq_true q8
       have HP9 := Kd.R_putg HO_0.out (x5_1 : Int) a1
       go_wp2_with (first | ((with_reducible refine gate_store (t := 3) (p := 23) rfl ?_); refine store_event (t := 3) (p := 23) (v := ?vo_w10) (w1 := (wr.setCell ⟨go8, (x5_1 : Int).toNat, none⟩ (.int .i64 a1))) ?hg ?ho ?hn ?hr ?_; (case ho => rfl); (case hg => rfl); (case hn => rfl); (case hr => first | (go_simp; done) | (go_simp; rfl)); intro w10 hw; have hg : wr.grownBy w10 (some go8) := (by rw [hw]; exact HP9.2); have hp_ : Kd.R (Kd.int .i64) 3 w10 w0.heap.size (fun k_ => (P0_ k_ ∨ w.heap.size ≤ k_)) (.slice (some ⟨go8, 0, none⟩) l0.length co4) y174 := (by rw [hw, Ny174.out]; exact HP9.1); clear HP9; replace HB := aS_ ((by rw [hw]; exact bS_ (HB.out) GB8.out : Below w0.heap.size w0 w10)); replace HK := aS_ (Kept.of_grown (S := (fun k_ => P0_ k_)) hg (by repeat (first | (with_reducible first | exact HK.out | apply Kept.alloc | apply Kept.drewN | apply Kept.drew) | exact HK.out)) (fun k_ e_ => (HO_0.out.1 k_ e_))); replace HO_0 := aS_ (hp_); clear hg hw hp_))
       go_ret
       exact ⟨eR_, rr_ HO_0, bb_ HB, by repeat (first | (with_reducible first | exact HK.out | apply Kept.alloc | apply Kept.drewN | apply Kept.drew) | exact HK.out)⟩
      ·rw [if_neg c7] at H
       have c7b0 : ((rd l0 x5_1) == (-1)) = false := beq_eq_false_iff_ne.mpr c7
       have c7b1 : ((rd l0 x5_1) != (-1)) = true := bne_iff_ne.mpr c7
       by_cases c11 : (l0.length : Int) = 0
       ·rw [if_pos c11] at H
        exact absurd H (by simp)
       ·rw [if_neg c11] at H
        have c11b0 : ((l0.length : Int) == 0) = false := beq_eq_false_iff_ne.mpr c11
        have c11b1 : ((l0.length : Int) != 0) = true := bne_iff_ne.mpr c11
        have c11b2 : ¬ (l0 = []) := fun h_ => c11 (by rw [h_]; rfl)
        have H' := aS_ H
        clear H
        have p173 : 0 ≤ (x5_1 : Int) := of_decide_eq_true (by assumption)
        have q173 : x5_1 < (l0.length : Int) := of_decide_eq_true (by assumption)
        obtain ⟨ad173, e173, hx173_0⟩ := Kd.at_int (Kd.R_reads' HO_0.out).2.2 x5_1 p173 q173
        cases e173
        replace p173 := eq_true p173
        replace q173 := eq_true q173
        go_wp2
        go_roundg k1
        case measure => have := HK1.out; omega
        case rel => exact ⟨(Int.tmod (wrap64 (x5_1 + 1)) (l0.length : Int)), sR_, H', ⟨by have := HK1.out; omega⟩, ⟨rr_ HO_0⟩, ⟨by repeat (first | (with_reducible first | exact HK.out | apply Kept.alloc | apply Kept.drewN | apply Kept.drew) | exact HK.out)⟩, ⟨bb_ HB⟩⟩
     ·rw [if_neg c6] at H
      exact absurd H (by simp)
    ·rw [if_neg c5] at H
     exact absurd H (by simp)
/-! ### spec_prEmpty: function 70 -/
def spec_prEmpty.l0 : Nat → Int → Int → List Int → Option (List Int)
 | 0, _, _, _ => none
 | k + 1, x0, x4, x177000 => if x4 < x0 then (if x177000.length < 17592186044416 then (spec_prEmpty.l0 k x0 (wrap64 (x4 + 1)) (x177000 ++ [(-1)])) else (none)) else (some x177000)
def spec_prEmpty.f (k : Nat) (a0 : Int) : Option (List Int) := spec_prEmpty.l0 k a0 0 ([] : List Int)
theorem spec_prEmpty.mono_l : ∀ k, (∀ y0 y1 y2, LeO (spec_prEmpty.l0 k y0 y1 y2) (spec_prEmpty.l0 (k + 1) y0 y1 y2))
 | 0 => fun _ _ _ r h => by simp [spec_prEmpty.l0] at h
 | k + 1 => by
  have ih0 := spec_prEmpty.mono_l k
  ·intro y0 y1 y2
   unfold spec_prEmpty.l0
   repeat' first
   | (with_reducible exact ih0 _ _ _)
   | (with_reducible exact LeO.refl _)
   | (with_reducible exact LeO.none _)
   | (with_reducible refine LeO.ite ?_ ?_)
   | (with_reducible refine LeO.bind ?_ (fun _ => ?_))
   | exact ih0 _ _ _
   | exact LeO.none _
   | refine LeO.ite ?_ ?_
   | refine LeO.bind ?_ (fun _ => ?_)
theorem spec_prEmpty.mono : ∀ a0 k, LeO (spec_prEmpty.f k a0) (spec_prEmpty.f (k + 1) a0) := by
 intro a0 k
 have ih0 := spec_prEmpty.mono_l k
 unfold spec_prEmpty.f
 repeat' first
   | (with_reducible exact ih0 _ _ _)
   | (with_reducible exact LeO.refl _)
   | (with_reducible exact LeO.none _)
   | (with_reducible refine LeO.ite ?_ ?_)
   | (with_reducible refine LeO.bind ?_ (fun _ => ?_))
   | exact ih0 _ _ _
   | exact LeO.none _
   | refine LeO.ite ?_ ?_
   | refine LeO.bind ?_ (fun _ => ?_)
set_option maxHeartbeats 8000000 in
set_option maxRecDepth 100000 in
theorem spec_prEmpty.calls (k : Nat) (a0 : Int) (r : List Int) (w : World) (h : spec_prEmpty.f k a0 = some r) :
  Calls Try.prog 70 #[.int .i64 a0] w fun e w' => ∃ v0_ : Value, e = .returned (.agg #[v0_]) ∧ Kd.R (Kd.int .i64) 3 w' w.heap.size (fun _ => True) v0_ r ∧ Below w.heap.size w w' := by
 have hu26 := Try.underlying26
 have HB := aS_ (Below.refl w.heap.size w)
 have H : (spec_prEmpty.l0 k a0 0 ([] : List Int)) = some r := h
 clear h
 have H' := aS_ H
 clear H
 go_enter Try.func70, Try.ntmps70
 go_wp2_with (first | ((with_reducible refine gate_dst (N := 2) rfl ?_); refine box_event ?hg (N := 2) ?hd (cs := #[.slice none 0 0]) (t := 26) ?hr ?_; (case hd => rfl); (case hg => rfl); (case hr => first | (go_simp; done) | (go_simp; rfl)); intro gb175 hg w2 hbox hb; have BK175 := aS_ (hbox); have GW175 := gE_ HB hg; have GE175 := gE_ HB hg; replace HB := bE_ HB hb; clear hb hbox hg) | ((with_reducible refine gate_dst (N := 3) rfl ?_); refine box_event ?hg (N := 3) ?hd (cs := #[.slice none 0 0]) (t := 26) ?hr ?_; (case hd => rfl); (case hg => rfl); (case hr => first | (go_simp; done) | (go_simp; rfl)); intro gb176 hg w3 hbox hb; have BK176 := aS_ (hbox); have GW176 := gE_ HB hg; have GE176 := gE_ HB hg; replace HB := bE_ HB hb; have NB175_176 := nL_ BK175 hg; have NB176_175 := nG_ BK175 hg; replace BK175 := kO_ BK175 hb; clear hb hbox hg; have hnb4 := NB176_175.out; have hnc4 := NB175_176.out; have hcz5_0 : w3.cell? ⟨gb176, 0, none⟩ = some (.slice none 0 0) := (blk_cell BK176.out 0).trans rfl; have hfz5_0 := blk_frozen BK176.out 0))
 go_loopg [4] k (fun kq v4 w' => ∃ (x4_1 : Int) (x177000_1 : List Int) (u177000 : Value), v4 = .int .i64 x4_1 ∧ Aside0 (spec_prEmpty.l0 kq a0 x4_1 x177000_1 = some r) ∧ Aside0 (kq ≤ k) ∧ Aside0 (Kd.R (Kd.int .i64) 3 w' w.heap.size (fun _ => True) u177000 x177000_1) ∧ Aside0 (w'.heap[gb175]? = some (.cells #[(.slice none 0 0)] 26 (0, 0))) ∧ Aside0 (w'.heap[gb176]? = some (.cells #[u177000] 26 (0, 0))) ∧ Aside0 (Below w.heap.size w w'))
 case atStart => exact ⟨(0), (([] : List Int)), (.slice none 0 0), sR_, H', ⟨Nat.le_refl _⟩, ⟨by first | exact Kd.R_nil _ _ _ _ _ | exact Kd.N_nil _ _ _ _ _ | exact Kd.V_nil _ _ _ _ _ | exact Kd.Q_nil _ _ _ _ _ | exact Kd.S_nil _ _ _ _ _⟩, ⟨by (with_reducible repeat (first | refine kN_ ?_ _ | refine kD_ ?_ | refine kA_ ?_ _)); refine blk_far ?_ NB175_176.out _; (with_reducible repeat (first | refine kN_ ?_ _ | refine kD_ ?_ | refine kA_ ?_ _)); exact BK175.out⟩, ⟨by (with_reducible repeat (first | refine kN_ ?_ _ | refine kD_ ?_ | refine kA_ ?_ _)); refine blk_put (cs := #[.slice none 0 0]) ?_ 0 _ rfl; (with_reducible repeat (first | refine kN_ ?_ _ | refine kD_ ?_ | refine kA_ ?_ _)); exact BK176.out⟩, ⟨bb_ HB⟩⟩
 case round =>
  clear H'
  try clear p2
  try clear c4
  try clear hcz5_0
  try clear hfz5_0
  obtain ⟨x4_1, x177000_1, u177000, rfl, HA, HK1, HO_177000, BK175, BK176, HB⟩ := hrel
  cases gk with
  | zero => exact absurd HA.out (by simp [spec_prEmpty.l0])
  | succ k1 =>
   have H := HA.out
   clear HA
   simp only [spec_prEmpty.l0] at H
   by_cases c6 : x4_1 < a0
   ·rw [if_pos c6] at H
    have c6b0 : decide (x4_1 < a0) = true := decide_eq_true c6
    clear c6
    by_cases c7 : x177000_1.length < 17592186044416
    ·rw [if_pos c7] at H
     have LMc7 := aS_ c7
     clear c7
     obtain ⟨y177, hy177⟩ : ∃ y_ : List Int, y_ = (x177000_1 ++ [(-1)]) := ⟨_, rfl⟩
     replace H : (spec_prEmpty.l0 k1 a0 (wrap64 (x4_1 + 1)) y177) = some r := by first | (rw [hy177]; with_reducible exact H) | (have H2_ := (Option.bind_some _ _).symm.trans H; rw [hy177]; with_reducible exact H2_) | (have H2_ := (Option.bind_some _ _).symm.trans H; with_reducible exact H2_) | with_reducible exact H | (rw [hy177]; exact H) | exact H
     have Ny177 := aS_ hy177
     clear hy177
     have H' := aS_ H
     clear H
     have hnb8 := NB176_175.out
     have hnc8 := NB175_176.out
     have hcz9_0 : wr.cell? ⟨gb176, 0, none⟩ = some (u177000) := (blk_cell BK176.out 0).trans rfl
     have hfz9_0 := blk_frozen BK176.out 0
     go_wp2_with (first | ((with_reducible refine gate_builtin (b := .append) (xs := #[.tmp 12, .tmp 13]) rfl ?_); at_builtin; refine Kd.R_append (Kd.int .i64) (w0 := w) w.heap.size rfl (.tmp 12) (.tmp 13) 24 3 (.int .i64 0) 8 rfl Try.underlying24 info3 rfl (by decide) (by omega) u177000 x177000_1 (-1) [.int .i64 (-1)] (fun _ => True) (fun _ => False) rfl rfl ?aP (fun _ hk => hk.elim) ?aF ?aO ?aB ?aS ?aL ?_; (case aP => exact rfl); (case aB => exact (bb_ HB)); (case aF => exact (fun _ _ => trivial)); (case aO => exact (rr_ HO_177000)); (case aS => exact (below_size (bb_ HB))); (case aL => have := LMc7.out; omega); intro v178 w10 ho hb hg hat; rw [← Ny177.out] at ho; replace BK175 := aS_ (blk_grown (g := gb175) (o := .cells #[.slice none 0 0] 26 (0, 0)) (kk_ BK175) hg (Kd.R_ne HO_177000.out BK175.out (by decide))); replace BK176 := aS_ (blk_grown (g := gb176) (o := .cells #[u177000] 26 (0, 0)) (kk_ BK176) hg (Kd.R_ne HO_177000.out BK176.out (by decide))); replace HB := aS_ (hb); have HO179 := aS_ (ho); clear HO_177000; clear ho hb hg hat; obtain ⟨Ao11, co11, eo11⟩ := Kd.R_slice HO179.out; subst eo11; have hcz12_0 : w10.cell? ⟨gb176, 0, none⟩ = some (u177000) := (blk_cell BK176.out 0).trans rfl; have hfz12_0 := blk_frozen BK176.out 0))
     go_roundg k1
     case measure => have := HK1.out; omega
     case rel => exact ⟨(wrap64 (x4_1 + 1)), (y177), (.slice Ao11 y177.length co11), sR_, H', ⟨by have := HK1.out; omega⟩, ⟨by (with_reducible repeat (first | apply rA_ | apply rN_ | apply rD_)); exact Kd.R_mono (Kd.R_far (p := ⟨gb176, 0, none⟩) (Kd.R_types HO179.out BK176.out (by decide)) (fun _ hk => hk.2) (.slice Ao11 y177.length co11)) (fun _ hk => trivial)⟩, ⟨by (with_reducible repeat (first | refine kN_ ?_ _ | refine kD_ ?_ | refine kA_ ?_ _)); refine blk_far ?_ NB175_176.out _; (with_reducible repeat (first | refine kN_ ?_ _ | refine kD_ ?_ | refine kA_ ?_ _)); exact BK175.out⟩, ⟨by (with_reducible repeat (first | refine kN_ ?_ _ | refine kD_ ?_ | refine kA_ ?_ _)); refine blk_put (cs := #[u177000]) ?_ 0 _ rfl; (with_reducible repeat (first | refine kN_ ?_ _ | refine kD_ ?_ | refine kA_ ?_ _)); exact BK176.out⟩, ⟨bb_ HB⟩⟩
    ·rw [if_neg c7] at H
     exact absurd H (by simp)
   ·rw [if_neg c6] at H
    have c6b0 : decide (x4_1 < a0) = false := decide_eq_false c6
    clear c6
    obtain rfl := Option.some.inj H
    have hnb13 := NB176_175.out
    have hnc13 := NB175_176.out
    have hcz14_0 : wr.cell? ⟨gb176, 0, none⟩ = some (u177000) := (blk_cell BK176.out 0).trans rfl
    have hfz14_0 := blk_frozen BK176.out 0
    obtain ⟨Ao15, co15, eo15⟩ := Kd.R_slice HO_177000.out
    subst eo15
    have hcz16_0 : wr.cell? ⟨gb175, 0, none⟩ = some (.slice none 0 0) := (blk_cell BK175.out 0).trans rfl
    have hfz16_0 := blk_frozen BK175.out 0
    go_wp2
    refine bodyPost_ret (results_cell_row rfl _ _ gb175 26 #[.slice Ao15 x177000_1.length co15] (0, 0) _ rfl (by (with_reducible repeat (first | refine kN_ ?_ _ | refine kD_ ?_ | refine kA_ ?_ _)); refine blk_put (cs := #[.slice none 0 0]) ?_ 0 _ rfl; (with_reducible repeat (first | refine kN_ ?_ _ | refine kD_ ?_ | refine kA_ ?_ _)); exact BK175.out) Try.underlying26 rfl (by kernel_rfl)) rfl ?_
    exact ⟨_, by first | rfl | (simp [errW_none, errW_some] <;> rfl) | (simp [*, errW_none, errW_some] <;> rfl), by (with_reducible repeat (first | apply rA_ | apply rN_ | apply rD_)); exact Kd.R_mono (Kd.R_far (p := ⟨gb175, 0, none⟩) (Kd.R_types HO_177000.out BK175.out (by decide)) (fun _ hk => hk.2) (.slice Ao15 x177000_1.length co15)) (fun _ hk => trivial), bb_ HB⟩
/-! ### spec_prOf: function 50 -/
def spec_prOf.l0 : Nat → List Int → Int → Int → List Int → Option (List Int)
 | 0, _, _, _, _ => none
 | k + 1, x10, x11, x12, x185000 => if x12 < x11 then (if 0 ≤ x12 then (if x12 < (x10.length : Int) then ((spec_prInsert.f k x185000 (rd x10 x12)).bind fun bt186 => (spec_prOf.l0 k x10 x11 (wrap64 (x12 + 1)) bt186.2)) else (none)) else (none)) else (some x185000)
def spec_prOf.f (k : Nat) (a0 : Int) (l1 : List Int) : Option (List Int) := (spec_prEmpty.f k a0).bind fun t181 => (spec_prOf.l0 k l1 (l1.length : Int) 0 t181)
theorem spec_prOf.mono_l : ∀ k, (∀ y0 y1 y2 y3, LeO (spec_prOf.l0 k y0 y1 y2 y3) (spec_prOf.l0 (k + 1) y0 y1 y2 y3))
 | 0 => fun _ _ _ _ r h => by simp [spec_prOf.l0] at h
 | k + 1 => by
  have ih0 := spec_prOf.mono_l k
  ·intro y0 y1 y2 y3
   unfold spec_prOf.l0
   repeat' first
   | (with_reducible exact ih0 _ _ _ _)
   | (with_reducible exact spec_prEmpty.mono _ _)
   | (with_reducible exact spec_prInsert.mono _ _ _)
   | (with_reducible exact LeO.refl _)
   | (with_reducible exact LeO.none _)
   | (with_reducible refine LeO.ite ?_ ?_)
   | (with_reducible refine LeO.bind ?_ (fun _ => ?_))
   | exact ih0 _ _ _ _
   | exact spec_prEmpty.mono _ _
   | exact spec_prInsert.mono _ _ _
   | exact LeO.none _
   | refine LeO.ite ?_ ?_
   | refine LeO.bind ?_ (fun _ => ?_)
theorem spec_prOf.mono : ∀ a0 a1 k, LeO (spec_prOf.f k a0 a1) (spec_prOf.f (k + 1) a0 a1) := by
 intro a0 a1 k
 have ih0 := spec_prOf.mono_l k
 unfold spec_prOf.f
 repeat' first
   | (with_reducible exact ih0 _ _ _ _)
   | (with_reducible exact spec_prEmpty.mono _ _)
   | (with_reducible exact spec_prInsert.mono _ _ _)
   | (with_reducible exact LeO.refl _)
   | (with_reducible exact LeO.none _)
   | (with_reducible refine LeO.ite ?_ ?_)
   | (with_reducible refine LeO.bind ?_ (fun _ => ?_))
   | exact ih0 _ _ _ _
   | exact spec_prEmpty.mono _ _
   | exact spec_prInsert.mono _ _ _
   | exact LeO.none _
   | refine LeO.ite ?_ ?_
   | refine LeO.bind ?_ (fun _ => ?_)
set_option maxHeartbeats 8000000 in
set_option maxRecDepth 100000 in
theorem spec_prOf.calls (k : Nat) (a0 : Int) (A1 : Option Addr) (c1 : Nat) (l1 : List Int) (r : List Int) (w : World) (hr1 : Kd.C (Kd.int .i64) w A1 l1.length l1) (hc1 : l1.length ≤ c1) (h : spec_prOf.f k a0 l1 = some r) :
  Calls Try.prog 50 #[.int .i64 a0, .slice A1 l1.length c1] w fun e w' => ∃ v0_ : Value, e = .returned (.agg #[v0_]) ∧ Kd.R (Kd.int .i64) 3 w' w.heap.size (fun _ => True) v0_ r ∧ Below w.heap.size w w' := by
 have hu26 := Try.underlying26
 have HR1 := aS_ hr1
 have HC1 := aS_ hc1
 clear hr1 hc1
 have HB := aS_ (Below.refl w.heap.size w)
 have H : ((spec_prEmpty.f k a0).bind fun t181 => (spec_prOf.l0 k l1 (l1.length : Int) 0 t181)) = some r := h
 clear h
 replace H := Option.bind_eq_some_iff.mp H
 obtain ⟨t181, A30, H⟩ := H
 have A3 := aS_ A30
 clear A30
 have H' := aS_ H
 clear H
 go_enter Try.func50, Try.ntmps50
 go_wp2_with (first | ((with_reducible refine gate_dst (N := 4) rfl ?_); refine box_event ?hg (N := 4) ?hd (cs := #[.slice none 0 0]) (t := 26) ?hr ?_; (case hd => rfl); (case hg => rfl); (case hr => first | (go_simp; done) | (go_simp; rfl)); intro gb180 hg w4 hbox hb; have BK180 := aS_ (hbox); have GW180 := gE_ HB hg; have GE180 := gE_ HB hg; replace HB := bE_ HB hb; clear hb hbox hg) | ((with_reducible refine gate_callee (f := 70) rfl ?_); refine goesL_ (some 9) rfl rfl Try.func70 (by kernel_rfl) rfl #[.int .i64 a0] rfl aR_ ?_; (with_reducible refine (spec_prEmpty.calls k a0 t181 _ A3.out).mono ?_); rintro e w5 ⟨v182, rfl, ho0, hb⟩; refine ⟨_, rfl, ?_⟩; have HO183 := aS_ (Kd.R_lower ho0 (below_size (bb_ HB))); replace BK180 := kO_ BK180 hb; replace HB := bE_ HB hb; (try clear hb); (try clear ho0)) | ((with_reducible refine gate_dst (N := 5) rfl ?_); refine box_event ?hg (N := 5) ?hd (cs := #[.slice none 0 0]) (t := 26) ?hr ?_; (case hd => rfl); (case hg => rfl); (case hr => first | (go_simp; done) | (go_simp; rfl)); intro gb184 hg w6 hbox hb; replace HO183 := aS_ (Kd.R_below (rr_ HO183) hb); have BK184 := aS_ (hbox); have GW184 := gE_ HB hg; have GE184 := gE_ HB hg; replace HB := bE_ HB hb; have NB180_184 := nL_ BK180 hg; have NB184_180 := nG_ BK180 hg; replace BK180 := kO_ BK180 hb; clear hb hbox hg; obtain ⟨Ao7, co7, eo7⟩ := Kd.R_slice HO183.out; subst eo7; have hnb8 := NB184_180.out; have hnc8 := NB180_184.out; have hcz9_0 : w6.cell? ⟨gb184, 0, none⟩ = some (.slice none 0 0) := (blk_cell BK184.out 0).trans rfl; have hfz9_0 := blk_frozen BK184.out 0))
 go_loopg [12] k (fun kq v12 w' => ∃ (x12_1 : Int) (x185000_1 : List Int) (u185000 : Value), v12 = .int .i64 x12_1 ∧ Aside0 (spec_prOf.l0 kq l1 (l1.length : Int) x12_1 x185000_1 = some r) ∧ Aside0 (kq ≤ k) ∧ Aside0 (Kd.R (Kd.int .i64) 3 w' w.heap.size (fun _ => True) u185000 x185000_1) ∧ Aside0 (w'.heap[gb180]? = some (.cells #[(.slice none 0 0)] 26 (0, 0))) ∧ Aside0 (w'.heap[gb184]? = some (.cells #[u185000] 26 (0, 0))) ∧ Aside0 (Below w.heap.size w w'))
 case atStart => exact ⟨(0), (t181), (.slice Ao7 t181.length co7), sR_, H', ⟨Nat.le_refl _⟩, ⟨by (with_reducible repeat (first | apply rA_ | apply rN_ | apply rD_)); exact Kd.R_mono (Kd.R_far (p := ⟨gb184, 0, none⟩) (Kd.R_types HO183.out BK184.out (by decide)) (fun _ hk => hk.2) (.slice Ao7 t181.length co7)) (fun _ hk => trivial)⟩, ⟨by (with_reducible repeat (first | refine kN_ ?_ _ | refine kD_ ?_ | refine kA_ ?_ _)); refine blk_far ?_ NB180_184.out _; (with_reducible repeat (first | refine kN_ ?_ _ | refine kD_ ?_ | refine kA_ ?_ _)); exact BK180.out⟩, ⟨by (with_reducible repeat (first | refine kN_ ?_ _ | refine kD_ ?_ | refine kA_ ?_ _)); refine blk_put (cs := #[.slice none 0 0]) ?_ 0 _ rfl; (with_reducible repeat (first | refine kN_ ?_ _ | refine kD_ ?_ | refine kA_ ?_ _)); exact BK184.out⟩, ⟨bb_ HB⟩⟩
 case round =>
  clear H'
  try clear c1
  try clear p2
  try clear c5
  try clear c7
  try clear c8
  try clear hcz9_0
  try clear hfz9_0
  obtain ⟨x12_1, x185000_1, u185000, rfl, HA, HK1, HO_185000, BK180, BK184, HB⟩ := hrel
  cases gk with
  | zero => exact absurd HA.out (by simp [spec_prOf.l0])
  | succ k1 =>
   have H := HA.out
   clear HA
   simp only [spec_prOf.l0] at H
   by_cases c10 : x12_1 < (l1.length : Int)
   ·rw [if_pos c10] at H
    have c10b0 : decide (x12_1 < (l1.length : Int)) = true := decide_eq_true c10
    clear c10
    by_cases c11 : 0 ≤ x12_1
    ·rw [if_pos c11] at H
     have c11b0 : decide (0 ≤ x12_1) = true := decide_eq_true c11
     clear c11
     by_cases c12 : x12_1 < (l1.length : Int)
     ·rw [if_pos c12] at H
      have c12b0 : decide (x12_1 < (l1.length : Int)) = true := decide_eq_true c12
      clear c12
      replace H := Option.bind_eq_some_iff.mp H
      obtain ⟨⟨t186, t187⟩, A130, H⟩ := H
      have A13 := aS_ A130
      clear A130
      have H' := aS_ H
      clear H
      have p185 : 0 ≤ (x12_1 : Int) := of_decide_eq_true (by assumption)
      have q185 : x12_1 < (l1.length : Int) := of_decide_eq_true (by assumption)
      obtain ⟨ad185, e185, hx185_0⟩ := Kd.at_int HR1.out x12_1 p185 q185
      cases e185
      replace hx185_0 := (HB.out.cell (World.block_lt_of_cell? w _ hx185_0)).trans hx185_0
      replace p185 := eq_true p185
      replace q185 := eq_true q185
      have hnb14 := NB184_180.out
      have hnc14 := NB180_184.out
      have hcz15_0 : wr.cell? ⟨gb184, 0, none⟩ = some (u185000) := (blk_cell BK184.out 0).trans rfl
      have hfz15_0 := blk_frozen BK184.out 0
      obtain ⟨Ao16, co16, eo16⟩ := Kd.R_slice HO_185000.out
      subst eo16
      go_wp2_with (first | ((with_reducible refine gate_callee (f := 36) rfl ?_); refine goesL_ (some 19) rfl rfl Try.func36 (by kernel_rfl) rfl #[.slice Ao16 x185000_1.length co16, .int .i64 (rd l1 x12_1)] rfl aR_ ?_; (with_reducible refine (spec_prInsert.calls k1 (fun k_ => some k_ = (.slice Ao16 x185000_1.length co16 : Value).ownBlock) (.slice Ao16 x185000_1.length co16) x185000_1 (rd l1 x12_1) t186 t187 w _ ?side1 ?side2 A13.out).mono ?_); (case side1 => repeat (first | (with_reducible first | exact HB.out | apply bA_ | apply pN_ | apply bD_ | refine bS_ ?_ GE180.out | refine bS_ ?_ GE184.out) | exact HB.out)); (case side2 => exact Kd.R_tight rfl HO_185000.out); rintro e w17 ⟨rfl, hy0, hb, hkp⟩; refine ⟨_, rfl, ?_⟩; replace BK180 := aS_ (blk_kept (kk_ BK180) hkp (fun hs_ => (fun e_ => (Kd.R_ne HO_185000.out BK180.out (by decide)) e_) hs_)); replace BK184 := aS_ (blk_kept (kk_ BK184) hkp (fun hs_ => (fun e_ => (Kd.R_ne HO_185000.out BK184.out (by decide)) e_) hs_)); replace HO_185000 := aS_ (Kd.R_reok rfl hy0 (fun k_ e_ => HO_185000.out.1 k_ e_)); replace HB := aS_ (hb); (try clear hb); (try clear hkp); (try clear hy0)))
      go_roundg k1
      case measure => have := HK1.out; omega
      case rel => exact ⟨(wrap64 (x12_1 + 1)), (t187), (.slice Ao16 x185000_1.length co16), sR_, H', ⟨by have := HK1.out; omega⟩, ⟨rr_ HO_185000⟩, ⟨kk_ BK180⟩, ⟨kk_ BK184⟩, ⟨bb_ HB⟩⟩
     ·rw [if_neg c12] at H
      exact absurd H (by simp)
    ·rw [if_neg c11] at H
     exact absurd H (by simp)
   ·rw [if_neg c10] at H
    have c10b0 : decide (x12_1 < (l1.length : Int)) = false := decide_eq_false c10
    clear c10
    obtain rfl := Option.some.inj H
    have hnb18 := NB184_180.out
    have hnc18 := NB180_184.out
    have hcz19_0 : wr.cell? ⟨gb184, 0, none⟩ = some (u185000) := (blk_cell BK184.out 0).trans rfl
    have hfz19_0 := blk_frozen BK184.out 0
    obtain ⟨Ao20, co20, eo20⟩ := Kd.R_slice HO_185000.out
    subst eo20
    have hcz21_0 : wr.cell? ⟨gb180, 0, none⟩ = some (.slice none 0 0) := (blk_cell BK180.out 0).trans rfl
    have hfz21_0 := blk_frozen BK180.out 0
    go_wp2
    refine bodyPost_ret (results_cell_row rfl _ _ gb180 26 #[.slice Ao20 x185000_1.length co20] (0, 0) _ rfl (by (with_reducible repeat (first | refine kN_ ?_ _ | refine kD_ ?_ | refine kA_ ?_ _)); refine blk_put (cs := #[.slice none 0 0]) ?_ 0 _ rfl; (with_reducible repeat (first | refine kN_ ?_ _ | refine kD_ ?_ | refine kA_ ?_ _)); exact BK180.out) Try.underlying26 rfl (by kernel_rfl)) rfl ?_
    exact ⟨_, by first | rfl | (simp [errW_none, errW_some] <;> rfl) | (simp [*, errW_none, errW_some] <;> rfl), by (with_reducible repeat (first | apply rA_ | apply rN_ | apply rD_)); exact Kd.R_mono (Kd.R_far (p := ⟨gb180, 0, none⟩) (Kd.R_types HO_185000.out BK180.out (by decide)) (fun _ hk => hk.2) (.slice Ao20 x185000_1.length co20)) (fun _ hk => trivial), bb_ HB⟩
/-! ### spec_prCost: function 44 -/
def spec_prCost.f (a0 : Int) (a1 : Int) (a2 : Int) : Option (Int) := if a2 = 0 then (none) else (some (Int.tmod (wrap64 ((wrap64 (a1 - (Int.tmod a0 a2))) + a2)) a2))
set_option maxHeartbeats 8000000 in
set_option maxRecDepth 100000 in
theorem spec_prCost.calls (a0 : Int) (a1 : Int) (a2 : Int) (r : Int) (w : World) (h : spec_prCost.f a0 a1 a2 = some r) :
  Calls Try.prog 44 #[.int .i64 a0, .int .i64 a1, .int .i64 a2] w fun e w' => e = .returned (.int .i64 r) ∧ Drawn0 w w' := by
 have H : (if a2 = 0 then (none) else (some (Int.tmod (wrap64 ((wrap64 (a1 - (Int.tmod a0 a2))) + a2)) a2))) = some r := h
 clear h
 by_cases c4 : a2 = 0
 ·rw [if_pos c4] at H
  exact absurd H (by simp)
 ·rw [if_neg c4] at H
  have c4b0 : (a2 == 0) = false := beq_eq_false_iff_ne.mpr c4
  have c4b1 : (a2 != 0) = true := bne_iff_ne.mpr c4
  obtain rfl := Option.some.inj H
  go_enter Try.func44, Try.ntmps44
  go_wp2
  go_ret
  exact ⟨sR_, by repeat (first | exact Drawn0.refl _ | apply Drawn0.step)⟩
/-! ### spec_prRobin: function 51 -/
mutual
def spec_prRobin.l0 : Nat → Int → List Int → Int → Int → List Int → Option (List Int)
 | 0, _, _, _, _, _ => none
 | k + 1, x0, x15, x16, x17, x193000 => if x17 < x16 then (if 0 ≤ x17 then (if x17 < (x15.length : Int) then (if x0 = 0 then (none) else (spec_prRobin.l1 k x0 (rd x15 x17) (Int.tmod (rd x15 x17) x0) x15 x16 x17 x193000)) else (none)) else (none)) else (some x193000)
def spec_prRobin.l1 : Nat → Int → Int → Int → List Int → Int → Int → List Int → Option (List Int)
 | 0, _, _, _, _, _, _, _ => none
 | k + 1, x0, x8, x9, x15, x16, x17, x193000 => if 0 ≤ x9 then (if x9 < (x193000.length : Int) then (if (rd x193000 x9) = (-1) then (spec_prRobin.l0 k x0 x15 x16 (wrap64 (x17 + 1)) (x193000.set (x9 : Int).toNat x8)) else ((spec_prCost.f x8 x9 x0).bind fun t197 => ((spec_prCost.f (rd x193000 x9) x9 x0).bind fun t198 => (if t197 > t198 then (if x0 = 0 then (none) else (spec_prRobin.l1 k x0 (rd x193000 x9) (Int.tmod (wrap64 (x9 + 1)) x0) x15 x16 x17 (x193000.set (x9 : Int).toNat x8))) else (if t197 = t198 then (if x8 > (rd x193000 x9) then (if x0 = 0 then (none) else (spec_prRobin.l1 k x0 (rd x193000 x9) (Int.tmod (wrap64 (x9 + 1)) x0) x15 x16 x17 (x193000.set (x9 : Int).toNat x8))) else (if x0 = 0 then (none) else (spec_prRobin.l1 k x0 x8 (Int.tmod (wrap64 (x9 + 1)) x0) x15 x16 x17 x193000))) else (if x0 = 0 then (none) else (spec_prRobin.l1 k x0 x8 (Int.tmod (wrap64 (x9 + 1)) x0) x15 x16 x17 x193000))))))) else (none)) else (none)
end
def spec_prRobin.f (k : Nat) (a0 : Int) (l1 : List Int) : Option (List Int) := (spec_prEmpty.f k a0).bind fun t189 => (spec_prRobin.l0 k a0 l1 (l1.length : Int) 0 t189)
theorem spec_prRobin.mono_l : ∀ k, (∀ y0 y1 y2 y3 y4, LeO (spec_prRobin.l0 k y0 y1 y2 y3 y4) (spec_prRobin.l0 (k + 1) y0 y1 y2 y3 y4)) ∧ (∀ y0 y1 y2 y3 y4 y5 y6, LeO (spec_prRobin.l1 k y0 y1 y2 y3 y4 y5 y6) (spec_prRobin.l1 (k + 1) y0 y1 y2 y3 y4 y5 y6))
 | 0 => ⟨fun _ _ _ _ _ r h => by simp [spec_prRobin.l0] at h, fun _ _ _ _ _ _ _ r h => by simp [spec_prRobin.l1] at h⟩
 | k + 1 => by
  obtain ⟨ih0, ih1⟩ := spec_prRobin.mono_l k
  refine ⟨?_, ?_⟩
  ·intro y0 y1 y2 y3 y4
   unfold spec_prRobin.l0
   repeat' first
   | (with_reducible exact ih0 _ _ _ _ _)
   | (with_reducible exact ih1 _ _ _ _ _ _ _)
   | (with_reducible exact spec_prEmpty.mono _ _)
   | (with_reducible exact LeO.refl _)
   | (with_reducible exact LeO.none _)
   | (with_reducible refine LeO.ite ?_ ?_)
   | (with_reducible refine LeO.bind ?_ (fun _ => ?_))
   | exact ih0 _ _ _ _ _
   | exact ih1 _ _ _ _ _ _ _
   | exact spec_prEmpty.mono _ _
   | exact LeO.none _
   | refine LeO.ite ?_ ?_
   | refine LeO.bind ?_ (fun _ => ?_)
  ·intro y0 y1 y2 y3 y4 y5 y6
   unfold spec_prRobin.l1
   repeat' first
   | (with_reducible exact ih0 _ _ _ _ _)
   | (with_reducible exact ih1 _ _ _ _ _ _ _)
   | (with_reducible exact spec_prEmpty.mono _ _)
   | (with_reducible exact LeO.refl _)
   | (with_reducible exact LeO.none _)
   | (with_reducible refine LeO.ite ?_ ?_)
   | (with_reducible refine LeO.bind ?_ (fun _ => ?_))
   | exact ih0 _ _ _ _ _
   | exact ih1 _ _ _ _ _ _ _
   | exact spec_prEmpty.mono _ _
   | exact LeO.none _
   | refine LeO.ite ?_ ?_
   | refine LeO.bind ?_ (fun _ => ?_)
theorem spec_prRobin.mono : ∀ a0 a1 k, LeO (spec_prRobin.f k a0 a1) (spec_prRobin.f (k + 1) a0 a1) := by
 intro a0 a1 k
 obtain ⟨ih0, ih1⟩ := spec_prRobin.mono_l k
 unfold spec_prRobin.f
 repeat' first
   | (with_reducible exact ih0 _ _ _ _ _)
   | (with_reducible exact ih1 _ _ _ _ _ _ _)
   | (with_reducible exact spec_prEmpty.mono _ _)
   | (with_reducible exact LeO.refl _)
   | (with_reducible exact LeO.none _)
   | (with_reducible refine LeO.ite ?_ ?_)
   | (with_reducible refine LeO.bind ?_ (fun _ => ?_))
   | exact ih0 _ _ _ _ _
   | exact ih1 _ _ _ _ _ _ _
   | exact spec_prEmpty.mono _ _
   | exact LeO.none _
   | refine LeO.ite ?_ ?_
   | refine LeO.bind ?_ (fun _ => ?_)
set_option maxHeartbeats 8000000 in
set_option maxRecDepth 100000 in
theorem spec_prRobin.calls (k : Nat) (a0 : Int) (A1 : Option Addr) (c1 : Nat) (l1 : List Int) (r : List Int) (w : World) (hr1 : Kd.C (Kd.int .i64) w A1 l1.length l1) (hc1 : l1.length ≤ c1) (h : spec_prRobin.f k a0 l1 = some r) :
  Calls Try.prog 51 #[.int .i64 a0, .slice A1 l1.length c1] w fun e w' => ∃ v0_ : Value, e = .returned (.agg #[v0_]) ∧ Kd.R (Kd.int .i64) 3 w' w.heap.size (fun _ => True) v0_ r ∧ Below w.heap.size w w' := by
 have hu26 := Try.underlying26
 have HR1 := aS_ hr1
 have HC1 := aS_ hc1
 clear hr1 hc1
 have HB := aS_ (Below.refl w.heap.size w)
 have H : ((spec_prEmpty.f k a0).bind fun t189 => (spec_prRobin.l0 k a0 l1 (l1.length : Int) 0 t189)) = some r := h
 clear h
 replace H := Option.bind_eq_some_iff.mp H
 obtain ⟨t189, A30, H⟩ := H
 have A3 := aS_ A30
 clear A30
 have H' := aS_ H
 clear H
 go_enter Try.func51, Try.ntmps51
 go_wp2_with (first | ((with_reducible refine gate_dst (N := 4) rfl ?_); refine box_event ?hg (N := 4) ?hd (cs := #[.slice none 0 0]) (t := 26) ?hr ?_; (case hd => rfl); (case hg => rfl); (case hr => first | (go_simp; done) | (go_simp; rfl)); intro gb188 hg w4 hbox hb; have BK188 := aS_ (hbox); have GW188 := gE_ HB hg; have GE188 := gE_ HB hg; replace HB := bE_ HB hb; clear hb hbox hg) | ((with_reducible refine gate_callee (f := 70) rfl ?_); refine goesL_ (some 14) rfl rfl Try.func70 (by kernel_rfl) rfl #[.int .i64 a0] rfl aR_ ?_; (with_reducible refine (spec_prEmpty.calls k a0 t189 _ A3.out).mono ?_); rintro e w5 ⟨v190, rfl, ho0, hb⟩; refine ⟨_, rfl, ?_⟩; have HO191 := aS_ (Kd.R_lower ho0 (below_size (bb_ HB))); replace BK188 := kO_ BK188 hb; replace HB := bE_ HB hb; (try clear hb); (try clear ho0)) | ((with_reducible refine gate_dst (N := 5) rfl ?_); refine box_event ?hg (N := 5) ?hd (cs := #[.slice none 0 0]) (t := 26) ?hr ?_; (case hd => rfl); (case hg => rfl); (case hr => first | (go_simp; done) | (go_simp; rfl)); intro gb192 hg w6 hbox hb; replace HO191 := aS_ (Kd.R_below (rr_ HO191) hb); have BK192 := aS_ (hbox); have GW192 := gE_ HB hg; have GE192 := gE_ HB hg; replace HB := bE_ HB hb; have NB188_192 := nL_ BK188 hg; have NB192_188 := nG_ BK188 hg; replace BK188 := kO_ BK188 hb; clear hb hbox hg; obtain ⟨Ao7, co7, eo7⟩ := Kd.R_slice HO191.out; subst eo7; have hnb8 := NB192_188.out; have hnc8 := NB188_192.out; have hcz9_0 : w6.cell? ⟨gb192, 0, none⟩ = some (.slice none 0 0) := (blk_cell BK192.out 0).trans rfl; have hfz9_0 := blk_frozen BK192.out 0))
 go_loopg [17] k (fun kq v17 w' => ∃ (x17_1 : Int) (x193000_1 : List Int) (u193000 : Value), v17 = .int .i64 x17_1 ∧ Aside0 (spec_prRobin.l0 kq a0 l1 (l1.length : Int) x17_1 x193000_1 = some r) ∧ Aside0 (kq ≤ k) ∧ Aside0 (Kd.R (Kd.int .i64) 3 w' w.heap.size (fun _ => True) u193000 x193000_1) ∧ Aside0 (w'.heap[gb188]? = some (.cells #[(.slice none 0 0)] 26 (0, 0))) ∧ Aside0 (w'.heap[gb192]? = some (.cells #[u193000] 26 (0, 0))) ∧ Aside0 (Below w.heap.size w w'))
 case atStart => exact ⟨(0), (t189), (.slice Ao7 t189.length co7), sR_, H', ⟨Nat.le_refl _⟩, ⟨by (with_reducible repeat (first | apply rA_ | apply rN_ | apply rD_)); exact Kd.R_mono (Kd.R_far (p := ⟨gb192, 0, none⟩) (Kd.R_types HO191.out BK192.out (by decide)) (fun _ hk => hk.2) (.slice Ao7 t189.length co7)) (fun _ hk => trivial)⟩, ⟨by (with_reducible repeat (first | refine kN_ ?_ _ | refine kD_ ?_ | refine kA_ ?_ _)); refine blk_far ?_ NB188_192.out _; (with_reducible repeat (first | refine kN_ ?_ _ | refine kD_ ?_ | refine kA_ ?_ _)); exact BK188.out⟩, ⟨by (with_reducible repeat (first | refine kN_ ?_ _ | refine kD_ ?_ | refine kA_ ?_ _)); refine blk_put (cs := #[.slice none 0 0]) ?_ 0 _ rfl; (with_reducible repeat (first | refine kN_ ?_ _ | refine kD_ ?_ | refine kA_ ?_ _)); exact BK192.out⟩, ⟨bb_ HB⟩⟩
 case round =>
  clear H'
  try clear c1
  try clear p2
  try clear c5
  try clear c7
  try clear c8
  try clear hcz9_0
  try clear hfz9_0
  obtain ⟨x17_1, x193000_1, u193000, rfl, HA, HK1, HO_193000, BK188, BK192, HB⟩ := hrel
  cases gk with
  | zero => exact absurd HA.out (by simp [spec_prRobin.l0])
  | succ k1 =>
   have H := HA.out
   clear HA
   simp only [spec_prRobin.l0] at H
   by_cases c10 : x17_1 < (l1.length : Int)
   ·rw [if_pos c10] at H
    have c10b0 : decide (x17_1 < (l1.length : Int)) = true := decide_eq_true c10
    clear c10
    by_cases c11 : 0 ≤ x17_1
    ·rw [if_pos c11] at H
     have c11b0 : decide (0 ≤ x17_1) = true := decide_eq_true c11
     clear c11
     by_cases c12 : x17_1 < (l1.length : Int)
     ·rw [if_pos c12] at H
      have c12b0 : decide (x17_1 < (l1.length : Int)) = true := decide_eq_true c12
      clear c12
      by_cases c13 : a0 = 0
      ·rw [if_pos c13] at H
       exact absurd H (by simp)
      ·rw [if_neg c13] at H
       have c13b0 : (a0 == 0) = false := beq_eq_false_iff_ne.mpr c13
       have c13b1 : (a0 != 0) = true := bne_iff_ne.mpr c13
       have H' := aS_ H
       clear H
       have p193 : 0 ≤ (x17_1 : Int) := of_decide_eq_true (by assumption)
       have q193 : x17_1 < (l1.length : Int) := of_decide_eq_true (by assumption)
       obtain ⟨ad193, e193, hx193_0⟩ := Kd.at_int HR1.out x17_1 p193 q193
       cases e193
       replace hx193_0 := (HB.out.cell (World.block_lt_of_cell? w _ hx193_0)).trans hx193_0
       replace p193 := eq_true p193
       replace q193 := eq_true q193
       go_wp2
       go_loopg [8, 9] k1 (fun kq v8 v9 w' => ∃ (x8_2 : Int) (x9_2 : Int) (x193000_2 : List Int) (u193000 : Value), v8 = .int .i64 x8_2 ∧ v9 = .int .i64 x9_2 ∧ Aside0 (spec_prRobin.l1 kq a0 x8_2 x9_2 l1 (l1.length : Int) x17_1 x193000_2 = some r) ∧ Aside0 (kq ≤ k1) ∧ Aside0 (Kd.R (Kd.int .i64) 3 w' w.heap.size (fun _ => True) u193000 x193000_2) ∧ Aside0 (w'.heap[gb188]? = some (.cells #[(.slice none 0 0)] 26 (0, 0))) ∧ Aside0 (w'.heap[gb192]? = some (.cells #[u193000] 26 (0, 0))) ∧ Aside0 (Below w.heap.size w w'))
       case atStart => exact ⟨(rd l1 x17_1), (Int.tmod (rd l1 x17_1) a0), (x193000_1), (u193000), sR_, sR_, H', ⟨Nat.le_refl _⟩, ⟨rr_ HO_193000⟩, ⟨kk_ BK188⟩, ⟨kk_ BK192⟩, ⟨bb_ HB⟩⟩
       case round =>
        clear H'
        try clear c1
        try clear p1
        try clear q1
        try clear hx1
        try clear p2
        try clear c5
        try clear c7
        try clear c8
        try clear c10
        try clear c10b0
        try clear c11
        try clear c11b0
        try clear c12
        try clear c12b0
        try clear c13
        try clear c13b0
        try clear c13b1
        try clear hcz9_0
        try clear hfz9_0
        try clear hx193_0
        try clear p193
        try clear p2
        try clear q193
        obtain ⟨x8_2, x9_2, x193000_2, u193000, rfl, rfl, HA, HK2, HO_193000, BK188, BK192, HB⟩ := hrel
        cases gk with
        | zero => exact absurd HA.out (by simp [spec_prRobin.l1])
        | succ k2 =>
         have H := HA.out
         clear HA
         simp only [spec_prRobin.l1] at H
         by_cases c14 : 0 ≤ x9_2
         ·rw [if_pos c14] at H
          have c14b0 : decide (0 ≤ x9_2) = true := decide_eq_true c14
          clear c14
          by_cases c15 : x9_2 < (x193000_2.length : Int)
          ·rw [if_pos c15] at H
           have c15b0 : decide (x9_2 < (x193000_2.length : Int)) = true := decide_eq_true c15
           clear c15
           by_cases c16 : (rd x193000_2 x9_2) = (-1)
           ·rw [if_pos c16] at H
            have c16b0 : ((rd x193000_2 x9_2) == (-1)) = true := beq_iff_eq.mpr c16
            have c16b1 : ((rd x193000_2 x9_2) != (-1)) = false := bne_eq_false_iff_eq.mpr c16
            clear c16
            obtain ⟨y195, hy195⟩ : ∃ y_ : List Int, y_ = (x193000_2.set (x9_2 : Int).toNat x8_2) := ⟨_, rfl⟩
            replace H : (spec_prRobin.l0 k2 a0 l1 (l1.length : Int) (wrap64 (x17_1 + 1)) y195) = some r := by first | (rw [hy195]; with_reducible exact H) | (have H2_ := (Option.bind_some _ _).symm.trans H; rw [hy195]; with_reducible exact H2_) | (have H2_ := (Option.bind_some _ _).symm.trans H; with_reducible exact H2_) | with_reducible exact H | (rw [hy195]; exact H) | exact H
            have Ny195 := aS_ hy195
            clear hy195
            have H' := aS_ H
            clear H
            have hnb18 := NB192_188.out
            have hnc18 := NB188_192.out
            have hcz19_0 : wr.cell? ⟨gb192, 0, none⟩ = some (u193000) := (blk_cell BK192.out 0).trans rfl
            have hfz19_0 := blk_frozen BK192.out 0
            obtain ⟨Ao20, co20, eo20⟩ := Kd.R_slice HO_193000.out
            subst eo20
            have p194 : 0 ≤ (x9_2 : Int) := of_decide_eq_true (by assumption)
            have q194 : x9_2 < (x193000_2.length : Int) := of_decide_eq_true (by assumption)
            obtain ⟨ad194, e194, hx194_0⟩ := Kd.at_int (Kd.R_reads' HO_193000.out).2.2 x9_2 p194 q194
            cases e194
            replace p194 := eq_true p194
            replace q194 := eq_true q194
            have p17 : 0 ≤ (x9_2 : Int) := of_decide_eq_true (by assumption)
            have q17 : (x9_2 : Int) < ((x193000_2.length : Int) : Int) := of_decide_eq_true (by assumption)
            obtain ⟨go17, co17, eo17, gb17, gl17, cl17, HG17⟩ := Kd.R_form HO_193000.out (by omega)
            (first | cases eo17 | (injection eo17 with ea_ en_ ec_; (first | subst ea_ | (injection ea_ with ea_; subst ea_)); subst ec_; clear en_))
            have GB17 := aS_ gb17
            have GG17 := aS_ HG17
            clear gb17 gl17 HG17
            (first | simp only [add_plain] at hx194_0 | skip)
            obtain ⟨hx17_0, hf17_0⟩ := Kd.R_celln 0 HO_193000.out (x9_2 : Int) p17 q17
            replace p17 := eq_true p17
            replace q17 := eq_true q17
            have HP21 := Kd.R_putg HO_193000.out (x9_2 : Int) x8_2
            go_wp2_with (first | ((with_reducible refine gate_store (t := 3) (p := 71) rfl ?_); refine store_event (t := 3) (p := 71) (v := ?vo_w22) (w1 := (wr.setCell ⟨go17, (x9_2 : Int).toNat, none⟩ (.int .i64 x8_2))) ?hg ?ho ?hn ?hr ?_; (case ho => rfl); (case hg => rfl); (case hn => rfl); (case hr => first | (go_simp; done) | (go_simp; rfl)); intro w22 hw; have hg : wr.grownBy w22 (some go17) := (by rw [hw]; exact HP21.2); have hp_ : Kd.R (Kd.int .i64) 3 w22 w.heap.size (fun _ => True) (.slice (some ⟨go17, 0, none⟩) x193000_2.length co20) y195 := (by rw [hw, Ny195.out]; exact HP21.1); clear HP21; replace BK188 := aS_ (blk_grown (g := gb188) (o := .cells #[.slice none 0 0] 26 (0, 0)) (kk_ BK188) hg (Kd.R_ne HO_193000.out BK188.out (by decide))); replace BK192 := aS_ (blk_grown (g := gb192) (o := .cells #[.slice (some ⟨go17, 0, none⟩) x193000_2.length co20] 26 (0, 0)) (kk_ BK192) hg (Kd.R_ne HO_193000.out BK192.out (by decide))); replace HO_193000 := aS_ (hp_); replace HB := aS_ ((by rw [hw]; exact bS_ (HB.out) GB17.out : Below w.heap.size w w22)); clear hg hw hp_))
            go_roundg k2
            case measure => have := HK1.out; have := HK2.out; omega
            case rel => exact ⟨(wrap64 (x17_1 + 1)), (y195), (.slice (some ⟨go17, 0, none⟩) x193000_2.length co20), sR_, H', ⟨by have := HK1.out; have := HK2.out; omega⟩, ⟨rr_ HO_193000⟩, ⟨kk_ BK188⟩, ⟨kk_ BK192⟩, ⟨bb_ HB⟩⟩
           ·rw [if_neg c16] at H
            have c16b0 : ((rd x193000_2 x9_2) == (-1)) = false := beq_eq_false_iff_ne.mpr c16
            have c16b1 : ((rd x193000_2 x9_2) != (-1)) = true := bne_iff_ne.mpr c16
            replace H := Option.bind_eq_some_iff.mp H
            obtain ⟨t197, A230, H⟩ := H
            have A23 := aS_ A230
            clear A230
            replace H := Option.bind_eq_some_iff.mp H
            obtain ⟨t198, A240, H⟩ := H
            have A24 := aS_ A240
            clear A240
            by_cases c25 : t197 > t198
            ·rw [if_pos c25] at H
             have c25b0 : decide (t198 < t197) = true := decide_eq_true c25
             clear c25
             obtain ⟨y199, hy199⟩ : ∃ y_ : List Int, y_ = (x193000_2.set (x9_2 : Int).toNat x8_2) := ⟨_, rfl⟩
             replace H : (if a0 = 0 then (none) else (spec_prRobin.l1 k2 a0 (rd x193000_2 x9_2) (Int.tmod (wrap64 (x9_2 + 1)) a0) l1 (l1.length : Int) x17_1 y199)) = some r := by first | (rw [hy199]; with_reducible exact H) | (have H2_ := (Option.bind_some _ _).symm.trans H; rw [hy199]; with_reducible exact H2_) | (have H2_ := (Option.bind_some _ _).symm.trans H; with_reducible exact H2_) | with_reducible exact H | (rw [hy199]; exact H) | exact H
             have Ny199 := aS_ hy199
             clear hy199
             by_cases c27 : a0 = 0
             ·rw [if_pos c27] at H
              exact absurd H (by simp)
             ·rw [if_neg c27] at H
              have c27b0 : (a0 == 0) = false := beq_eq_false_iff_ne.mpr c27
              have c27b1 : (a0 != 0) = true := bne_iff_ne.mpr c27
              have H' := aS_ H
              clear H
              have hnb28 := NB192_188.out
              have hnc28 := NB188_192.out
              have hcz29_0 : wr.cell? ⟨gb192, 0, none⟩ = some (u193000) := (blk_cell BK192.out 0).trans rfl
              have hfz29_0 := blk_frozen BK192.out 0
              obtain ⟨Ao30, co30, eo30⟩ := Kd.R_slice HO_193000.out
              subst eo30
              have p194 : 0 ≤ (x9_2 : Int) := of_decide_eq_true (by assumption)
              have q194 : x9_2 < (x193000_2.length : Int) := of_decide_eq_true (by assumption)
              obtain ⟨ad194, e194, hx194_0⟩ := Kd.at_int (Kd.R_reads' HO_193000.out).2.2 x9_2 p194 q194
              cases e194
              replace p194 := eq_true p194
              replace q194 := eq_true q194
              have p196 : 0 ≤ (x9_2 : Int) := of_decide_eq_true (by assumption)
              have q196 : x9_2 < (x193000_2.length : Int) := of_decide_eq_true (by assumption)
              obtain ⟨ad196, e196, hx196_0⟩ := Kd.at_int (Kd.R_reads' HO_193000.out).2.2 x9_2 p196 q196
              obtain rfl : ad194 = ad196 := (by injection e196)
              replace p196 := eq_true p196
              replace q196 := eq_true q196
              go_wp2_with (first | ((with_reducible refine gate_callee (f := 44) rfl ?_); refine goesL_ (some 39) rfl rfl Try.func44 (by kernel_rfl) rfl #[.int .i64 x8_2, .int .i64 x9_2, .int .i64 a0] rfl aR_ ?_; (with_reducible refine (spec_prCost.calls x8_2 x9_2 a0 t197 _ A23.out).mono ?_); rintro e w' ⟨rfl, ⟨nd, rfl⟩⟩; refine ⟨_, rfl, ?_⟩; (try (rw [drewN_self wr]; generalize hq_ : World.drewN wr _ = wr; have n0_ : Aside0 (Kd.R (Kd.int .i64) 3 wr w.heap.size (fun _ => True) (.slice (some ad194) x193000_2.length co30) x193000_2) := ⟨by rw [← hq_]; exact (rr_ HO_193000)⟩; have n1_ : Aside0 (wr.heap[gb188]? = some (.cells #[.slice none 0 0] 26 (0, 0))) := ⟨by rw [← hq_]; exact (kk_ BK188)⟩; have n2_ : Aside0 (wr.heap[gb192]? = some (.cells #[.slice (some ad194) x193000_2.length co30] 26 (0, 0))) := ⟨by rw [← hq_]; exact (kk_ BK192)⟩; have n3_ : Aside0 (Below w.heap.size w wr) := ⟨by rw [← hq_]; exact (bb_ HB)⟩; clear HO_193000 BK188 BK192 HB hq_; have HO_193000 := n0_; have BK188 := n1_; have BK192 := n2_; have HB := n3_; clear n0_ n1_ n2_ n3_))) | ((with_reducible refine gate_callee (f := 44) rfl ?_); refine goesL_ (some 43) rfl rfl Try.func44 (by kernel_rfl) rfl #[.int .i64 (rd x193000_2 x9_2), .int .i64 x9_2, .int .i64 a0] rfl aR_ ?_; (with_reducible refine (spec_prCost.calls (rd x193000_2 x9_2) x9_2 a0 t198 _ A24.out).mono ?_); rintro e w' ⟨rfl, ⟨nd, rfl⟩⟩; refine ⟨_, rfl, ?_⟩; (try (rw [drewN_self wr]; generalize hq_ : World.drewN wr _ = wr; have n0_ : Aside0 (Kd.R (Kd.int .i64) 3 wr w.heap.size (fun _ => True) (.slice (some ad194) x193000_2.length co30) x193000_2) := ⟨by rw [← hq_]; exact (rr_ HO_193000)⟩; have n1_ : Aside0 (wr.heap[gb188]? = some (.cells #[.slice none 0 0] 26 (0, 0))) := ⟨by rw [← hq_]; exact (kk_ BK188)⟩; have n2_ : Aside0 (wr.heap[gb192]? = some (.cells #[.slice (some ad194) x193000_2.length co30] 26 (0, 0))) := ⟨by rw [← hq_]; exact (kk_ BK192)⟩; have n3_ : Aside0 (Below w.heap.size w wr) := ⟨by rw [← hq_]; exact (bb_ HB)⟩; clear HO_193000 BK188 BK192 HB hq_; have HO_193000 := n0_; have BK188 := n1_; have BK192 := n2_; have HB := n3_; clear n0_ n1_ n2_ n3_)); have p26 : 0 ≤ (x9_2 : Int) := of_decide_eq_true (by assumption); have q26 : (x9_2 : Int) < ((x193000_2.length : Int) : Int) := of_decide_eq_true (by assumption); obtain ⟨go26, co26, eo26, gb26, gl26, cl26, HG26⟩ := Kd.R_form HO_193000.out (by omega); (first | cases eo26 | (injection eo26 with ea_ en_ ec_; (first | subst ea_ | (injection ea_ with ea_; subst ea_)); subst ec_; clear en_)); have GB26 := aS_ gb26; have GG26 := aS_ HG26; clear gb26 gl26 HG26; (first | simp only [add_plain] at hx194_0 | skip); (first | simp only [add_plain] at hx196_0 | skip); obtain ⟨hx26_0, hf26_0⟩ := Kd.R_celln 0 HO_193000.out (x9_2 : Int) p26 q26; replace p26 := eq_true p26; replace q26 := eq_true q26; obtain ⟨hy31_, hz31_⟩ := Kd.R_celln 0 HO_193000.out (x9_2 : Int) (of_decide_eq_true (by assumption)) (of_decide_eq_true (by assumption)); have HP31 := Kd.R_putg HO_193000.out (x9_2 : Int) x8_2; have hcz99_0 : wr.cell? ⟨gb192, 0, none⟩ = some (.slice (some ⟨go26, 0, none⟩) x193000_2.length co30) := (blk_cell BK192.out 0).trans rfl; have hfz99_0 := blk_frozen BK192.out 0) | ((with_reducible refine gate_store (t := 3) (p := 61) rfl ?_); refine store_event (t := 3) (p := 61) (v := ?vo_w32) (w1 := (wr.setCell ⟨go26, (x9_2 : Int).toNat, none⟩ (.int .i64 x8_2))) ?hg ?ho ?hn ?hr ?_; (case ho => rfl); (case hg => rfl); (case hn => rfl); (case hr => first | (go_simp; done) | (go_simp; rfl)); intro w32 hw; have hg : wr.grownBy w32 (some go26) := (by rw [hw]; exact HP31.2); have hp_ : Kd.R (Kd.int .i64) 3 w32 w.heap.size (fun _ => True) (.slice (some ⟨go26, 0, none⟩) x193000_2.length co30) y199 := (by rw [hw, Ny199.out]; exact HP31.1); clear HP31; replace BK188 := aS_ (blk_grown (g := gb188) (o := .cells #[.slice none 0 0] 26 (0, 0)) (kk_ BK188) hg (Kd.R_ne HO_193000.out BK188.out (by decide))); replace BK192 := aS_ (blk_grown (g := gb192) (o := .cells #[.slice (some ⟨go26, 0, none⟩) x193000_2.length co30] 26 (0, 0)) (kk_ BK192) hg (Kd.R_ne HO_193000.out BK192.out (by decide))); replace HO_193000 := aS_ (hp_); replace HB := aS_ ((by rw [hw]; exact bS_ (HB.out) GB26.out : Below w.heap.size w w32)); clear hg hw hp_))
              go_roundg k2
              case measure => have := HK1.out; have := HK2.out; omega
              case rel => exact ⟨(rd x193000_2 x9_2), (Int.tmod (wrap64 (x9_2 + 1)) a0), (y199), (.slice (some ⟨go26, 0, none⟩) x193000_2.length co30), sR_, sR_, H', ⟨by have := HK1.out; have := HK2.out; omega⟩, ⟨rr_ HO_193000⟩, ⟨kk_ BK188⟩, ⟨kk_ BK192⟩, ⟨bb_ HB⟩⟩
            ·rw [if_neg c25] at H
             have c25b0 : decide (t198 < t197) = false := decide_eq_false c25
             clear c25
             by_cases c33 : t197 = t198
             ·rw [if_pos c33] at H
              have c33b0 : (t197 == t198) = true := beq_iff_eq.mpr c33
              have c33b1 : (t197 != t198) = false := bne_eq_false_iff_eq.mpr c33
              clear c33
              by_cases c34 : x8_2 > (rd x193000_2 x9_2)
              ·rw [if_pos c34] at H
               have c34b0 : decide ((rd x193000_2 x9_2) < x8_2) = true := decide_eq_true c34
               clear c34
               obtain ⟨y200, hy200⟩ : ∃ y_ : List Int, y_ = (x193000_2.set (x9_2 : Int).toNat x8_2) := ⟨_, rfl⟩
               replace H : (if a0 = 0 then (none) else (spec_prRobin.l1 k2 a0 (rd x193000_2 x9_2) (Int.tmod (wrap64 (x9_2 + 1)) a0) l1 (l1.length : Int) x17_1 y200)) = some r := by first | (rw [hy200]; with_reducible exact H) | (have H2_ := (Option.bind_some _ _).symm.trans H; rw [hy200]; with_reducible exact H2_) | (have H2_ := (Option.bind_some _ _).symm.trans H; with_reducible exact H2_) | with_reducible exact H | (rw [hy200]; exact H) | exact H
               have Ny200 := aS_ hy200
               clear hy200
               by_cases c36 : a0 = 0
               ·rw [if_pos c36] at H
                exact absurd H (by simp)
               ·rw [if_neg c36] at H
                have c36b0 : (a0 == 0) = false := beq_eq_false_iff_ne.mpr c36
                have c36b1 : (a0 != 0) = true := bne_iff_ne.mpr c36
                have H' := aS_ H
                clear H
                have hnb37 := NB192_188.out
                have hnc37 := NB188_192.out
                have hcz38_0 : wr.cell? ⟨gb192, 0, none⟩ = some (u193000) := (blk_cell BK192.out 0).trans rfl
                have hfz38_0 := blk_frozen BK192.out 0
                obtain ⟨Ao39, co39, eo39⟩ := Kd.R_slice HO_193000.out
                subst eo39
                have p194 : 0 ≤ (x9_2 : Int) := of_decide_eq_true (by assumption)
                have q194 : x9_2 < (x193000_2.length : Int) := of_decide_eq_true (by assumption)
                obtain ⟨ad194, e194, hx194_0⟩ := Kd.at_int (Kd.R_reads' HO_193000.out).2.2 x9_2 p194 q194
                cases e194
                replace p194 := eq_true p194
                replace q194 := eq_true q194
                have p196 : 0 ≤ (x9_2 : Int) := of_decide_eq_true (by assumption)
                have q196 : x9_2 < (x193000_2.length : Int) := of_decide_eq_true (by assumption)
                obtain ⟨ad196, e196, hx196_0⟩ := Kd.at_int (Kd.R_reads' HO_193000.out).2.2 x9_2 p196 q196
                obtain rfl : ad194 = ad196 := (by injection e196)
                replace p196 := eq_true p196
                replace q196 := eq_true q196
                go_wp2_with (first | ((with_reducible refine gate_callee (f := 44) rfl ?_); refine goesL_ (some 39) rfl rfl Try.func44 (by kernel_rfl) rfl #[.int .i64 x8_2, .int .i64 x9_2, .int .i64 a0] rfl aR_ ?_; (with_reducible refine (spec_prCost.calls x8_2 x9_2 a0 t197 _ A23.out).mono ?_); rintro e w' ⟨rfl, ⟨nd, rfl⟩⟩; refine ⟨_, rfl, ?_⟩; (try (rw [drewN_self wr]; generalize hq_ : World.drewN wr _ = wr; have n0_ : Aside0 (Kd.R (Kd.int .i64) 3 wr w.heap.size (fun _ => True) (.slice (some ad194) x193000_2.length co39) x193000_2) := ⟨by rw [← hq_]; exact (rr_ HO_193000)⟩; have n1_ : Aside0 (wr.heap[gb188]? = some (.cells #[.slice none 0 0] 26 (0, 0))) := ⟨by rw [← hq_]; exact (kk_ BK188)⟩; have n2_ : Aside0 (wr.heap[gb192]? = some (.cells #[.slice (some ad194) x193000_2.length co39] 26 (0, 0))) := ⟨by rw [← hq_]; exact (kk_ BK192)⟩; have n3_ : Aside0 (Below w.heap.size w wr) := ⟨by rw [← hq_]; exact (bb_ HB)⟩; clear HO_193000 BK188 BK192 HB hq_; have HO_193000 := n0_; have BK188 := n1_; have BK192 := n2_; have HB := n3_; clear n0_ n1_ n2_ n3_))) | ((with_reducible refine gate_callee (f := 44) rfl ?_); refine goesL_ (some 43) rfl rfl Try.func44 (by kernel_rfl) rfl #[.int .i64 (rd x193000_2 x9_2), .int .i64 x9_2, .int .i64 a0] rfl aR_ ?_; (with_reducible refine (spec_prCost.calls (rd x193000_2 x9_2) x9_2 a0 t198 _ A24.out).mono ?_); rintro e w' ⟨rfl, ⟨nd, rfl⟩⟩; refine ⟨_, rfl, ?_⟩; (try (rw [drewN_self wr]; generalize hq_ : World.drewN wr _ = wr; have n0_ : Aside0 (Kd.R (Kd.int .i64) 3 wr w.heap.size (fun _ => True) (.slice (some ad194) x193000_2.length co39) x193000_2) := ⟨by rw [← hq_]; exact (rr_ HO_193000)⟩; have n1_ : Aside0 (wr.heap[gb188]? = some (.cells #[.slice none 0 0] 26 (0, 0))) := ⟨by rw [← hq_]; exact (kk_ BK188)⟩; have n2_ : Aside0 (wr.heap[gb192]? = some (.cells #[.slice (some ad194) x193000_2.length co39] 26 (0, 0))) := ⟨by rw [← hq_]; exact (kk_ BK192)⟩; have n3_ : Aside0 (Below w.heap.size w wr) := ⟨by rw [← hq_]; exact (bb_ HB)⟩; clear HO_193000 BK188 BK192 HB hq_; have HO_193000 := n0_; have BK188 := n1_; have BK192 := n2_; have HB := n3_; clear n0_ n1_ n2_ n3_)); have p35 : 0 ≤ (x9_2 : Int) := of_decide_eq_true (by assumption); have q35 : (x9_2 : Int) < ((x193000_2.length : Int) : Int) := of_decide_eq_true (by assumption); obtain ⟨go35, co35, eo35, gb35, gl35, cl35, HG35⟩ := Kd.R_form HO_193000.out (by omega); (first | cases eo35 | (injection eo35 with ea_ en_ ec_; (first | subst ea_ | (injection ea_ with ea_; subst ea_)); subst ec_; clear en_)); have GB35 := aS_ gb35; have GG35 := aS_ HG35; clear gb35 gl35 HG35; (first | simp only [add_plain] at hx194_0 | skip); (first | simp only [add_plain] at hx196_0 | skip); obtain ⟨hx35_0, hf35_0⟩ := Kd.R_celln 0 HO_193000.out (x9_2 : Int) p35 q35; replace p35 := eq_true p35; replace q35 := eq_true q35; obtain ⟨hy40_, hz40_⟩ := Kd.R_celln 0 HO_193000.out (x9_2 : Int) (of_decide_eq_true (by assumption)) (of_decide_eq_true (by assumption)); have HP40 := Kd.R_putg HO_193000.out (x9_2 : Int) x8_2; have hcz99_0 : wr.cell? ⟨gb192, 0, none⟩ = some (.slice (some ⟨go35, 0, none⟩) x193000_2.length co39) := (blk_cell BK192.out 0).trans rfl; have hfz99_0 := blk_frozen BK192.out 0) | ((with_reducible refine gate_store (t := 3) (p := 61) rfl ?_); refine store_event (t := 3) (p := 61) (v := ?vo_w41) (w1 := (wr.setCell ⟨go35, (x9_2 : Int).toNat, none⟩ (.int .i64 x8_2))) ?hg ?ho ?hn ?hr ?_; (case ho => rfl); (case hg => rfl); (case hn => rfl); (case hr => first | (go_simp; done) | (go_simp; rfl)); intro w41 hw; have hg : wr.grownBy w41 (some go35) := (by rw [hw]; exact HP40.2); have hp_ : Kd.R (Kd.int .i64) 3 w41 w.heap.size (fun _ => True) (.slice (some ⟨go35, 0, none⟩) x193000_2.length co39) y200 := (by rw [hw, Ny200.out]; exact HP40.1); clear HP40; replace BK188 := aS_ (blk_grown (g := gb188) (o := .cells #[.slice none 0 0] 26 (0, 0)) (kk_ BK188) hg (Kd.R_ne HO_193000.out BK188.out (by decide))); replace BK192 := aS_ (blk_grown (g := gb192) (o := .cells #[.slice (some ⟨go35, 0, none⟩) x193000_2.length co39] 26 (0, 0)) (kk_ BK192) hg (Kd.R_ne HO_193000.out BK192.out (by decide))); replace HO_193000 := aS_ (hp_); replace HB := aS_ ((by rw [hw]; exact bS_ (HB.out) GB35.out : Below w.heap.size w w41)); clear hg hw hp_))
                go_roundg k2
                case measure => have := HK1.out; have := HK2.out; omega
                case rel => exact ⟨(rd x193000_2 x9_2), (Int.tmod (wrap64 (x9_2 + 1)) a0), (y200), (.slice (some ⟨go35, 0, none⟩) x193000_2.length co39), sR_, sR_, H', ⟨by have := HK1.out; have := HK2.out; omega⟩, ⟨rr_ HO_193000⟩, ⟨kk_ BK188⟩, ⟨kk_ BK192⟩, ⟨bb_ HB⟩⟩
              ·rw [if_neg c34] at H
               have c34b0 : decide ((rd x193000_2 x9_2) < x8_2) = false := decide_eq_false c34
               clear c34
               by_cases c42 : a0 = 0
               ·rw [if_pos c42] at H
                exact absurd H (by simp)
               ·rw [if_neg c42] at H
                have c42b0 : (a0 == 0) = false := beq_eq_false_iff_ne.mpr c42
                have c42b1 : (a0 != 0) = true := bne_iff_ne.mpr c42
                have H' := aS_ H
                clear H
                have hnb43 := NB192_188.out
                have hnc43 := NB188_192.out
                have hcz44_0 : wr.cell? ⟨gb192, 0, none⟩ = some (u193000) := (blk_cell BK192.out 0).trans rfl
                have hfz44_0 := blk_frozen BK192.out 0
                obtain ⟨Ao45, co45, eo45⟩ := Kd.R_slice HO_193000.out
                subst eo45
                have p194 : 0 ≤ (x9_2 : Int) := of_decide_eq_true (by assumption)
                have q194 : x9_2 < (x193000_2.length : Int) := of_decide_eq_true (by assumption)
                obtain ⟨ad194, e194, hx194_0⟩ := Kd.at_int (Kd.R_reads' HO_193000.out).2.2 x9_2 p194 q194
                cases e194
                replace p194 := eq_true p194
                replace q194 := eq_true q194
                have p196 : 0 ≤ (x9_2 : Int) := of_decide_eq_true (by assumption)
                have q196 : x9_2 < (x193000_2.length : Int) := of_decide_eq_true (by assumption)
                obtain ⟨ad196, e196, hx196_0⟩ := Kd.at_int (Kd.R_reads' HO_193000.out).2.2 x9_2 p196 q196
                obtain rfl : ad194 = ad196 := (by injection e196)
                replace p196 := eq_true p196
                replace q196 := eq_true q196
                go_wp2_with (first | ((with_reducible refine gate_callee (f := 44) rfl ?_); refine goesL_ (some 39) rfl rfl Try.func44 (by kernel_rfl) rfl #[.int .i64 x8_2, .int .i64 x9_2, .int .i64 a0] rfl aR_ ?_; (with_reducible refine (spec_prCost.calls x8_2 x9_2 a0 t197 _ A23.out).mono ?_); rintro e w' ⟨rfl, ⟨nd, rfl⟩⟩; refine ⟨_, rfl, ?_⟩) | ((with_reducible refine gate_callee (f := 44) rfl ?_); refine goesL_ (some 43) rfl rfl Try.func44 (by kernel_rfl) rfl #[.int .i64 (rd x193000_2 x9_2), .int .i64 x9_2, .int .i64 a0] rfl aR_ ?_; (with_reducible refine (spec_prCost.calls (rd x193000_2 x9_2) x9_2 a0 t198 _ A24.out).mono ?_); rintro e w' ⟨rfl, ⟨nd, rfl⟩⟩; refine ⟨_, rfl, ?_⟩))
                go_roundg k2
                case measure => have := HK1.out; have := HK2.out; omega
                case rel => exact ⟨(x8_2), (Int.tmod (wrap64 (x9_2 + 1)) a0), (x193000_2), (.slice (some ad194) x193000_2.length co45), sR_, sR_, H', ⟨by have := HK1.out; have := HK2.out; omega⟩, ⟨rr_ HO_193000⟩, ⟨kk_ BK188⟩, ⟨kk_ BK192⟩, ⟨bb_ HB⟩⟩
             ·rw [if_neg c33] at H
              have c33b0 : (t197 == t198) = false := beq_eq_false_iff_ne.mpr c33
              have c33b1 : (t197 != t198) = true := bne_iff_ne.mpr c33
              by_cases c46 : a0 = 0
              ·rw [if_pos c46] at H
               exact absurd H (by simp)
              ·rw [if_neg c46] at H
               have c46b0 : (a0 == 0) = false := beq_eq_false_iff_ne.mpr c46
               have c46b1 : (a0 != 0) = true := bne_iff_ne.mpr c46
               have H' := aS_ H
               clear H
               have hnb47 := NB192_188.out
               have hnc47 := NB188_192.out
               have hcz48_0 : wr.cell? ⟨gb192, 0, none⟩ = some (u193000) := (blk_cell BK192.out 0).trans rfl
               have hfz48_0 := blk_frozen BK192.out 0
               obtain ⟨Ao49, co49, eo49⟩ := Kd.R_slice HO_193000.out
               subst eo49
               have p194 : 0 ≤ (x9_2 : Int) := of_decide_eq_true (by assumption)
               have q194 : x9_2 < (x193000_2.length : Int) := of_decide_eq_true (by assumption)
               obtain ⟨ad194, e194, hx194_0⟩ := Kd.at_int (Kd.R_reads' HO_193000.out).2.2 x9_2 p194 q194
               cases e194
               replace p194 := eq_true p194
               replace q194 := eq_true q194
               have p196 : 0 ≤ (x9_2 : Int) := of_decide_eq_true (by assumption)
               have q196 : x9_2 < (x193000_2.length : Int) := of_decide_eq_true (by assumption)
               obtain ⟨ad196, e196, hx196_0⟩ := Kd.at_int (Kd.R_reads' HO_193000.out).2.2 x9_2 p196 q196
               obtain rfl : ad194 = ad196 := (by injection e196)
               replace p196 := eq_true p196
               replace q196 := eq_true q196
               go_wp2_with (first | ((with_reducible refine gate_callee (f := 44) rfl ?_); refine goesL_ (some 39) rfl rfl Try.func44 (by kernel_rfl) rfl #[.int .i64 x8_2, .int .i64 x9_2, .int .i64 a0] rfl aR_ ?_; (with_reducible refine (spec_prCost.calls x8_2 x9_2 a0 t197 _ A23.out).mono ?_); rintro e w' ⟨rfl, ⟨nd, rfl⟩⟩; refine ⟨_, rfl, ?_⟩) | ((with_reducible refine gate_callee (f := 44) rfl ?_); refine goesL_ (some 43) rfl rfl Try.func44 (by kernel_rfl) rfl #[.int .i64 (rd x193000_2 x9_2), .int .i64 x9_2, .int .i64 a0] rfl aR_ ?_; (with_reducible refine (spec_prCost.calls (rd x193000_2 x9_2) x9_2 a0 t198 _ A24.out).mono ?_); rintro e w' ⟨rfl, ⟨nd, rfl⟩⟩; refine ⟨_, rfl, ?_⟩))
               go_roundg k2
               case measure => have := HK1.out; have := HK2.out; omega
               case rel => exact ⟨(x8_2), (Int.tmod (wrap64 (x9_2 + 1)) a0), (x193000_2), (.slice (some ad194) x193000_2.length co49), sR_, sR_, H', ⟨by have := HK1.out; have := HK2.out; omega⟩, ⟨rr_ HO_193000⟩, ⟨kk_ BK188⟩, ⟨kk_ BK192⟩, ⟨bb_ HB⟩⟩
          ·rw [if_neg c15] at H
           exact absurd H (by simp)
         ·rw [if_neg c14] at H
          exact absurd H (by simp)
     ·rw [if_neg c12] at H
      exact absurd H (by simp)
    ·rw [if_neg c11] at H
     exact absurd H (by simp)
   ·rw [if_neg c10] at H
    have c10b0 : decide (x17_1 < (l1.length : Int)) = false := decide_eq_false c10
    clear c10
    obtain rfl := Option.some.inj H
    have hnb50 := NB192_188.out
    have hnc50 := NB188_192.out
    have hcz51_0 : wr.cell? ⟨gb192, 0, none⟩ = some (u193000) := (blk_cell BK192.out 0).trans rfl
    have hfz51_0 := blk_frozen BK192.out 0
    obtain ⟨Ao52, co52, eo52⟩ := Kd.R_slice HO_193000.out
    subst eo52
    have hcz53_0 : wr.cell? ⟨gb188, 0, none⟩ = some (.slice none 0 0) := (blk_cell BK188.out 0).trans rfl
    have hfz53_0 := blk_frozen BK188.out 0
    go_wp2
    refine bodyPost_ret (results_cell_row rfl _ _ gb188 26 #[.slice Ao52 x193000_1.length co52] (0, 0) _ rfl (by (with_reducible repeat (first | refine kN_ ?_ _ | refine kD_ ?_ | refine kA_ ?_ _)); refine blk_put (cs := #[.slice none 0 0]) ?_ 0 _ rfl; (with_reducible repeat (first | refine kN_ ?_ _ | refine kD_ ?_ | refine kA_ ?_ _)); exact BK188.out) Try.underlying26 rfl (by kernel_rfl)) rfl ?_
    exact ⟨_, by first | rfl | (simp [errW_none, errW_some] <;> rfl) | (simp [*, errW_none, errW_some] <;> rfl), by (with_reducible repeat (first | apply rA_ | apply rN_ | apply rD_)); exact Kd.R_mono (Kd.R_far (p := ⟨gb188, 0, none⟩) (Kd.R_types HO_193000.out BK188.out (by decide)) (fun _ hk => hk.2) (.slice Ao52 x193000_1.length co52)) (fun _ hk => trivial), bb_ HB⟩
/-! ### spec_l1Cur_table: function 20 -/
def spec_l1Cur_table.j0 : Nat → Int → List Int → Int → Int → List Int → Option (List Int × Int × Int)
 | 0, _, _, _, _, _ => none
 | k + 1, x3, x1000, x1001, x1002, x213000 => (spec_l1Cur_one.f x1000 x1001 x1002 12).bind fun bt219 => (if bt219.1 = true then ((spec_l1Cur_pick.f x1000 bt219.2.1 bt219.2.2 x3).bind fun bt222 => ((spec_l1Cur_among.f x1000 bt222.2.1 bt222.2.2 (([(-1), (-2), 0, 5, 1000] : List Int))).bind fun bt228 => (if 0 ≤ bt222.1 then (if bt222.1 < (x213000.length : Int) then (some ((x213000.set (bt222.1 : Int).toNat bt228.1), bt228.2.1, bt228.2.2)) else (none)) else (none)))) else (some (x213000, bt219.2.1, bt219.2.2)))
def spec_l1Cur_table.f (k : Nat) (s0_0 : List Int) (s0_1 : Int) (s0_2 : Int) : Option (List Int × Int × Int) := (spec_l1Cur_keys.f k s0_0 s0_1 s0_2).bind fun bt202 => ((spec_prKeys.f k bt202.1 bt202.2.1).bind fun t208 => (if t208 = true then ((spec_prOf.f k bt202.1 bt202.2.1).bind fun t209 => ((spec_l1Cur_one.f s0_0 bt202.2.2.1 bt202.2.2.2 3).bind fun bt213 => (if bt213.1 = true then ((spec_prRobin.f k bt202.1 bt202.2.1).bind fun t216 => (spec_l1Cur_table.j0 k bt202.1 s0_0 bt213.2.1 bt213.2.2 t216)) else (spec_l1Cur_table.j0 k bt202.1 s0_0 bt213.2.1 bt213.2.2 t209)))) else (some (bt202.2.1, bt202.2.2.1, bt202.2.2.2))))
theorem spec_l1Cur_table.mono_l : ∀ k, (∀ y0 y1 y2 y3 y4, LeO (spec_l1Cur_table.j0 k y0 y1 y2 y3 y4) (spec_l1Cur_table.j0 (k + 1) y0 y1 y2 y3 y4))
 | 0 => fun _ _ _ _ _ r h => by simp [spec_l1Cur_table.j0] at h
 | k + 1 => by
  have ih0 := spec_l1Cur_table.mono_l k
  ·intro y0 y1 y2 y3 y4
   unfold spec_l1Cur_table.j0
   repeat' first
   | (with_reducible exact ih0 _ _ _ _ _)
   | (with_reducible exact spec_l1Cur_keys.mono _ _ _ _)
   | (with_reducible exact spec_prKeys.mono _ _ _)
   | (with_reducible exact spec_prOf.mono _ _ _)
   | (with_reducible exact spec_prRobin.mono _ _ _)
   | (with_reducible exact LeO.refl _)
   | (with_reducible exact LeO.none _)
   | (with_reducible refine LeO.ite ?_ ?_)
   | (with_reducible refine LeO.bind ?_ (fun _ => ?_))
   | exact ih0 _ _ _ _ _
   | exact spec_l1Cur_keys.mono _ _ _ _
   | exact spec_prKeys.mono _ _ _
   | exact spec_prOf.mono _ _ _
   | exact spec_prRobin.mono _ _ _
   | exact LeO.none _
   | refine LeO.ite ?_ ?_
   | refine LeO.bind ?_ (fun _ => ?_)
theorem spec_l1Cur_table.mono : ∀ a0 a1 a2 k, LeO (spec_l1Cur_table.f k a0 a1 a2) (spec_l1Cur_table.f (k + 1) a0 a1 a2) := by
 intro a0 a1 a2 k
 have ih0 := spec_l1Cur_table.mono_l k
 unfold spec_l1Cur_table.f
 repeat' first
   | (with_reducible exact ih0 _ _ _ _ _)
   | (with_reducible exact spec_l1Cur_keys.mono _ _ _ _)
   | (with_reducible exact spec_prKeys.mono _ _ _)
   | (with_reducible exact spec_prOf.mono _ _ _)
   | (with_reducible exact spec_prRobin.mono _ _ _)
   | (with_reducible exact LeO.refl _)
   | (with_reducible exact LeO.none _)
   | (with_reducible refine LeO.ite ?_ ?_)
   | (with_reducible refine LeO.bind ?_ (fun _ => ?_))
   | exact ih0 _ _ _ _ _
   | exact spec_l1Cur_keys.mono _ _ _ _
   | exact spec_prKeys.mono _ _ _
   | exact spec_prOf.mono _ _ _
   | exact spec_prRobin.mono _ _ _
   | exact LeO.none _
   | refine LeO.ite ?_ ?_
   | refine LeO.bind ?_ (fun _ => ?_)
def spec_l1Cur_table.T8 : Bool × List (List Nat × List Nat) := (true, [([], []), ([0], [0]), ([], []), ([], []), ([2, 3], [2, 3]), ([], []), ([], []), ([5, 6, 4], [5, 6]), ([1, 4, 0, 1, 2, 3, 4, 5, 6, 7], [1, 4]), ([8, 7, 7, 0, 1, 2, 3, 4, 5, 6, 7], [7, 8])])
def spec_l1Cur_table.B8 : List Nat := [0, 1, 0, 0, 12, 0, 0, 124, 255, 511]
theorem spec_l1Cur_table.tab8 : rtab .any (opsOf Try.f20 8) = spec_l1Cur_table.T8 := by kernel_rfl
theorem spec_l1Cur_table.bits8 : waitsOk spec_l1Cur_table.T8.2 spec_l1Cur_table.B8 = true := by kernel_rfl
set_option maxHeartbeats 8000000 in
set_option maxRecDepth 100000 in
theorem spec_l1Cur_table.calls (k : Nat) (g : Nat) (s0_0 : List Int) (s0_1 : Int) (s0_2 : Int) (r1 : List Int) (r2 : Int) (r3 : Int) (w0 w : World) (hI : IsS46 w0 w g s0_0 s0_1 s0_2) (hB : Below w0.heap.size w0 w) (h : spec_l1Cur_table.f k s0_0 s0_1 s0_2 = some (r1, r2, r3)) :
  Calls Try.prog 20 #[.pointer (some ⟨g, 0, none⟩)] w fun e w' => ∃ v0_ : Value, e = .returned (.agg #[v0_]) ∧ Kd.R (Kd.int .i64) 3 w' w.heap.size (fun _ => True) v0_ r1 ∧ IsS46 w0 w' g s0_0 r2 r3 ∧ Below w0.heap.size w0 w' ∧ KeepBut w w' g none := by
 have hu26 := Try.underlying26
 have HI0 := aS_ hI
 have HK := aS_ (KeepBut.refl w g none)
 have HL := aS_ hB.size
 clear hI
 have HW0 := aS_ hB.size
 have HB := aS_ hB
 clear hB
 have H : ((spec_l1Cur_keys.f k s0_0 s0_1 s0_2).bind fun bt202 => ((spec_prKeys.f k bt202.1 bt202.2.1).bind fun t208 => (if t208 = true then ((spec_prOf.f k bt202.1 bt202.2.1).bind fun t209 => ((spec_l1Cur_one.f s0_0 bt202.2.2.1 bt202.2.2.2 3).bind fun bt213 => (if bt213.1 = true then ((spec_prRobin.f k bt202.1 bt202.2.1).bind fun t216 => (spec_l1Cur_table.j0 k bt202.1 s0_0 bt213.2.1 bt213.2.2 t216)) else (spec_l1Cur_table.j0 k bt202.1 s0_0 bt213.2.1 bt213.2.2 t209)))) else (some (bt202.2.1, bt202.2.2.1, bt202.2.2.2))))) = some (r1, r2, r3) := h
 clear h
 replace H := Option.bind_eq_some_iff.mp H
 obtain ⟨⟨t202, t203, t206, t207⟩, A20, H⟩ := H
 have A2 := aS_ A20
 clear A20
 replace H := Option.bind_eq_some_iff.mp H
 obtain ⟨t208, A30, H⟩ := H
 have A3 := aS_ A30
 clear A30
 by_cases c4 : t208 = true
 ·subst c4
  rw [if_pos rfl] at H
  replace H := Option.bind_eq_some_iff.mp H
  obtain ⟨t209, A50, H⟩ := H
  have A5 := aS_ A50
  clear A50
  replace H := Option.bind_eq_some_iff.mp H
  obtain ⟨⟨t213, t214, t215⟩, A60, H⟩ := H
  have A6 := aS_ A60
  clear A60
  have HC7 := aS_ H
  clear H
  go_enter Try.func20, Try.ntmps20
  go_upto_if 21 with (first | ((with_reducible refine gate_dst (N := 2) rfl ?_); refine box_event ?hg (N := 2) ?hd (cs := #[.slice none 0 0]) (t := 26) ?hr ?_; (case hd => rfl); (case hg => rfl); (case hr => first | (go_simp; done) | (go_simp; rfl)); intro gb201 hg w8 hbox hb; replace HB := aS_ (below_step (by repeat (first | (with_reducible first | exact HB.out | apply bA_ | apply pN_ | apply bD_ | refine bS_ ?_ (IsS46.ge HI0.out)) | exact HB.out)) hb); have BK201 := aS_ (hbox); have GW201 := aS_ ((by rw [hg]; exact (keep_size (w := w) (g := g) (row := none) (hh_ HK)) : w.heap.size ≤ gb201)); have GE201 := aS_ ((Nat.le_trans HW0.out (by rw [hg]; exact (keep_size (w := w) (g := g) (row := none) (hh_ HK)) : w.heap.size ≤ gb201) : w0.heap.size ≤ gb201)); replace HK := aS_ (KeepBut.trans (hh_ HK) (KeepBut.of_below hb g none) (.inl rfl)); have NB0_201 := aS_ ((by rw [hg]; exact Nat.ne_of_lt (IsS46.lt (show IsS46 w0 _ g s0_0 s0_1 s0_2 from ss_ HI0)) : g ≠ gb201)); have NB201_0 := aS_ ((by rw [hg]; exact Nat.ne_of_gt (IsS46.lt (show IsS46 w0 _ g s0_0 s0_1 s0_2 from ss_ HI0)) : gb201 ≠ g)); replace HI0 := aS_ (IsS46.below (ss_ HI0) hb); clear hb hbox hg) | ((with_reducible refine gate_callee (f := 48) rfl ?_); refine goesL_ (some 8) rfl rfl Try.func48 (by kernel_rfl) rfl #[.pointer (some ⟨g, 0, none⟩)] rfl aR_ ?_; (with_reducible refine (spec_l1Cur_keys.calls k g s0_0 s0_1 s0_2 t202 t203 t206 t207 w0 _ ?side1 ?side2 A2.out).mono ?_); (case side1 => exact ss_ HI0); (case side2 => repeat (first | (with_reducible first | exact HB.out | apply bA_ | apply pN_ | apply bD_ | refine bS_ ?_ (IsS46.ge HI0.out) | refine bS_ ?_ GE201.out) | exact HB.out)); rintro e w9 ⟨v204, rfl, ho0, hi, hb, hk⟩; refine ⟨_, rfl, ?_⟩; replace BK201 := aS_ (KeepBut.blk hk (g' := gb201) (o := .cells #[.slice none 0 0] 26 (0, 0)) (kk_ BK201) NB201_0.out (by simp)); have HO205 := aS_ (Kd.R_lower ho0 (keep_size (w := w) (g := g) (row := none) (hh_ HK))); replace HK := aS_ (KeepBut.trans (hh_ HK) hk (.inl rfl)); replace HB := aS_ (hb); replace HI0 := aS_ (hi); (try clear hb); (try clear hk); (try clear hi); (try clear ho0); obtain ⟨Ao10, co10, eo10⟩ := Kd.R_slice HO205.out; subst eo10) | ((with_reducible refine gate_callee (f := 49) rfl ?_); refine goesL_ (some 13) rfl rfl Try.func49 (by kernel_rfl) rfl #[.int .i64 t202, .slice Ao10 t203.length co10] rfl aR_ ?_; (with_reducible refine (spec_prKeys.calls k t202 _ _ t203 true _ ?side1 ?side2 A3.out).mono ?_); (case side1 => exact cR_ HO205); (case side2 => exact (Kd.R_reads' HO205.out).2.1); rintro e w' ⟨rfl, ⟨nd, rfl⟩⟩; refine ⟨_, rfl, ?_⟩; (try (rw [drewN_self w9]; generalize hq_ : World.drewN w9 _ = w9; have n0_ : Aside0 (Kd.R (Kd.int .i64) 3 w9 w.heap.size (fun _ => True) (.slice Ao10 t203.length co10) t203) := ⟨by rw [← hq_]; exact (rr_ HO205)⟩; have n1_ : Aside0 (w9.heap[gb201]? = some (.cells #[.slice none 0 0] 26 (0, 0))) := ⟨by rw [← hq_]; exact (kk_ BK201)⟩; have n2_ : Aside0 (IsS46 w0 w9 g s0_0 t206 t207) := ⟨by rw [← hq_]; exact (ss_ HI0)⟩; have n3_ : Aside0 (KeepBut w w9 g none) := ⟨by rw [← hq_]; exact (hh_ HK)⟩; have n4_ : Aside0 (Below w0.heap.size w0 w9) := ⟨by rw [← hq_]; exact (by repeat (first | (with_reducible first | exact HB.out | apply bA_ | apply pN_ | apply bD_ | refine bS_ ?_ (IsS46.ge HI0.out) | refine bS_ ?_ GE201.out) | exact HB.out))⟩; clear HO205 BK201 HI0 HK HB hq_; have HO205 := n0_; have BK201 := n1_; have HI0 := n2_; have HK := n3_; have HB := n4_; clear n0_ n1_ n2_ n3_ n4_))) | ((with_reducible refine gate_callee (f := 50) rfl ?_); refine goesL_ (some 19) rfl rfl Try.func50 (by kernel_rfl) rfl #[.int .i64 t202, .slice Ao10 t203.length co10] rfl aR_ ?_; (with_reducible refine (spec_prOf.calls k t202 _ _ t203 t209 _ ?side1 ?side2 A5.out).mono ?_); (case side1 => exact cR_ HO205); (case side2 => exact (Kd.R_reads' HO205.out).2.1); rintro e w11 ⟨v210, rfl, ho0, hb⟩; refine ⟨_, rfl, ?_⟩; have HO211 := aS_ (Kd.R_lower (Kd.R_new' ho0 (Kd.R_lt (rr_ HO205))) (keep_size (w := w) (g := g) (row := none) (hh_ HK))); replace HO205 := aS_ (Kd.R_elder' (rr_ HO205) (Kd.R_base ho0) hb); replace BK201 := kO_ BK201 hb; replace HK := aS_ (KeepBut.trans (hh_ HK) (KeepBut.of_below hb g none) (.inl rfl)); replace HB := aS_ (below_step (by repeat (first | (with_reducible first | exact HB.out | apply bA_ | apply pN_ | apply bD_ | refine bS_ ?_ (IsS46.ge HI0.out) | refine bS_ ?_ GE201.out) | exact HB.out)) hb); replace HI0 := aS_ (IsS46.below (ss_ HI0) hb); (try clear hb); (try clear ho0)) | ((with_reducible refine gate_dst (N := 5) rfl ?_); refine box_event ?hg (N := 5) ?hd (cs := #[.slice none 0 0]) (t := 26) ?hr ?_; (case hd => rfl); (case hg => rfl); (case hr => first | (go_simp; done) | (go_simp; rfl)); intro gb212 hg w12 hbox hb; replace HO205 := aS_ (Kd.R_below (rr_ HO205) hb); replace HO211 := aS_ (Kd.R_below (rr_ HO211) hb); replace HB := aS_ (below_step (by repeat (first | (with_reducible first | exact HB.out | apply bA_ | apply pN_ | apply bD_ | refine bS_ ?_ (IsS46.ge HI0.out) | refine bS_ ?_ GE201.out) | exact HB.out)) hb); have BK212 := aS_ (hbox); have GW212 := aS_ ((by rw [hg]; exact (keep_size (w := w) (g := g) (row := none) (hh_ HK)) : w.heap.size ≤ gb212)); have GE212 := aS_ ((Nat.le_trans HW0.out (by rw [hg]; exact (keep_size (w := w) (g := g) (row := none) (hh_ HK)) : w.heap.size ≤ gb212) : w0.heap.size ≤ gb212)); replace HK := aS_ (KeepBut.trans (hh_ HK) (KeepBut.of_below hb g none) (.inl rfl)); have NB201_212 := nL_ BK201 hg; have NB212_201 := nG_ BK201 hg; replace BK201 := kO_ BK201 hb; have NB0_212 := aS_ ((by rw [hg]; exact Nat.ne_of_lt (IsS46.lt (show IsS46 w0 _ g s0_0 t206 t207 from ss_ HI0)) : g ≠ gb212)); have NB212_0 := aS_ ((by rw [hg]; exact Nat.ne_of_gt (IsS46.lt (show IsS46 w0 _ g s0_0 t206 t207 from ss_ HI0)) : gb212 ≠ g)); replace HI0 := aS_ (IsS46.below (ss_ HI0) hb); clear hb hbox hg; obtain ⟨Ao13, co13, eo13⟩ := Kd.R_slice HO211.out; subst eo13; have hnb14 := NB212_201.out; have hnc14 := NB201_212.out; have hnb15 := NB212_0.out; have hnc15 := NB0_212.out; have hcz16_0 : w12.cell? ⟨gb212, 0, none⟩ = some (.slice none 0 0) := (blk_cell BK212.out 0).trans rfl; have hfz16_0 := blk_frozen BK212.out 0) | ((with_reducible refine gate_callee (f := 21) rfl ?_); refine goesL_ (some 21) rfl rfl Try.func21 (by kernel_rfl) rfl #[.pointer (some ⟨g, 0, none⟩), .int .i64 3] rfl aR_ ?_; (with_reducible refine (spec_l1Cur_one.calls g s0_0 t206 t207 3 t213 t214 t215 w0 _ ?side1 ?side2 A6.out).mono ?_); (case side1 => exact ss_ HI0); (case side2 => repeat (first | (with_reducible first | exact HB.out | apply bA_ | apply pN_ | apply bD_ | refine bS_ ?_ (IsS46.ge HI0.out) | refine bS_ ?_ GE201.out | refine bS_ ?_ GE212.out) | exact HB.out)); rintro e w17 ⟨rfl, hi, hb, hk⟩; refine ⟨_, rfl, ?_⟩; replace BK201 := aS_ (KeepBut.blk hk (g' := gb201) (o := .cells #[.slice none 0 0] 26 (0, 0)) (by (with_reducible repeat (first | refine kN_ ?_ _ | refine kD_ ?_ | refine kA_ ?_ _)); refine blk_far ?_ NB201_212.out _; (with_reducible repeat (first | refine kN_ ?_ _ | refine kD_ ?_ | refine kA_ ?_ _)); exact BK201.out) NB201_0.out (by simp)); replace HO205 := aS_ (Kd.R_mono (Kd.R_keep (IsS46.apart (show IsS46 w0 _ g s0_0 t206 t207 from ss_ HI0) (by (with_reducible repeat (first | apply rA_ | apply rN_ | apply rD_)); exact (Kd.R_mono (Kd.R_far (p := ⟨gb212, 0, none⟩) (Kd.R_types HO205.out BK212.out (by decide)) (fun _ hk => hk.2) (.slice Ao13 t209.length co13)) (fun _ h_ => h_.1))) (by decide)) hk (fun _ h => h.2)) (fun _ h => h.1)); replace HO211 := aS_ (Kd.R_mono (Kd.R_keep (IsS46.apart (show IsS46 w0 _ g s0_0 t206 t207 from ss_ HI0) (by (with_reducible repeat (first | apply rA_ | apply rN_ | apply rD_)); exact (Kd.R_mono (Kd.R_far (p := ⟨gb212, 0, none⟩) (Kd.R_types HO211.out BK212.out (by decide)) (fun _ hk => hk.2) (.slice Ao13 t209.length co13)) (fun _ h_ => h_.1))) (by decide)) hk (fun _ h => h.2)) (fun _ h => h.1)); replace BK212 := aS_ (KeepBut.blk hk (g' := gb212) (o := .cells #[.slice Ao13 t209.length co13] 26 (0, 0)) (by (with_reducible repeat (first | refine kN_ ?_ _ | refine kD_ ?_ | refine kA_ ?_ _)); refine blk_put (cs := #[.slice none 0 0]) ?_ 0 _ rfl; (with_reducible repeat (first | refine kN_ ?_ _ | refine kD_ ?_ | refine kA_ ?_ _)); exact BK212.out) NB212_0.out (by simp)); replace HK := aS_ (KeepBut.trans (hh_ HK) hk (.inl rfl)); replace HB := aS_ (hb); replace HI0 := aS_ (hi); (try clear hb); (try clear hk); (try clear hi)))
  (try simp only [Act.put, List.setIfInBounds_toArray, List.set_cons_zero, List.set_cons_succ])
  go_cut [] (fun wc => ∃ (kq : Nat) (x213000_6 : List Int) (u213000 : Value), Aside0 (spec_l1Cur_table.j0 kq t202 s0_0 t214 t215 x213000_6 = some (r1, r2, r3)) ∧ Aside0 (kq ≤ k) ∧ Aside0 (Kd.R (Kd.int .i64) 3 wc w.heap.size (fun _ => True) u213000 x213000_6) ∧ Aside0 (wc.heap[gb201]? = some (.cells #[(.slice none 0 0)] 26 (0, 0))) ∧ Aside0 (wc.heap[gb212]? = some (.cells #[u213000] 26 (0, 0))) ∧ Aside0 (IsS46 w0 wc g s0_0 t214 t215) ∧ Aside0 (KeepBut w wc g none) ∧ Aside0 (Below w0.heap.size w0 wc))
  case first =>
   have H := HC7.out
   clear HC7
   by_cases c18 : t213 = true
   ·subst c18
    rw [if_pos rfl] at H
    replace H := Option.bind_eq_some_iff.mp H
    obtain ⟨t216, A190, H⟩ := H
    have A19 := aS_ A190
    clear A190
    have H' := aS_ H
    clear H
    go_wp2_with (first | ((with_reducible refine gate_callee (f := 51) rfl ?_); refine goesL_ (some 24) rfl rfl Try.func51 (by kernel_rfl) rfl #[.int .i64 t202, .slice Ao10 t203.length co10] rfl aR_ ?_; (with_reducible refine (spec_prRobin.calls k t202 _ _ t203 t216 _ ?side1 ?side2 A19.out).mono ?_); (case side1 => exact cR_ HO205); (case side2 => exact (Kd.R_reads' HO205.out).2.1); rintro e w20 ⟨v217, rfl, ho0, hb⟩; refine ⟨_, rfl, ?_⟩; have HO218 := aS_ (Kd.R_lower (Kd.R_new' (Kd.R_new' ho0 (Kd.R_lt (rr_ HO205))) (Kd.R_lt (rr_ HO211))) (keep_size (w := w) (g := g) (row := none) (hh_ HK))); replace HO205 := aS_ (Kd.R_elder' (rr_ HO205) (Kd.R_base ho0) hb); replace HO211 := aS_ (Kd.R_elder' (rr_ HO211) (Kd.R_base ho0) hb); replace BK201 := kO_ BK201 hb; replace BK212 := kO_ BK212 hb; replace HK := aS_ (KeepBut.trans (hh_ HK) (KeepBut.of_below hb g none) (.inl rfl)); replace HB := aS_ (below_step (by repeat (first | (with_reducible first | exact HB.out | apply bA_ | apply pN_ | apply bD_ | refine bS_ ?_ (IsS46.ge HI0.out) | refine bS_ ?_ GE201.out | refine bS_ ?_ GE212.out) | exact HB.out)) hb); replace HI0 := aS_ (IsS46.below (ss_ HI0) hb); (try clear hb); (try clear ho0); obtain ⟨Ao21, co21, eo21⟩ := Kd.R_slice HO218.out; subst eo21; have hnb22 := NB212_201.out; have hnc22 := NB201_212.out; have hnb23 := NB212_0.out; have hnc23 := NB0_212.out; have hcz24_0 : w20.cell? ⟨gb212, 0, none⟩ = some (.slice Ao13 t209.length co13) := (blk_cell BK212.out 0).trans rfl; have hfz24_0 := blk_frozen BK212.out 0))
    go_meet
    case rel => exact ⟨_, (t216), (.slice Ao21 t216.length co21), H', ⟨by first | omega | exact Nat.le_refl _⟩, ⟨by (with_reducible repeat (first | apply rA_ | apply rN_ | apply rD_)); exact Kd.R_mono (Kd.R_far (p := ⟨gb212, 0, none⟩) (Kd.R_types HO218.out BK212.out (by decide)) (fun _ hk => hk.2) (.slice Ao21 t216.length co21)) (fun _ hk => trivial)⟩, ⟨by (with_reducible repeat (first | refine kN_ ?_ _ | refine kD_ ?_ | refine kA_ ?_ _)); refine blk_far ?_ NB201_212.out _; (with_reducible repeat (first | refine kN_ ?_ _ | refine kD_ ?_ | refine kA_ ?_ _)); exact BK201.out⟩, ⟨by (with_reducible repeat (first | refine kN_ ?_ _ | refine kD_ ?_ | refine kA_ ?_ _)); refine blk_put (cs := #[.slice Ao13 t209.length co13]) ?_ 0 _ rfl; (with_reducible repeat (first | refine kN_ ?_ _ | refine kD_ ?_ | refine kA_ ?_ _)); exact BK212.out⟩, ⟨ss_ HI0⟩, ⟨hh_ HK⟩, ⟨by repeat (first | (with_reducible first | exact HB.out | apply bA_ | apply pN_ | apply bD_ | refine bS_ ?_ (IsS46.ge HI0.out) | refine bS_ ?_ GE201.out | refine bS_ ?_ GE212.out) | exact HB.out)⟩⟩
   ·replace c18 := Bool.eq_false_iff.mpr c18
    subst c18
    rw [if_neg (show ¬ (false = true) by decide)] at H
    have H' := aS_ H
    clear H
    go_wp2
    go_meet
    case rel => exact ⟨_, (t209), (.slice Ao13 t209.length co13), H', ⟨by first | omega | exact Nat.le_refl _⟩, ⟨by (with_reducible repeat (first | apply rA_ | apply rN_ | apply rD_)); exact Kd.R_mono HO211.out (fun _ hk => trivial)⟩, ⟨kk_ BK201⟩, ⟨kk_ BK212⟩, ⟨ss_ HI0⟩, ⟨hh_ HK⟩, ⟨by repeat (first | (with_reducible first | exact HB.out | apply bA_ | apply pN_ | apply bD_ | refine bS_ ?_ (IsS46.ge HI0.out) | refine bS_ ?_ GE201.out | refine bS_ ?_ GE212.out) | exact HB.out)⟩⟩
  case rest =>
   clear HC7
   try clear c1
   try clear c2
   try clear p2
   try clear c4
   try clear c5
   try clear c14
   try clear c15
   try clear c18
   try clear c20
   try clear c21
   try clear c22
   try clear c23
   try clear hcz16_0
   try clear hcz24_0
   try clear hfz16_0
   try clear hfz24_0
   obtain ⟨kq, x213000_6, u213000, HA, HJ6, HO_213000, BK201, BK212, HI0, HK, HB⟩ := hcut
   cases kq with
   | zero => exact absurd HA.out (by simp [spec_l1Cur_table.j0])
   | succ kj6 =>
    have H := HA.out
    clear HA
    simp only [spec_l1Cur_table.j0] at H
    replace H := Option.bind_eq_some_iff.mp H
    obtain ⟨⟨t219, t220, t221⟩, A250, H⟩ := H
    have A25 := aS_ A250
    clear A250
    by_cases c26 : t219 = true
    ·subst c26
     rw [if_pos rfl] at H
     replace H := Option.bind_eq_some_iff.mp H
     obtain ⟨⟨t222, t223, t224⟩, A270, H⟩ := H
     have A27 := aS_ A270
     clear A270
     obtain ⟨y225, hy225⟩ : ∃ y_ : List Int, y_ = (([(-1), (-2), 0, 5, 1000] : List Int)) := ⟨_, rfl⟩
     replace H : ((spec_l1Cur_among.f s0_0 t223 t224 y225).bind fun bt228 => (if 0 ≤ t222 then (if t222 < (x213000_6.length : Int) then (some ((x213000_6.set (t222 : Int).toNat bt228.1), bt228.2.1, bt228.2.2)) else (none)) else (none))) = some (r1, r2, r3) := by first | (rw [hy225]; with_reducible exact H) | (have H2_ := (Option.bind_some _ _).symm.trans H; rw [hy225]; with_reducible exact H2_) | (have H2_ := (Option.bind_some _ _).symm.trans H; with_reducible exact H2_) | with_reducible exact H | (rw [hy225]; exact H) | exact H
     have Ny225 := aS_ hy225
     clear hy225
     replace H := Option.bind_eq_some_iff.mp H
     obtain ⟨⟨t228, t229, t230⟩, A280, H⟩ := H
     have A28 := aS_ A280
     clear A280
     by_cases c29 : 0 ≤ t222
     ·rw [if_pos c29] at H
      have c29b0 : decide (0 ≤ t222) = true := decide_eq_true c29
      clear c29
      by_cases c30 : t222 < (x213000_6.length : Int)
      ·rw [if_pos c30] at H
       have c30b0 : decide (t222 < (x213000_6.length : Int)) = true := decide_eq_true c30
       clear c30
       obtain ⟨y231, hy231⟩ : ∃ y_ : List Int, y_ = (x213000_6.set (t222 : Int).toNat t228) := ⟨_, rfl⟩
       replace H : (some (y231, t229, t230)) = some (r1, r2, r3) := by first | (rw [hy231]; with_reducible exact H) | (have H2_ := (Option.bind_some _ _).symm.trans H; rw [hy231]; with_reducible exact H2_) | (have H2_ := (Option.bind_some _ _).symm.trans H; with_reducible exact H2_) | with_reducible exact H | (rw [hy231]; exact H) | exact H
       have Ny231 := aS_ hy231
       clear hy231
       simp only [Option.some.injEq, Prod.mk.injEq] at H
       obtain ⟨rfl, rfl, rfl⟩ := H
       try go_wp2_with (first | ((with_reducible refine gate_callee (f := 21) rfl ?_); refine goesL_ (some 26) rfl rfl Try.func21 (by kernel_rfl) rfl #[.pointer (some ⟨g, 0, none⟩), .int .i64 12] rfl aR_ ?_; (with_reducible refine (spec_l1Cur_one.calls g s0_0 t214 t215 12 true t220 t221 w0 _ ?side1 ?side2 A25.out).mono ?_); (case side1 => exact ss_ HI0); (case side2 => repeat (first | (with_reducible first | exact HB.out | apply bA_ | apply pN_ | apply bD_ | refine bS_ ?_ (IsS46.ge HI0.out) | refine bS_ ?_ GE201.out | refine bS_ ?_ GE212.out) | exact HB.out)); rintro e w32 ⟨rfl, hi, hb, hk⟩; refine ⟨_, rfl, ?_⟩; replace HO_213000 := aS_ (Kd.R_mono (Kd.R_keep (IsS46.apart (show IsS46 w0 _ g s0_0 t214 t215 from ss_ HI0) (rr_ HO_213000) (by decide)) hk (fun _ h => h.2)) (fun _ h => h.1)); replace BK201 := aS_ (KeepBut.blk hk (g' := gb201) (o := .cells #[.slice none 0 0] 26 (0, 0)) (kk_ BK201) NB201_0.out (by simp)); replace BK212 := aS_ (KeepBut.blk hk (g' := gb212) (o := .cells #[u213000] 26 (0, 0)) (kk_ BK212) NB212_0.out (by simp)); replace HK := aS_ (KeepBut.trans (hh_ HK) hk (.inl rfl)); replace HB := aS_ (hb); replace HI0 := aS_ (hi); (try clear hb); (try clear hk); (try clear hi)))
       replace HO_213000 := aS_ (rD_ HO_213000.out)
       replace BK201 := aS_ (kD_ BK201.out)
       replace BK212 := aS_ (kD_ BK212.out)
       replace HI0 := aS_ (IsS46.drew HI0.out)
       replace HK := aS_ (keep_drew HK.out)
       replace HB := aS_ (bD_ HB.out)
       refine start_ (n := 10) (S := fun w' => w'.cell? ⟨gb212, 0, none⟩ = some (u213000)) (ds := [9]) #[false, false, false, false, false, false, false, false, false, false] (by kernel_rfl) rfl rfl ((blk_cell BK212.out 0).trans rfl) (fun hHeld => ?_); refine with_tabW spec_l1Cur_table.tab8 spec_l1Cur_table.bits8 (fun HT_ HW_ => ?_)
       generalize w32.drew = w33 at HO_213000 BK201 BK212 HI0 HK HB hHeld ⊢
       refine pure_ (i := 0) (N := some 27) (v := ?_) (a' := ?_) #[true, false, false, false, false, false, false, false, false, false] rfl rfl (any_of HT_.out (by kernel_rfl)) (fun _ _ _ h => h) (Or.inl ⟨by rfl, ?_⟩) ?_ ?_
       rotate_left
       ·intro w'
        go_simp
        with_reducible rfl
       rotate_left
       ·simp only [Act.put, List.setIfInBounds_toArray, List.set_cons_zero, List.set_cons_succ, i64_w, i32_w]
        rfl
       refine pure_ (i := 2) (N := some 29) (v := ?_) (a' := ?_) #[true, false, true, false, false, false, false, false, false, false] rfl rfl (any_of HT_.out (by kernel_rfl)) (fun _ _ _ h => h) (Or.inl ⟨by rfl, ?_⟩) ?_ ?_
       rotate_left
       ·intro w'
        go_simp
        with_reducible rfl
       rotate_left
       ·simp only [Act.put, List.setIfInBounds_toArray, List.set_cons_zero, List.set_cons_succ, i64_w, i32_w]
        rfl
       refine pure_ (i := 3) (N := some 30) (v := ?_) (a' := ?_) #[true, false, true, true, false, false, false, false, false, false] rfl rfl (any_of HT_.out (by kernel_rfl)) (fun _ _ _ h => h) (Or.inl ⟨by rfl, ?_⟩) ?_ ?_
       rotate_left
       ·intro w'
        go_simp
        with_reducible rfl
       rotate_left
       ·simp only [Act.put, List.setIfInBounds_toArray, List.set_cons_zero, List.set_cons_succ, i64_w, i32_w]
        rfl
       refine pure_ (i := 5) (N := some 32) (v := ?_) (a' := ?_) #[true, false, true, true, false, true, false, false, false, false] rfl rfl (any_of HT_.out (by kernel_rfl)) (fun _ _ _ h => h) (Or.inl ⟨by rfl, ?_⟩) ?_ ?_
       rotate_left
       ·intro w'
        go_simp
        with_reducible rfl
       rotate_left
       ·simp only [Act.put, List.setIfInBounds_toArray, List.set_cons_zero, List.set_cons_succ, i64_w, i32_w]
        rfl
       refine take_ (i := 1) (N := some 28) (v := ?_) (a' := ?_) #[true, true, true, true, false, true, false, false, false, false] rfl rfl (take_ofW HT_.out HW_.out (by kernel_rfl)) (fun _ _ _ h => h) (Or.inl ⟨by rfl, ?_⟩) hHeld ?_ ?_
       rotate_left
       ·intro w' s0
        go_simp
        with_reducible rfl
       rotate_left
       ·simp only [Act.put, List.setIfInBounds_toArray, List.set_cons_zero, List.set_cons_succ, i64_w, i32_w]
        rfl
       refine join_ (σ := Value) 3 #[true, true, true, true, true, true, true, false, false, false] (fun s_ => [(31, .int .i64 t222), (33, s_)]) (fun s_ w' => (w'.cell? ⟨gb212, 0, none⟩ = some (u213000)) ∧ (Kd.R (Kd.int .i64) 3 w' w.heap.size (fun k_ => some k_ ≠ (u213000 : Value).ownBlock) s_ y225) ∧ (Kd.R (Kd.int .i64) 3 w' w.heap.size (fun k_ => some k_ ≠ (s_ : Value).ownBlock) u213000 x213000_6) ∧ (w'.heap[gb201]? = some (.cells #[.slice none 0 0] 26 (0, 0))) ∧ (w'.heap[gb212]? = some (.cells #[u213000] 26 (0, 0))) ∧ (IsS46 w0 w' g s0_0 t223 t224) ∧ (KeepBut w w' g none) ∧ (Below w0.heap.size w0 w')) ?_ ?_
       rotate_left
       ·intro hCont
        refine two_ (i := 4) (j := 6) (Ni := some 31) (Nj := some 33) #[true, true, true, true, true, true, false, false, false, false] #[true, true, true, true, false, true, true, false, false, false] rfl rfl rfl rfl (two_of HT_.out (by kernel_rfl)) (by decide) (by decide) (fun K hK => ?_) (fun K hK => ?_)
        ·skip
         refine goes_ Try.func23 (by kernel_rfl) rfl #[.pointer (some ⟨g, 0, none⟩), .int .i64 t202] (by rfl) rfl rfl aR_ ?_
         with_reducible refine (spec_l1Cur_pick.calls g s0_0 t220 t221 t202 t222 t223 t224 w0 _ ?side1 ?side2 A27.out).mono ?_
         (case side1 => exact ss_ HI0)
         (case side2 => repeat (first | (with_reducible first | exact HB.out | apply bA_ | apply pN_ | apply bD_ | refine bS_ ?_ (IsS46.ge HI0.out) | refine bS_ ?_ GE201.out | refine bS_ ?_ GE212.out) | exact HB.out))
         rintro e w34 ⟨rfl, hi, hb, hk⟩
         refine ⟨_, rfl, ?_⟩
         replace HO_213000 := aS_ (Kd.R_mono (Kd.R_keep (IsS46.apart (show IsS46 w0 _ g s0_0 t220 t221 from ss_ HI0) (rr_ HO_213000) (by decide)) hk (fun _ h => h.2)) (fun _ h => h.1))
         replace BK201 := aS_ (KeepBut.blk hk (g' := gb201) (o := .cells #[.slice none 0 0] 26 (0, 0)) (kk_ BK201) NB201_0.out (by simp))
         replace BK212 := aS_ (KeepBut.blk hk (g' := gb212) (o := .cells #[u213000] 26 (0, 0)) (kk_ BK212) NB212_0.out (by simp))
         replace HK := aS_ (KeepBut.trans (hh_ HK) hk (.inl rfl))
         replace HB := aS_ (hb)
         replace HI0 := aS_ (hi)
         (try clear hb)
         (try clear hk)
         (try clear hi)
         refine hK.out _ _ ((blk_cell BK212.out 0).trans rfl) (fun hHeld => ?_)
         clear hK K
         refine norm_ (a' := ?_) ?_ ?_
         rotate_left
         ·show Act.put _ (some 31) _ = _
          simp only [Act.put, List.setIfInBounds_toArray, List.set_cons_zero, List.set_cons_succ, i64_w, i32_w]
          rfl
         refine one_ (i := 6) (N := some 33) #[true, true, true, true, true, true, true, false, false, false] rfl rfl (one_of HT_.out (by kernel_rfl)) (by decide) (fun K hK => ?_)
         refine Kd.R_lit_step (Kd.int .i64) _ 3 ?hg (N := 33) ?hd (xs := ([(-1), (-2), 0, 5, 1000] : List Int)) (inner := [.int .i64 (-1), .int .i64 (-2), .int .i64 0, .int .i64 5, .int .i64 1000]) (ok := fun _ => True) (okp := fun _ => True) ?hr ?hp (fun _ hk => hk) trivial (Below.refl _ _) (Nat.le_refl _) (by simp) ?_; (case hd => rfl); (case hg => rfl); (case hr => first | (go_simp; done) | (go_simp; rfl)); (case hp => exact (Reps.one (show Kd.M (Kd.int .i64) _ _ _ (-1) [.int .i64 (-1)] from rfl) (Reps.one (show Kd.M (Kd.int .i64) _ _ _ (-2) [.int .i64 (-2)] from rfl) (Reps.one (show Kd.M (Kd.int .i64) _ _ _ 0 [.int .i64 0] from rfl) (Reps.one (show Kd.M (Kd.int .i64) _ _ _ 5 [.int .i64 5] from rfl) (Reps.one (show Kd.M (Kd.int .i64) _ _ _ 1000 [.int .i64 1000] from rfl) (Reps.none _ _)))))))
         intro v226 w35 ho36 hb hg_ hnew_
         clear hg_ hnew_
         (first | rw [← Ny225.out] at ho36 | (simp only [Int.reduceToNat] at ho36; rw [← Ny225.out] at ho36))
         have HO227 := aS_ (Kd.R_lower (Kd.R_new' ho36 (Kd.R_lt (rr_ HO_213000))) (keep_size (w := w) (g := g) (row := none) (hh_ HK)))
         replace HO_213000 := aS_ (Kd.R_elder' (rr_ HO_213000) (Kd.R_base ho36) hb)
         replace BK201 := kO_ BK201 hb
         replace BK212 := kO_ BK212 hb
         replace HK := aS_ (KeepBut.trans (hh_ HK) (KeepBut.of_below hb g none) (.inl rfl))
         replace HB := aS_ (below_step (by repeat (first | (with_reducible first | exact HB.out | apply bA_ | apply pN_ | apply bD_ | refine bS_ ?_ (IsS46.ge HI0.out) | refine bS_ ?_ GE201.out | refine bS_ ?_ GE212.out) | exact HB.out)) hb)
         replace HI0 := aS_ (IsS46.below (ss_ HI0) hb)
         clear hb ho36
         refine hK.out _ _ ((blk_cell BK212.out 0).trans rfl) (fun hHeld => ?_)
         clear hK K
         refine norm_ (a' := ?_) ?_ ?_
         rotate_left
         ·show Act.put _ (some 33) _ = _
          simp only [Act.put, List.setIfInBounds_toArray, List.set_cons_zero, List.set_cons_succ, i64_w, i32_w]
          rfl
         exact norm_ (by simp only [putAll, Act.put, List.setIfInBounds_toArray, List.set_cons_zero, List.set_cons_succ]) (hCont (v226) _ ⟨hHeld, (by (with_reducible repeat (first | apply rA_ | apply rN_ | apply rD_)); exact Kd.R_mono HO227.out (fun _ hk => hk.2)), (by (with_reducible repeat (first | apply rA_ | apply rN_ | apply rD_)); exact Kd.R_mono HO_213000.out (fun _ hk => hk.2)), (kk_ BK201), (kk_ BK212), (ss_ HI0), (hh_ HK), (by repeat (first | (with_reducible first | exact HB.out | apply bA_ | apply pN_ | apply bD_ | refine bS_ ?_ (IsS46.ge HI0.out) | refine bS_ ?_ GE201.out | refine bS_ ?_ GE212.out) | exact HB.out))⟩)
        ·skip
         refine Kd.R_lit_step (Kd.int .i64) _ 3 ?hg (N := 33) ?hd (xs := ([(-1), (-2), 0, 5, 1000] : List Int)) (inner := [.int .i64 (-1), .int .i64 (-2), .int .i64 0, .int .i64 5, .int .i64 1000]) (ok := fun _ => True) (okp := fun _ => True) ?hr ?hp (fun _ hk => hk) trivial (Below.refl _ _) (Nat.le_refl _) (by simp) ?_; (case hd => rfl); (case hg => rfl); (case hr => first | (go_simp; done) | (go_simp; rfl)); (case hp => exact (Reps.one (show Kd.M (Kd.int .i64) _ _ _ (-1) [.int .i64 (-1)] from rfl) (Reps.one (show Kd.M (Kd.int .i64) _ _ _ (-2) [.int .i64 (-2)] from rfl) (Reps.one (show Kd.M (Kd.int .i64) _ _ _ 0 [.int .i64 0] from rfl) (Reps.one (show Kd.M (Kd.int .i64) _ _ _ 5 [.int .i64 5] from rfl) (Reps.one (show Kd.M (Kd.int .i64) _ _ _ 1000 [.int .i64 1000] from rfl) (Reps.none _ _)))))))
         intro v226 w34 ho35 hb hg_ hnew_
         clear hg_ hnew_
         (first | rw [← Ny225.out] at ho35 | (simp only [Int.reduceToNat] at ho35; rw [← Ny225.out] at ho35))
         have HO227 := aS_ (Kd.R_lower (Kd.R_new' ho35 (Kd.R_lt (rr_ HO_213000))) (keep_size (w := w) (g := g) (row := none) (hh_ HK)))
         replace HO_213000 := aS_ (Kd.R_elder' (rr_ HO_213000) (Kd.R_base ho35) hb)
         replace BK201 := kO_ BK201 hb
         replace BK212 := kO_ BK212 hb
         replace HK := aS_ (KeepBut.trans (hh_ HK) (KeepBut.of_below hb g none) (.inl rfl))
         replace HB := aS_ (below_step (by repeat (first | (with_reducible first | exact HB.out | apply bA_ | apply pN_ | apply bD_ | refine bS_ ?_ (IsS46.ge HI0.out) | refine bS_ ?_ GE201.out | refine bS_ ?_ GE212.out) | exact HB.out)) hb)
         replace HI0 := aS_ (IsS46.below (ss_ HI0) hb)
         clear hb ho35
         refine hK.out _ _ ((blk_cell BK212.out 0).trans rfl) (fun hHeld => ?_)
         clear hK K
         refine norm_ (a' := ?_) ?_ ?_
         rotate_left
         ·show Act.put _ (some 33) _ = _
          simp only [Act.put, List.setIfInBounds_toArray, List.set_cons_zero, List.set_cons_succ, i64_w, i32_w]
          rfl
         refine one_ (i := 4) (N := some 31) #[true, true, true, true, true, true, true, false, false, false] rfl rfl (one_of HT_.out (by kernel_rfl)) (by decide) (fun K hK => ?_)
         refine goes_ Try.func23 (by kernel_rfl) rfl #[.pointer (some ⟨g, 0, none⟩), .int .i64 t202] (by rfl) rfl rfl aR_ ?_
         with_reducible refine (spec_l1Cur_pick.calls g s0_0 t220 t221 t202 t222 t223 t224 w0 _ ?side1 ?side2 A27.out).mono ?_
         (case side1 => exact ss_ HI0)
         (case side2 => repeat (first | (with_reducible first | exact HB.out | apply bA_ | apply pN_ | apply bD_ | refine bS_ ?_ (IsS46.ge HI0.out) | refine bS_ ?_ GE201.out | refine bS_ ?_ GE212.out) | exact HB.out))
         rintro e w36 ⟨rfl, hi, hb, hk⟩
         refine ⟨_, rfl, ?_⟩
         replace HO_213000 := aS_ (Kd.R_mono (Kd.R_keep (IsS46.apart (show IsS46 w0 _ g s0_0 t220 t221 from ss_ HI0) (rr_ HO_213000) (by decide)) hk (fun _ h => h.2)) (fun _ h => h.1))
         replace BK201 := aS_ (KeepBut.blk hk (g' := gb201) (o := .cells #[.slice none 0 0] 26 (0, 0)) (kk_ BK201) NB201_0.out (by simp))
         replace BK212 := aS_ (KeepBut.blk hk (g' := gb212) (o := .cells #[u213000] 26 (0, 0)) (kk_ BK212) NB212_0.out (by simp))
         replace HO227 := aS_ (Kd.R_mono (Kd.R_keep (IsS46.apart (show IsS46 w0 _ g s0_0 t220 t221 from ss_ HI0) (rr_ HO227) (by decide)) hk (fun _ h => h.2)) (fun _ h => h.1))
         replace HK := aS_ (KeepBut.trans (hh_ HK) hk (.inl rfl))
         replace HB := aS_ (hb)
         replace HI0 := aS_ (hi)
         (try clear hb)
         (try clear hk)
         (try clear hi)
         refine hK.out _ _ ((blk_cell BK212.out 0).trans rfl) (fun hHeld => ?_)
         clear hK K
         refine norm_ (a' := ?_) ?_ ?_
         rotate_left
         ·show Act.put _ (some 31) _ = _
          simp only [Act.put, List.setIfInBounds_toArray, List.set_cons_zero, List.set_cons_succ, i64_w, i32_w]
          rfl
         exact norm_ (by simp only [putAll, Act.put, List.setIfInBounds_toArray, List.set_cons_zero, List.set_cons_succ]) (hCont (v226) _ ⟨hHeld, (by (with_reducible repeat (first | apply rA_ | apply rN_ | apply rD_)); exact Kd.R_mono HO227.out (fun _ hk => hk.2)), (by (with_reducible repeat (first | apply rA_ | apply rN_ | apply rD_)); exact Kd.R_mono HO_213000.out (fun _ hk => hk.2)), (kk_ BK201), (kk_ BK212), (ss_ HI0), (hh_ HK), (by repeat (first | (with_reducible first | exact HB.out | apply bA_ | apply pN_ | apply bD_ | refine bS_ ?_ (IsS46.ge HI0.out) | refine bS_ ?_ GE201.out | refine bS_ ?_ GE212.out) | exact HB.out))⟩)
       rintro v226 w37 ⟨hS_, h0_, h1_, h2_, h3_, h4_, h5_, h6_⟩
       have n0_ : Aside0 (Kd.R (Kd.int .i64) 3 w37 w.heap.size (fun k_ => some k_ ≠ (u213000 : Value).ownBlock) v226 y225) := ⟨h0_⟩
       have n1_ : Aside0 (Kd.R (Kd.int .i64) 3 w37 w.heap.size (fun k_ => some k_ ≠ (v226 : Value).ownBlock) u213000 x213000_6) := ⟨h1_⟩
       have n2_ : Aside0 (w37.heap[gb201]? = some (.cells #[.slice none 0 0] 26 (0, 0))) := ⟨h2_⟩
       have n3_ : Aside0 (w37.heap[gb212]? = some (.cells #[u213000] 26 (0, 0))) := ⟨h3_⟩
       have n4_ : Aside0 (IsS46 w0 w37 g s0_0 t223 t224) := ⟨h4_⟩
       have n5_ : Aside0 (KeepBut w w37 g none) := ⟨h5_⟩
       have n6_ : Aside0 (Below w0.heap.size w0 w37) := ⟨h6_⟩
       clear HO_213000 BK201 BK212 HI0 HK HB
       clear h0_ h1_ h2_ h3_ h4_ h5_ h6_
       have HO227 := n0_
       have HO_213000 := n1_
       have BK201 := n2_
       have BK212 := n3_
       have HI0 := n4_
       have HK := n5_
       have HB := n6_
       clear n0_ n1_ n2_ n3_ n4_ n5_ n6_
       have hHeld : w37.cell? ⟨gb212, 0, none⟩ = some (u213000) := hS_
       obtain ⟨Ao38, co38, eo38⟩ := Kd.R_slice HO227.out
       (first | subst eo38 | (injection eo38 with f1_ f2_ f3_; have f4_ := f1_.symm; have f5_ := f3_.symm; clear f1_ f2_ f3_; subst f4_; subst f5_))
       refine norm_ (a' := ?_) ?_ ?_
       rotate_left
       ·simp only [putAll, Act.put, List.setIfInBounds_toArray, List.set_cons_zero, List.set_cons_succ]
        rfl
       refine one_ (i := 7) (N := some 34) #[true, true, true, true, true, true, true, true, false, false] rfl rfl (one_of HT_.out (by kernel_rfl)) (by decide) (fun K hK => ?_)
       refine goes_ Try.func24 (by kernel_rfl) rfl #[.pointer (some ⟨g, 0, none⟩), .slice Ao38 y225.length co38] (by rfl) rfl rfl aR_ ?_
       with_reducible refine (spec_l1Cur_among.calls g s0_0 t223 t224 _ _ y225 t228 t229 t230 w0 _ ?side1 ?side2 ?side3 ?side4 ?side5 A28.out).mono ?_
       (case side1 => exact ss_ HI0)
       (case side2 => repeat (first | (with_reducible first | exact HB.out | apply bA_ | apply pN_ | apply bD_ | refine bS_ ?_ (IsS46.ge HI0.out) | refine bS_ ?_ GE201.out | refine bS_ ?_ GE212.out) | exact HB.out))
       (case side3 => exact cR_ HO227)
       (case side4 => exact (Kd.R_reads' HO227.out).2.1)
       (case side5 => exact far_slice (IsS46.own_ne HI0.out HO227.out (by decide)))
       rintro e w39 ⟨rfl, hi, hb, hk⟩
       refine ⟨_, rfl, ?_⟩
       replace HO_213000 := aS_ (Kd.R_mono (Kd.R_keep (IsS46.apart (show IsS46 w0 _ g s0_0 t223 t224 from ss_ HI0) (rr_ HO_213000) (by decide)) hk (fun _ h => h.2)) (fun _ h => h.1))
       replace BK201 := aS_ (KeepBut.blk hk (g' := gb201) (o := .cells #[.slice none 0 0] 26 (0, 0)) (kk_ BK201) NB201_0.out (by simp))
       replace BK212 := aS_ (KeepBut.blk hk (g' := gb212) (o := .cells #[u213000] 26 (0, 0)) (kk_ BK212) NB212_0.out (by simp))
       replace HO227 := aS_ (Kd.R_mono (Kd.R_keep (IsS46.apart (show IsS46 w0 _ g s0_0 t223 t224 from ss_ HI0) (rr_ HO227) (by decide)) hk (fun _ h => h.2)) (fun _ h => h.1))
       replace HK := aS_ (KeepBut.trans (hh_ HK) hk (.inl rfl))
       replace HB := aS_ (hb)
       replace HI0 := aS_ (hi)
       (try clear hb)
       (try clear hk)
       (try clear hi)
       have p31 : 0 ≤ (t222 : Int) := of_decide_eq_true (by assumption)
       have q31 : (t222 : Int) < ((x213000_6.length : Int) : Int) := of_decide_eq_true (by assumption)
       obtain ⟨go31, co31, eo31, gb31, gl31, cl31, HG31⟩ := Kd.R_form HO_213000.out (by omega)
       (first | cases eo31 | (injection eo31 with ea_ en_ ec_; (first | subst ea_ | (injection ea_ with ea_; subst ea_)); subst ec_; clear en_))
       have GB31 := aS_ gb31
       have GG31 := aS_ HG31
       clear gb31 gl31 HG31
       obtain ⟨hx31_0, hf31_0⟩ := Kd.R_celln 0 HO_213000.out (t222 : Int) p31 q31
       replace p31 := eq_true p31
       replace q31 := eq_true q31
       have HN0_go31 := aS_ (show g ≠ go31 from by have h_ := IsS46.own_ne HI0.out HO_213000.out (by decide); intro e_; exact h_ (by rw [e_]; rfl))
       have HP40 := Kd.R_putn HO_213000.out (t222 : Int) t228
       rw [← Ny231.out] at HP40
       have HQ40 := aS_ HP40
       clear HP40
       refine hK.out _ _ ((blk_cell BK212.out 0).trans rfl) (fun hHeld => ?_)
       clear hK K
       refine norm_ (a' := ?_) ?_ ?_
       rotate_left
       ·show Act.put _ (some 34) _ = _
        simp only [Act.put, List.setIfInBounds_toArray, List.set_cons_zero, List.set_cons_succ, i64_w, i32_w]
        rfl
       refine pure_ (i := 8) (N := some 35) (v := ?_) (a' := ?_) #[true, true, true, true, true, true, true, true, true, false] rfl rfl (any_of HT_.out (by kernel_rfl)) (fun _ _ _ h => h) (Or.inl ⟨by rfl, ?_⟩) ?_ ?_
       rotate_left
       ·intro w'
        go_simp
        with_reducible rfl
       rotate_left
       ·simp only [Act.put, List.setIfInBounds_toArray, List.set_cons_zero, List.set_cons_succ, i64_w, i32_w]
        rfl
       refine last_ (i := 9) (N := none) #[true, true, true, true, true, true, true, true, true, true] rfl rfl (one_of HT_.out (by kernel_rfl)) (by decide) (fun K hK => ?_)
       refine skip_ (w1 := ?_) (by rfl) rfl ?_ ?_
       rotate_left
       ·go_simp
        rfl
       refine hK.out _ _ ?_
       clear hK K
       refine done_ (done_of HT_.out (by kernel_rfl)) ?_
       have n0_ : Aside0 (Kd.R (Kd.int .i64) 3 (w39.setCell ⟨go31, (t222 : Int).toNat, none⟩ (.int .i64 t228)) w.heap.size (fun k_ => some k_ ≠ (.slice Ao38 y225.length co38 : Value).ownBlock) (.slice (some ⟨go31, 0, none⟩) x213000_6.length co31) y231) := ⟨rr_ HQ40⟩
       have n1_ : Aside0 (Kd.R (Kd.int .i64) 3 (w39.setCell ⟨go31, (t222 : Int).toNat, none⟩ (.int .i64 t228)) w.heap.size (fun k_ => some k_ ≠ (.slice (some ⟨go31, 0, none⟩) x213000_6.length co31 : Value).ownBlock) (.slice Ao38 y225.length co38) y225) := ⟨by (with_reducible repeat (first | apply rA_ | apply rN_ | apply rD_)); exact Kd.R_mono (Kd.R_far (p := ⟨go31, (t222 : Int).toNat, none⟩) (Kd.R_mono HO227.out (fun k_ hk => (⟨hk, fun e_ => hk (by rw [e_]; rfl)⟩ : _ ∧ k_ ≠ go31))) (fun _ hk => hk.2) (.int .i64 t228)) (fun _ hk => hk.1)⟩
       have n2_ : Aside0 ((w39.setCell ⟨go31, (t222 : Int).toNat, none⟩ (.int .i64 t228)).heap[gb201]? = some (.cells #[.slice none 0 0] 26 (0, 0))) := ⟨by (with_reducible repeat (first | refine kN_ ?_ _ | refine kD_ ?_ | refine kA_ ?_ _)); refine blk_far ?_ (by have h_ := Kd.R_ne HO_213000.out BK201.out (by decide); intro e_; exact h_ (by rw [e_]; rfl)) _; (with_reducible repeat (first | refine kN_ ?_ _ | refine kD_ ?_ | refine kA_ ?_ _)); exact BK201.out⟩
       have n3_ : Aside0 ((w39.setCell ⟨go31, (t222 : Int).toNat, none⟩ (.int .i64 t228)).heap[gb212]? = some (.cells #[.slice (some ⟨go31, 0, none⟩) x213000_6.length co31] 26 (0, 0))) := ⟨by (with_reducible repeat (first | refine kN_ ?_ _ | refine kD_ ?_ | refine kA_ ?_ _)); refine blk_far ?_ (by have h_ := Kd.R_ne HO_213000.out BK212.out (by decide); intro e_; exact h_ (by rw [e_]; rfl)) _; (with_reducible repeat (first | refine kN_ ?_ _ | refine kD_ ?_ | refine kA_ ?_ _)); exact BK212.out⟩
       have n4_ : Aside0 (IsS46 w0 (w39.setCell ⟨go31, (t222 : Int).toNat, none⟩ (.int .i64 t228)) g s0_0 t229 t230) := ⟨ss_ HI0⟩
       have n5_ : Aside0 (KeepBut w (w39.setCell ⟨go31, (t222 : Int).toNat, none⟩ (.int .i64 t228)) g none) := ⟨hh_ HK⟩
       have n6_ : Aside0 (Below w0.heap.size w0 (w39.setCell ⟨go31, (t222 : Int).toNat, none⟩ (.int .i64 t228))) := ⟨by repeat (first | (with_reducible first | exact HB.out | apply bA_ | apply pN_ | apply bD_ | refine bS_ ?_ (Nat.le_trans HL.out GB31.out) | refine bS_ ?_ (IsS46.ge HI0.out) | refine bS_ ?_ GE201.out | refine bS_ ?_ GE212.out) | exact HB.out)⟩
       (try clear HO_213000)
       (try clear HO227)
       (try clear BK201)
       (try clear BK212)
       (try clear HI0)
       (try clear HK)
       (try clear HB)
       generalize (w39.setCell ⟨go31, (t222 : Int).toNat, none⟩ (.int .i64 t228)) = w41 at n0_ n1_ n2_ n3_ n4_ n5_ n6_ ⊢
       have HO_213000 := n0_
       have HO227 := n1_
       have BK201 := n2_
       have BK212 := n3_
       have HI0 := n4_
       have HK := n5_
       have HB := n6_
       clear n0_ n1_ n2_ n3_ n4_ n5_ n6_
       have hnb42 := NB212_201.out
       have hnc42 := NB201_212.out
       have hnb43 := NB212_0.out
       have hnc43 := NB0_212.out
       have hcz44_0 : w41.cell? ⟨gb212, 0, none⟩ = some (.slice (some ⟨go31, 0, none⟩) x213000_6.length co31) := (blk_cell BK212.out 0).trans rfl
       have hfz44_0 := blk_frozen BK212.out 0
       have hnb45 := NB201_0.out
       have hnc45 := NB0_201.out
       have hcz46_0 : w41.cell? ⟨gb201, 0, none⟩ = some (.slice none 0 0) := (blk_cell BK201.out 0).trans rfl
       have hfz46_0 := blk_frozen BK201.out 0
       try go_wp2
       refine bodyPost_ret (results_cell_row rfl _ _ gb201 26 #[.slice (some ⟨go31, 0, none⟩) x213000_6.length co31] (0, 0) _ rfl (by (with_reducible repeat (first | refine kN_ ?_ _ | refine kD_ ?_ | refine kA_ ?_ _)); refine blk_put (cs := #[.slice none 0 0]) ?_ 0 _ rfl; (with_reducible repeat (first | refine kN_ ?_ _ | refine kD_ ?_ | refine kA_ ?_ _)); exact BK201.out) Try.underlying26 rfl (by kernel_rfl)) rfl ?_
       exact ⟨_, by first | rfl | (simp [errW_none, errW_some] <;> rfl) | (simp [*, errW_none, errW_some] <;> rfl), by (with_reducible repeat (first | apply rA_ | apply rN_ | apply rD_)); exact Kd.R_mono (Kd.R_far (p := ⟨gb201, 0, none⟩) (Kd.R_types HO_213000.out BK201.out (by decide)) (fun _ hk => hk.2) (.slice (some ⟨go31, 0, none⟩) x213000_6.length co31)) (fun _ hk => trivial), ss_ HI0, by repeat (first | (with_reducible first | exact HB.out | apply bA_ | apply pN_ | apply bD_ | refine bS_ ?_ (IsS46.ge HI0.out) | refine bS_ ?_ GE201.out | refine bS_ ?_ GE212.out) | exact HB.out), hh_ HK⟩
      ·rw [if_neg c30] at H
       exact absurd H (by simp)
     ·rw [if_neg c29] at H
      exact absurd H (by simp)
    ·replace c26 := Bool.eq_false_iff.mpr c26
     subst c26
     rw [if_neg (show ¬ (false = true) by decide)] at H
     simp only [Option.some.injEq, Prod.mk.injEq] at H
     obtain ⟨rfl, rfl, rfl⟩ := H
     go_wp2_with (first | ((with_reducible refine gate_callee (f := 21) rfl ?_); refine goesL_ (some 26) rfl rfl Try.func21 (by kernel_rfl) rfl #[.pointer (some ⟨g, 0, none⟩), .int .i64 12] rfl aR_ ?_; (with_reducible refine (spec_l1Cur_one.calls g s0_0 t214 t215 12 false t220 t221 w0 _ ?side1 ?side2 A25.out).mono ?_); (case side1 => exact ss_ HI0); (case side2 => repeat (first | (with_reducible first | exact HB.out | apply bA_ | apply pN_ | apply bD_ | refine bS_ ?_ (IsS46.ge HI0.out) | refine bS_ ?_ GE201.out | refine bS_ ?_ GE212.out) | exact HB.out)); rintro e w47 ⟨rfl, hi, hb, hk⟩; refine ⟨_, rfl, ?_⟩; replace HO_213000 := aS_ (Kd.R_mono (Kd.R_keep (IsS46.apart (show IsS46 w0 _ g s0_0 t214 t215 from ss_ HI0) (rr_ HO_213000) (by decide)) hk (fun _ h => h.2)) (fun _ h => h.1)); replace BK201 := aS_ (KeepBut.blk hk (g' := gb201) (o := .cells #[.slice none 0 0] 26 (0, 0)) (kk_ BK201) NB201_0.out (by simp)); replace BK212 := aS_ (KeepBut.blk hk (g' := gb212) (o := .cells #[u213000] 26 (0, 0)) (kk_ BK212) NB212_0.out (by simp)); replace HK := aS_ (KeepBut.trans (hh_ HK) hk (.inl rfl)); replace HB := aS_ (hb); replace HI0 := aS_ (hi); (try clear hb); (try clear hk); (try clear hi); have hnb48 := NB212_201.out; have hnc48 := NB201_212.out; have hnb49 := NB212_0.out; have hnc49 := NB0_212.out; have hcz50_0 : w47.cell? ⟨gb212, 0, none⟩ = some (u213000) := (blk_cell BK212.out 0).trans rfl; have hfz50_0 := blk_frozen BK212.out 0; obtain ⟨Ao51, co51, eo51⟩ := Kd.R_slice HO_213000.out; subst eo51; have hnb52 := NB201_0.out; have hnc52 := NB0_201.out; have hcz53_0 : w47.cell? ⟨gb201, 0, none⟩ = some (.slice none 0 0) := (blk_cell BK201.out 0).trans rfl; have hfz53_0 := blk_frozen BK201.out 0))
     refine bodyPost_ret (results_cell_row rfl _ _ gb201 26 #[.slice Ao51 x213000_6.length co51] (0, 0) _ rfl (by (with_reducible repeat (first | refine kN_ ?_ _ | refine kD_ ?_ | refine kA_ ?_ _)); refine blk_put (cs := #[.slice none 0 0]) ?_ 0 _ rfl; (with_reducible repeat (first | refine kN_ ?_ _ | refine kD_ ?_ | refine kA_ ?_ _)); exact BK201.out) Try.underlying26 rfl (by kernel_rfl)) rfl ?_
     exact ⟨_, by first | rfl | (simp [errW_none, errW_some] <;> rfl) | (simp [*, errW_none, errW_some] <;> rfl), by (with_reducible repeat (first | apply rA_ | apply rN_ | apply rD_)); exact Kd.R_mono (Kd.R_far (p := ⟨gb201, 0, none⟩) (Kd.R_types HO_213000.out BK201.out (by decide)) (fun _ hk => hk.2) (.slice Ao51 x213000_6.length co51)) (fun _ hk => trivial), ss_ HI0, by repeat (first | (with_reducible first | exact HB.out | apply bA_ | apply pN_ | apply bD_ | refine bS_ ?_ (IsS46.ge HI0.out) | refine bS_ ?_ GE201.out | refine bS_ ?_ GE212.out) | exact HB.out), hh_ HK⟩
 ·replace c4 := Bool.eq_false_iff.mpr c4
  subst c4
  rw [if_neg (show ¬ (false = true) by decide)] at H
  simp only [Option.some.injEq, Prod.mk.injEq] at H
  obtain ⟨rfl, rfl, rfl⟩ := H
  go_enter Try.func20, Try.ntmps20
  go_wp2_with (first | ((with_reducible refine gate_dst (N := 2) rfl ?_); refine box_event ?hg (N := 2) ?hd (cs := #[.slice none 0 0]) (t := 26) ?hr ?_; (case hd => rfl); (case hg => rfl); (case hr => first | (go_simp; done) | (go_simp; rfl)); intro gb201 hg w54 hbox hb; replace HB := aS_ (below_step (by repeat (first | (with_reducible first | exact HB.out | apply bA_ | apply pN_ | apply bD_ | refine bS_ ?_ (IsS46.ge HI0.out)) | exact HB.out)) hb); have BK201 := aS_ (hbox); have GW201 := aS_ ((by rw [hg]; exact (keep_size (w := w) (g := g) (row := none) (hh_ HK)) : w.heap.size ≤ gb201)); have GE201 := aS_ ((Nat.le_trans HW0.out (by rw [hg]; exact (keep_size (w := w) (g := g) (row := none) (hh_ HK)) : w.heap.size ≤ gb201) : w0.heap.size ≤ gb201)); replace HK := aS_ (KeepBut.trans (hh_ HK) (KeepBut.of_below hb g none) (.inl rfl)); have NB0_201 := aS_ ((by rw [hg]; exact Nat.ne_of_lt (IsS46.lt (show IsS46 w0 _ g s0_0 s0_1 s0_2 from ss_ HI0)) : g ≠ gb201)); have NB201_0 := aS_ ((by rw [hg]; exact Nat.ne_of_gt (IsS46.lt (show IsS46 w0 _ g s0_0 s0_1 s0_2 from ss_ HI0)) : gb201 ≠ g)); replace HI0 := aS_ (IsS46.below (ss_ HI0) hb); clear hb hbox hg) | ((with_reducible refine gate_callee (f := 48) rfl ?_); refine goesL_ (some 8) rfl rfl Try.func48 (by kernel_rfl) rfl #[.pointer (some ⟨g, 0, none⟩)] rfl aR_ ?_; (with_reducible refine (spec_l1Cur_keys.calls k g s0_0 s0_1 s0_2 t202 t203 t206 t207 w0 _ ?side1 ?side2 A2.out).mono ?_); (case side1 => exact ss_ HI0); (case side2 => repeat (first | (with_reducible first | exact HB.out | apply bA_ | apply pN_ | apply bD_ | refine bS_ ?_ (IsS46.ge HI0.out) | refine bS_ ?_ GE201.out) | exact HB.out)); rintro e w55 ⟨v204, rfl, ho0, hi, hb, hk⟩; refine ⟨_, rfl, ?_⟩; replace BK201 := aS_ (KeepBut.blk hk (g' := gb201) (o := .cells #[.slice none 0 0] 26 (0, 0)) (kk_ BK201) NB201_0.out (by simp)); have HO205 := aS_ (Kd.R_lower ho0 (keep_size (w := w) (g := g) (row := none) (hh_ HK))); replace HK := aS_ (KeepBut.trans (hh_ HK) hk (.inl rfl)); replace HB := aS_ (hb); replace HI0 := aS_ (hi); (try clear hb); (try clear hk); (try clear hi); (try clear ho0); obtain ⟨Ao56, co56, eo56⟩ := Kd.R_slice HO205.out; subst eo56) | ((with_reducible refine gate_callee (f := 49) rfl ?_); refine goesL_ (some 13) rfl rfl Try.func49 (by kernel_rfl) rfl #[.int .i64 t202, .slice Ao56 t203.length co56] rfl aR_ ?_; (with_reducible refine (spec_prKeys.calls k t202 _ _ t203 false _ ?side1 ?side2 A3.out).mono ?_); (case side1 => exact cR_ HO205); (case side2 => exact (Kd.R_reads' HO205.out).2.1); rintro e w' ⟨rfl, ⟨nd, rfl⟩⟩; refine ⟨_, rfl, ?_⟩; (try (rw [drewN_self w55]; generalize hq_ : World.drewN w55 _ = w55; have n0_ : Aside0 (Kd.R (Kd.int .i64) 3 w55 w.heap.size (fun _ => True) (.slice Ao56 t203.length co56) t203) := ⟨by rw [← hq_]; exact (rr_ HO205)⟩; have n1_ : Aside0 (w55.heap[gb201]? = some (.cells #[.slice none 0 0] 26 (0, 0))) := ⟨by rw [← hq_]; exact (kk_ BK201)⟩; have n2_ : Aside0 (IsS46 w0 w55 g s0_0 t206 t207) := ⟨by rw [← hq_]; exact (ss_ HI0)⟩; have n3_ : Aside0 (KeepBut w w55 g none) := ⟨by rw [← hq_]; exact (hh_ HK)⟩; have n4_ : Aside0 (Below w0.heap.size w0 w55) := ⟨by rw [← hq_]; exact (by repeat (first | (with_reducible first | exact HB.out | apply bA_ | apply pN_ | apply bD_ | refine bS_ ?_ (IsS46.ge HI0.out) | refine bS_ ?_ GE201.out) | exact HB.out))⟩; clear HO205 BK201 HI0 HK HB hq_; have HO205 := n0_; have BK201 := n1_; have HI0 := n2_; have HK := n3_; have HB := n4_; clear n0_ n1_ n2_ n3_ n4_)); have hnb57 := NB201_0.out; have hnc57 := NB0_201.out; have hcz58_0 : w55.cell? ⟨gb201, 0, none⟩ = some (.slice none 0 0) := (blk_cell BK201.out 0).trans rfl; have hfz58_0 := blk_frozen BK201.out 0))
  refine bodyPost_ret (results_cell_row rfl _ _ gb201 26 #[.slice Ao56 t203.length co56] (0, 0) _ rfl (by (with_reducible repeat (first | refine kN_ ?_ _ | refine kD_ ?_ | refine kA_ ?_ _)); refine blk_put (cs := #[.slice none 0 0]) ?_ 0 _ rfl; (with_reducible repeat (first | refine kN_ ?_ _ | refine kD_ ?_ | refine kA_ ?_ _)); exact BK201.out) Try.underlying26 rfl (by kernel_rfl)) rfl ?_
  exact ⟨_, by first | rfl | (simp [errW_none, errW_some] <;> rfl) | (simp [*, errW_none, errW_some] <;> rfl), by (with_reducible repeat (first | apply rA_ | apply rN_ | apply rD_)); exact Kd.R_mono (Kd.R_far (p := ⟨gb201, 0, none⟩) (Kd.R_types HO205.out BK201.out (by decide)) (fun _ hk => hk.2) (.slice Ao56 t203.length co56)) (fun _ hk => trivial), ss_ HI0, by repeat (first | (with_reducible first | exact HB.out | apply bA_ | apply pN_ | apply bD_ | refine bS_ ?_ (IsS46.ge HI0.out) | refine bS_ ?_ GE201.out) | exact HB.out), hh_ HK⟩
/-! ### spec_l1Cur_held: function 22 -/
def spec_l1Cur_held.j0 : Nat → Bool → List Int → Int → Int → List Int → Option (Int × Int × Int)
 | 0, _, _, _, _, _ => none
 | k + 1, x13, x1000, x1001, x1002, x233000 => if x13 = true then ((spec_l1Cur_pick.f x1000 x1001 x1002 (x233000.length : Int)).bind fun bt236 => (if 0 ≤ bt236.1 then (if bt236.1 < (x233000.length : Int) then (some (rd x233000 bt236.1, bt236.2.1, bt236.2.2)) else (none)) else (none))) else ((spec_l1Cur_among.f x1000 x1001 x1002 (([(-1), 0, 1, 5, 17, 999, 1000] : List Int))).bind fun bt243 => (some (bt243.1, bt243.2.1, bt243.2.2)))
def spec_l1Cur_held.f (k : Nat) (s0_0 : List Int) (s0_1 : Int) (s0_2 : Int) (l1_0 : List Int) : Option (Int × Int × Int) := if (l1_0.length : Int) > 0 then ((spec_l1Cur_one.f s0_0 s0_1 s0_2 4).bind fun bt233 => (spec_l1Cur_held.j0 k (!bt233.1) s0_0 bt233.2.1 bt233.2.2 l1_0)) else (spec_l1Cur_held.j0 k false s0_0 s0_1 s0_2 l1_0)
theorem spec_l1Cur_held.mono_l : ∀ k, (∀ y0 y1 y2 y3 y4, LeO (spec_l1Cur_held.j0 k y0 y1 y2 y3 y4) (spec_l1Cur_held.j0 (k + 1) y0 y1 y2 y3 y4))
 | 0 => fun _ _ _ _ _ r h => by simp [spec_l1Cur_held.j0] at h
 | k + 1 => by
  have ih0 := spec_l1Cur_held.mono_l k
  ·intro y0 y1 y2 y3 y4
   unfold spec_l1Cur_held.j0
   repeat' first
   | (with_reducible exact ih0 _ _ _ _ _)
   | (with_reducible exact LeO.refl _)
   | (with_reducible exact LeO.none _)
   | (with_reducible refine LeO.ite ?_ ?_)
   | (with_reducible refine LeO.bind ?_ (fun _ => ?_))
   | exact ih0 _ _ _ _ _
   | exact LeO.none _
   | refine LeO.ite ?_ ?_
   | refine LeO.bind ?_ (fun _ => ?_)
theorem spec_l1Cur_held.mono : ∀ a0 a1 a2 a3 k, LeO (spec_l1Cur_held.f k a0 a1 a2 a3) (spec_l1Cur_held.f (k + 1) a0 a1 a2 a3) := by
 intro a0 a1 a2 a3 k
 have ih0 := spec_l1Cur_held.mono_l k
 unfold spec_l1Cur_held.f
 repeat' first
   | (with_reducible exact ih0 _ _ _ _ _)
   | (with_reducible exact LeO.refl _)
   | (with_reducible exact LeO.none _)
   | (with_reducible refine LeO.ite ?_ ?_)
   | (with_reducible refine LeO.bind ?_ (fun _ => ?_))
   | exact ih0 _ _ _ _ _
   | exact LeO.none _
   | refine LeO.ite ?_ ?_
   | refine LeO.bind ?_ (fun _ => ?_)
def spec_l1Cur_held.T2 : Bool × List (List Nat × List Nat) := (true, [([], []), ([0], [0]), ([], []), ([], []), ([3], [3]), ([4], [4]), ([2, 5], [2, 5]), ([1, 6], [1, 6]), ([7], [7]), ([8, 6, 0, 1, 2, 3, 4, 5, 6, 7, 8], [8])])
def spec_l1Cur_held.B2 : List Nat := [0, 1, 0, 0, 8, 24, 60, 127, 255, 511]
theorem spec_l1Cur_held.tab2 : rtab .any (opsOf Try.f22 2) = spec_l1Cur_held.T2 := by kernel_rfl
theorem spec_l1Cur_held.bits2 : waitsOk spec_l1Cur_held.T2.2 spec_l1Cur_held.B2 = true := by kernel_rfl
set_option maxHeartbeats 8000000 in
set_option maxRecDepth 100000 in
theorem spec_l1Cur_held.calls (k : Nat) (g : Nat) (s0_0 : List Int) (s0_1 : Int) (s0_2 : Int) (A1_0 : Option Addr) (c1_0 : Nat) (l1_0 : List Int) (r1 : Int) (r2 : Int) (r3 : Int) (w0 w : World) (hI : IsS46 w0 w g s0_0 s0_1 s0_2) (hB : Below w0.heap.size w0 w) (hr1_0 : Kd.C (Kd.int .i64) w A1_0 l1_0.length l1_0) (hc1_0 : l1_0.length ≤ c1_0) (hf1_0 : ∀ ad, A1_0 = some ad → 0 < l1_0.length → ad.block ≠ g) (h : spec_l1Cur_held.f k s0_0 s0_1 s0_2 l1_0 = some (r1, r2, r3)) :
  Calls Try.prog 22 #[.pointer (some ⟨g, 0, none⟩), .agg #[.slice A1_0 l1_0.length c1_0]] w fun e w' => e = .returned (.int .i64 r1) ∧ IsS46 w0 w' g s0_0 r2 r3 ∧ Below w0.heap.size w0 w' ∧ KeepBut w w' g none := by
 have hu26 := Try.underlying26
 have HR1_0 := aS_ hr1_0
 have HC1_0 := aS_ hc1_0
 clear hr1_0 hc1_0
 have HI0 := aS_ hI
 have HK := aS_ (KeepBut.refl w g none)
 have HL := aS_ hB.size
 clear hI
 have HW0 := aS_ hB.size
 have HB := aS_ hB
 clear hB
 have H : (if (l1_0.length : Int) > 0 then ((spec_l1Cur_one.f s0_0 s0_1 s0_2 4).bind fun bt233 => (spec_l1Cur_held.j0 k (!bt233.1) s0_0 bt233.2.1 bt233.2.2 l1_0)) else (spec_l1Cur_held.j0 k false s0_0 s0_1 s0_2 l1_0)) = some (r1, r2, r3) := h
 clear h
 have HC3 := aS_ H
 clear H
 go_enter Try.func22, Try.ntmps22
 go_upto_region 1 with (first | ((with_reducible refine gate_dst (N := 3) rfl ?_); refine box_event ?hg (N := 3) ?hd (cs := #[.slice A1_0 l1_0.length c1_0]) (t := 26) ?hr ?_; (case hd => rfl); (case hg => rfl); (case hr => first | (go_simp; done) | (go_simp; rfl)); intro gb232 hg w4 hbox hb; replace HB := aS_ (below_step (by repeat (first | (with_reducible first | exact HB.out | apply bA_ | apply pN_ | apply bD_ | refine bS_ ?_ (IsS46.ge HI0.out)) | exact HB.out)) hb); have BK232 := aS_ (hbox); have GW232 := aS_ ((by rw [hg]; exact (keep_size (w := w) (g := g) (row := none) (hh_ HK)) : w.heap.size ≤ gb232)); have GE232 := aS_ ((Nat.le_trans HW0.out (by rw [hg]; exact (keep_size (w := w) (g := g) (row := none) (hh_ HK)) : w.heap.size ≤ gb232) : w0.heap.size ≤ gb232)); replace HK := aS_ (KeepBut.trans (hh_ HK) (KeepBut.of_below hb g none) (.inl rfl)); have NB0_232 := aS_ ((by rw [hg]; exact Nat.ne_of_lt (IsS46.lt (show IsS46 w0 _ g s0_0 s0_1 s0_2 from ss_ HI0)) : g ≠ gb232)); have NB232_0 := aS_ ((by rw [hg]; exact Nat.ne_of_gt (IsS46.lt (show IsS46 w0 _ g s0_0 s0_1 s0_2 from ss_ HI0)) : gb232 ≠ g)); replace HI0 := aS_ (IsS46.below (ss_ HI0) hb); clear hb hbox hg))
 (try simp only [Act.put, List.setIfInBounds_toArray, List.set_cons_zero, List.set_cons_succ])
 go_cut [13] (fun v13 wc => ∃ (kq : Nat) (x13_2 : Bool) (x1001_2 : Int) (x1002_2 : Int), v13 = .bool x13_2 ∧ Aside0 (spec_l1Cur_held.j0 kq x13_2 s0_0 x1001_2 x1002_2 l1_0 = some (r1, r2, r3)) ∧ Aside0 (kq ≤ k) ∧ Aside0 (wc.heap[gb232]? = some (.cells #[(.slice A1_0 l1_0.length c1_0)] 26 (0, 0))) ∧ Aside0 (IsS46 w0 wc g s0_0 x1001_2 x1002_2) ∧ Aside0 (KeepBut w wc g none) ∧ Aside0 (Below w0.heap.size w0 wc))
 case first =>
  have H := HC3.out
  clear HC3
  by_cases c5 : (l1_0.length : Int) > 0
  ·rw [if_pos c5] at H
   have c5b0 : decide (0 < (l1_0.length : Int)) = true := decide_eq_true c5
   have c5b1 : decide (0 < l1_0.length) = true := decide_eq_true (by omega)
   clear c5
   (first | rw [c5b0] | (simp only [i64_w, i32_w]; rw [c5b0]) | rw [c5b1] | skip)
   replace H := Option.bind_eq_some_iff.mp H
   obtain ⟨⟨t233, t234, t235⟩, A60, H⟩ := H
   have A6 := aS_ A60
   clear A60
   have H' := aS_ H
   clear H
   have hnb7 := NB232_0.out
   have hnc7 := NB0_232.out
   have hcz8_0 : w4.cell? ⟨gb232, 0, none⟩ = some (.slice A1_0 l1_0.length c1_0) := (blk_cell BK232.out 0).trans rfl
   have hfz8_0 := blk_frozen BK232.out 0
   go_wp2_with (first | (go_at_call 21; (with_reducible refine (spec_l1Cur_one.calls g s0_0 s0_1 s0_2 4 t233 t234 t235 w0 _ ?side1 ?side2 A6.out).mono ?_); (case side1 => exact ss_ HI0); (case side2 => repeat (first | (with_reducible first | exact HB.out | apply bA_ | apply pN_ | apply bD_ | refine bS_ ?_ (IsS46.ge HI0.out) | refine bS_ ?_ GE232.out) | exact HB.out)); rintro e w9 ⟨rfl, hi, hb, hk⟩; replace BK232 := aS_ (KeepBut.blk hk (g' := gb232) (o := .cells #[.slice A1_0 l1_0.length c1_0] 26 (0, 0)) (kk_ BK232) NB232_0.out (by simp)); replace HK := aS_ (KeepBut.trans (hh_ HK) hk (.inl rfl)); replace HB := aS_ (hb); replace HI0 := aS_ (hi); (try clear hb); (try clear hk); (try clear hi)))
   go_meet
   case rel => exact ⟨_, (!t233), (t234), (t235), sR_, H', ⟨by first | omega | exact Nat.le_refl _⟩, ⟨kk_ BK232⟩, ⟨ss_ HI0⟩, ⟨hh_ HK⟩, ⟨by repeat (first | (with_reducible first | exact HB.out | apply bA_ | apply pN_ | apply bD_ | refine bS_ ?_ (IsS46.ge HI0.out) | refine bS_ ?_ GE232.out) | exact HB.out)⟩⟩
  ·rw [if_neg c5] at H
   have c5b0 : decide (0 < (l1_0.length : Int)) = false := decide_eq_false c5
   have c5b1 : decide (0 < l1_0.length) = false := decide_eq_false (by omega)
   clear c5
   (first | rw [c5b0] | (simp only [i64_w, i32_w]; rw [c5b0]) | rw [c5b1] | skip)
   have H' := aS_ H
   clear H
   have hnb10 := NB232_0.out
   have hnc10 := NB0_232.out
   have hcz11_0 : w4.cell? ⟨gb232, 0, none⟩ = some (.slice A1_0 l1_0.length c1_0) := (blk_cell BK232.out 0).trans rfl
   have hfz11_0 := blk_frozen BK232.out 0
   go_wp2
   go_meet
   case rel => exact ⟨_, (false), (s0_1), (s0_2), sR_, H', ⟨by first | omega | exact Nat.le_refl _⟩, ⟨kk_ BK232⟩, ⟨ss_ HI0⟩, ⟨hh_ HK⟩, ⟨by repeat (first | (with_reducible first | exact HB.out | apply bA_ | apply pN_ | apply bD_ | refine bS_ ?_ (IsS46.ge HI0.out) | refine bS_ ?_ GE232.out) | exact HB.out)⟩⟩
 case rest =>
  clear HC3
  try clear c1
  try clear c2
  try clear p2
  try clear c5
  try clear c5b0
  try clear c5b1
  try clear c7
  try clear c10
  try clear hcz11_0
  try clear hcz8_0
  try clear hfz11_0
  try clear hfz8_0
  obtain ⟨kq, x13_2, x1001_2, x1002_2, rfl, HA, HJ2, BK232, HI0, HK, HB⟩ := hcut
  cases kq with
  | zero => exact absurd HA.out (by simp [spec_l1Cur_held.j0])
  | succ kj2 =>
   have H := HA.out
   clear HA
   simp only [spec_l1Cur_held.j0] at H
   by_cases c12 : x13_2 = true
   ·subst c12
    rw [if_pos rfl] at H
    replace H := Option.bind_eq_some_iff.mp H
    obtain ⟨⟨t236, t237, t238⟩, A130, H⟩ := H
    have A13 := aS_ A130
    clear A130
    by_cases c14 : 0 ≤ t236
    ·rw [if_pos c14] at H
     have c14b0 : decide (0 ≤ t236) = true := decide_eq_true c14
     clear c14
     by_cases c15 : t236 < (l1_0.length : Int)
     ·rw [if_pos c15] at H
      have c15b0 : decide (t236 < (l1_0.length : Int)) = true := decide_eq_true c15
      clear c15
      simp only [Option.some.injEq, Prod.mk.injEq] at H
      obtain ⟨rfl, rfl, rfl⟩ := H
      try go_wp2
      replace BK232 := aS_ (kD_ BK232.out)
      replace HI0 := aS_ (IsS46.drew HI0.out)
      replace HK := aS_ (keep_drew HK.out)
      replace HB := aS_ (bD_ HB.out)
      have p239 : 0 ≤ (t236 : Int) := of_decide_eq_true (by assumption)
      have q239 : t236 < (l1_0.length : Int) := of_decide_eq_true (by assumption)
      obtain ⟨ad239, e239, hx239_0⟩ := Kd.at_int HR1_0.out t236 p239 q239
      have hw239_0 := hx239_0
      cases e239
      have hne239_0 := (show ((ad239.add (t236).toNat) : Addr).block ≠ g from by first | (rw [add_block]; exact hf1_0 ad239 rfl (by omega)) | (show (Addr.add _ _).block ≠ _; rw [add_block]; exact hf1_0 ad239 rfl (by omega)) | exact hf1_0 ad239 rfl (by omega))
      replace hx239_0 := keep_cell HK.out hx239_0 (by first | (rw [add_block]; exact hf1_0 _ rfl (by omega)) | exact hf1_0 _ rfl (by omega) | exact hf1_0 ad239 rfl (by omega))
      replace p239 := eq_true p239
      replace q239 := eq_true q239
      refine start_ (n := 10) (S := fun w' => w'.cell? ⟨gb232, 0, none⟩ = some (.slice (some ad239) l1_0.length c1_0) ∧ w'.cell? (ad239.add (t236).toNat) = some (.int .i64 (rd l1_0 t236))) (ds := []) #[false, false, false, false, false, false, false, false, false, false] (by kernel_rfl) rfl rfl ⟨(blk_cell BK232.out 0).trans rfl, (keep_cell HK.out hw239_0 hne239_0)⟩ (fun hHeld => ?_); refine with_tabW spec_l1Cur_held.tab2 spec_l1Cur_held.bits2 (fun HT_ HW_ => ?_)
      generalize wc.drew = w16 at BK232 HI0 HK HB hf1_0 hx239_0 hHeld ⊢
      refine pure_ (i := 0) (N := some 14) (v := ?_) (a' := ?_) #[true, false, false, false, false, false, false, false, false, false] rfl rfl (any_of HT_.out (by kernel_rfl)) (fun _ _ _ h => h) (Or.inl ⟨by rfl, ?_⟩) ?_ ?_
      rotate_left
      ·intro w'
       go_simp
       with_reducible rfl
      rotate_left
      ·simp only [Act.put, List.setIfInBounds_toArray, List.set_cons_zero, List.set_cons_succ, i64_w, i32_w]
       rfl
      refine pure_ (i := 2) (N := some 16) (v := ?_) (a' := ?_) #[true, false, true, false, false, false, false, false, false, false] rfl rfl (any_of HT_.out (by kernel_rfl)) (fun _ _ _ h => h) (Or.inl ⟨by rfl, ?_⟩) ?_ ?_
      rotate_left
      ·intro w'
       go_simp
       with_reducible rfl
      rotate_left
      ·simp only [Act.put, List.setIfInBounds_toArray, List.set_cons_zero, List.set_cons_succ, i64_w, i32_w]
       rfl
      refine pure_ (i := 3) (N := some 17) (v := ?_) (a' := ?_) #[true, false, true, true, false, false, false, false, false, false] rfl rfl (any_of HT_.out (by kernel_rfl)) (fun _ _ _ h => h) (Or.inl ⟨by rfl, ?_⟩) ?_ ?_
      rotate_left
      ·intro w'
       go_simp
       with_reducible rfl
      rotate_left
      ·simp only [Act.put, List.setIfInBounds_toArray, List.set_cons_zero, List.set_cons_succ, i64_w, i32_w]
       rfl
      refine take_ (i := 1) (N := some 15) (v := ?_) (a' := ?_) #[true, true, true, true, false, false, false, false, false, false] rfl rfl (take_ofW HT_.out HW_.out (by kernel_rfl)) (fun _ _ _ h => h) (Or.inl ⟨by rfl, ?_⟩) hHeld ?_ ?_
      rotate_left
      ·rintro w' ⟨s0, s1⟩
       go_simp
       with_reducible rfl
      rotate_left
      ·simp only [Act.put, List.setIfInBounds_toArray, List.set_cons_zero, List.set_cons_succ, i64_w, i32_w]
       rfl
      refine take_ (i := 4) (N := some 18) (v := ?_) (a' := ?_) #[true, true, true, true, true, false, false, false, false, false] rfl rfl (take_ofW HT_.out HW_.out (by kernel_rfl)) (fun _ _ _ h => h) (Or.inl ⟨by rfl, ?_⟩) hHeld ?_ ?_
      rotate_left
      ·rintro w' ⟨s0, s1⟩
       go_simp
       with_reducible rfl
      rotate_left
      ·simp only [Act.put, List.setIfInBounds_toArray, List.set_cons_zero, List.set_cons_succ, i64_w, i32_w]
       rfl
      refine pure_ (i := 5) (N := some 19) (v := ?_) (a' := ?_) #[true, true, true, true, true, true, false, false, false, false] rfl rfl (any_of HT_.out (by kernel_rfl)) (fun _ _ _ h => h) (Or.inl ⟨by rfl, ?_⟩) ?_ ?_
      rotate_left
      ·intro w'
       go_simp
       with_reducible rfl
      rotate_left
      ·simp only [Act.put, List.setIfInBounds_toArray, List.set_cons_zero, List.set_cons_succ, i64_w, i32_w]
       rfl
      refine one_ (i := 6) (N := some 20) #[true, true, true, true, true, true, true, false, false, false] rfl rfl (one_of HT_.out (by kernel_rfl)) (by decide) (fun K hK => ?_)
      refine goes_ Try.func23 (by kernel_rfl) rfl #[.pointer (some ⟨g, 0, none⟩), .int .i64 (l1_0.length : Int)] (by rfl) rfl rfl aR_ ?_
      with_reducible refine (spec_l1Cur_pick.calls g s0_0 x1001_2 x1002_2 (l1_0.length : Int) t236 t237 t238 w0 _ ?side1 ?side2 A13.out).mono ?_
      (case side1 => exact ss_ HI0)
      (case side2 => repeat (first | (with_reducible first | exact HB.out | apply bA_ | apply pN_ | apply bD_ | refine bS_ ?_ (IsS46.ge HI0.out) | refine bS_ ?_ GE232.out) | exact HB.out))
      rintro e w17 ⟨rfl, hi, hb, hk⟩
      refine ⟨_, rfl, ?_⟩
      replace BK232 := aS_ (KeepBut.blk hk (g' := gb232) (o := .cells #[.slice (some ad239) l1_0.length c1_0] 26 (0, 0)) (kk_ BK232) NB232_0.out (by simp))
      replace HK := aS_ (KeepBut.trans (hh_ HK) hk (.inl rfl))
      replace HB := aS_ (hb)
      replace HI0 := aS_ (hi)
      (try clear hb)
      (try clear hk)
      (try clear hi)
      refine hK.out _ _ ⟨(blk_cell BK232.out 0).trans rfl, (keep_cell HK.out hw239_0 hne239_0)⟩ (fun hHeld => ?_)
      clear hK K
      refine norm_ (a' := ?_) ?_ ?_
      rotate_left
      ·show Act.put _ (some 20) _ = _
       simp only [Act.put, List.setIfInBounds_toArray, List.set_cons_zero, List.set_cons_succ, i64_w, i32_w]
       rfl
      refine pure_ (i := 7) (N := some 21) (v := ?_) (a' := ?_) #[true, true, true, true, true, true, true, true, false, false] rfl rfl (any_of HT_.out (by kernel_rfl)) (fun _ _ _ h => h) (Or.inl ⟨by rfl, ?_⟩) ?_ ?_
      rotate_left
      ·intro w'
       go_simp
       with_reducible rfl
      rotate_left
      ·simp only [Act.put, List.setIfInBounds_toArray, List.set_cons_zero, List.set_cons_succ, i64_w, i32_w]
       rfl
      refine take_ (i := 8) (N := some 22) (v := ?_) (a' := ?_) #[true, true, true, true, true, true, true, true, true, false] rfl rfl (take_ofW HT_.out HW_.out (by kernel_rfl)) (fun _ _ _ h => h) (Or.inl ⟨by rfl, ?_⟩) hHeld ?_ ?_
      rotate_left
      ·rintro w' ⟨s0, s1⟩
       go_simp
       with_reducible rfl
      rotate_left
      ·simp only [Act.put, List.setIfInBounds_toArray, List.set_cons_zero, List.set_cons_succ, i64_w, i32_w]
       rfl
      refine pure_ (i := 9) (N := some 4) (v := ?_) (a' := ?_) #[true, true, true, true, true, true, true, true, true, true] rfl rfl (any_of HT_.out (by kernel_rfl)) (fun _ _ _ h => h) (Or.inl ⟨by rfl, ?_⟩) ?_ ?_
      rotate_left
      ·intro w'
       go_simp
       with_reducible rfl
      rotate_left
      ·simp only [Act.put, List.setIfInBounds_toArray, List.set_cons_zero, List.set_cons_succ, i64_w, i32_w]
       rfl
      refine done_ (done_of HT_.out (by kernel_rfl)) ?_
      try go_wp2
      go_ret
      exact ⟨eR_, ss_ HI0, by repeat (first | (with_reducible first | exact HB.out | apply bA_ | apply pN_ | apply bD_ | refine bS_ ?_ (IsS46.ge HI0.out) | refine bS_ ?_ GE232.out) | exact HB.out), hh_ HK⟩
     ·rw [if_neg c15] at H
      exact absurd H (by simp)
    ·rw [if_neg c14] at H
     exact absurd H (by simp)
   ·replace c12 := Bool.eq_false_iff.mpr c12
    subst c12
    rw [if_neg (show ¬ (false = true) by decide)] at H
    obtain ⟨y240, hy240⟩ : ∃ y_ : List Int, y_ = (([(-1), 0, 1, 5, 17, 999, 1000] : List Int)) := ⟨_, rfl⟩
    replace H : ((spec_l1Cur_among.f s0_0 x1001_2 x1002_2 y240).bind fun bt243 => (some (bt243.1, bt243.2.1, bt243.2.2))) = some (r1, r2, r3) := by first | (rw [hy240]; with_reducible exact H) | (have H2_ := (Option.bind_some _ _).symm.trans H; rw [hy240]; with_reducible exact H2_) | (have H2_ := (Option.bind_some _ _).symm.trans H; with_reducible exact H2_) | with_reducible exact H | (rw [hy240]; exact H) | exact H
    have Ny240 := aS_ hy240
    clear hy240
    replace H := Option.bind_eq_some_iff.mp H
    obtain ⟨⟨t243, t244, t245⟩, A180, H⟩ := H
    have A18 := aS_ A180
    clear A180
    simp only [Option.some.injEq, Prod.mk.injEq] at H
    obtain ⟨rfl, rfl, rfl⟩ := H
    go_wp2_with (first | ((with_reducible refine gate_dst (N := 24) rfl ?_); refine Kd.R_lit (Kd.int .i64) _ 3 ?hg (N := 24) ?hd (xs := ([(-1), 0, 1, 5, 17, 999, 1000] : List Int)) (inner := [.int .i64 (-1), .int .i64 0, .int .i64 1, .int .i64 5, .int .i64 17, .int .i64 999, .int .i64 1000]) (ok := fun _ => True) (okp := fun _ => True) ?hr ?hp (fun _ hk => hk) trivial (Below.refl _ _) (Nat.le_refl _) (by simp) ?_; (case hd => rfl); (case hg => rfl); (case hr => first | (go_simp; done) | (go_simp; rfl)); (case hp => exact (Reps.one (show Kd.M (Kd.int .i64) _ _ _ (-1) [.int .i64 (-1)] from rfl) (Reps.one (show Kd.M (Kd.int .i64) _ _ _ 0 [.int .i64 0] from rfl) (Reps.one (show Kd.M (Kd.int .i64) _ _ _ 1 [.int .i64 1] from rfl) (Reps.one (show Kd.M (Kd.int .i64) _ _ _ 5 [.int .i64 5] from rfl) (Reps.one (show Kd.M (Kd.int .i64) _ _ _ 17 [.int .i64 17] from rfl) (Reps.one (show Kd.M (Kd.int .i64) _ _ _ 999 [.int .i64 999] from rfl) (Reps.one (show Kd.M (Kd.int .i64) _ _ _ 1000 [.int .i64 1000] from rfl) (Reps.none _ _))))))))); intro v241 w19 ho20 hb hg_ hnew_; clear hg_ hnew_; (first | rw [← Ny240.out] at ho20 | (simp only [Int.reduceToNat] at ho20; rw [← Ny240.out] at ho20)); have HO242 := aS_ (Kd.R_lower ho20 (keep_size (w := w) (g := g) (row := none) (hh_ HK))); replace BK232 := kO_ BK232 hb; replace HK := aS_ (KeepBut.trans (hh_ HK) (KeepBut.of_below hb g none) (.inl rfl)); replace HB := aS_ (below_step (by repeat (first | (with_reducible first | exact HB.out | apply bA_ | apply pN_ | apply bD_ | refine bS_ ?_ (IsS46.ge HI0.out) | refine bS_ ?_ GE232.out) | exact HB.out)) hb); replace HI0 := aS_ (IsS46.below (ss_ HI0) hb); clear hb ho20; obtain ⟨Ao21, co21, eo21⟩ := Kd.R_slice HO242.out; subst eo21) | ((with_reducible refine gate_callee (f := 24) rfl ?_); refine goesL_ (some 25) rfl rfl Try.func24 (by kernel_rfl) rfl #[.pointer (some ⟨g, 0, none⟩), .slice Ao21 y240.length co21] rfl aR_ ?_; (with_reducible refine (spec_l1Cur_among.calls g s0_0 x1001_2 x1002_2 _ _ y240 t243 t244 t245 w0 _ ?side1 ?side2 ?side3 ?side4 ?side5 A18.out).mono ?_); (case side1 => exact ss_ HI0); (case side2 => repeat (first | (with_reducible first | exact HB.out | apply bA_ | apply pN_ | apply bD_ | refine bS_ ?_ (IsS46.ge HI0.out) | refine bS_ ?_ GE232.out) | exact HB.out)); (case side3 => exact cR_ HO242); (case side4 => exact (Kd.R_reads' HO242.out).2.1); (case side5 => exact far_slice (IsS46.own_ne HI0.out HO242.out (by decide))); rintro e w22 ⟨rfl, hi, hb, hk⟩; refine ⟨_, rfl, ?_⟩; replace BK232 := aS_ (KeepBut.blk hk (g' := gb232) (o := .cells #[.slice A1_0 l1_0.length c1_0] 26 (0, 0)) (kk_ BK232) NB232_0.out (by simp)); replace HO242 := aS_ (Kd.R_mono (Kd.R_keep (IsS46.apart (show IsS46 w0 _ g s0_0 x1001_2 x1002_2 from ss_ HI0) (rr_ HO242) (by decide)) hk (fun _ h => h.2)) (fun _ h => h.1)); replace HK := aS_ (KeepBut.trans (hh_ HK) hk (.inl rfl)); replace HB := aS_ (hb); replace HI0 := aS_ (hi); (try clear hb); (try clear hk); (try clear hi)))
    go_ret
    exact ⟨eR_, ss_ HI0, by repeat (first | (with_reducible first | exact HB.out | apply bA_ | apply pN_ | apply bD_ | refine bS_ ?_ (IsS46.ge HI0.out) | refine bS_ ?_ GE232.out) | exact HB.out), hh_ HK⟩
end Go.Proofs.Ytjhpnihlmnlehaa.G
