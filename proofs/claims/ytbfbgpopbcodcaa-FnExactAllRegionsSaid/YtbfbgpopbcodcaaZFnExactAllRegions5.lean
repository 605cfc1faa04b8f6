/- The law FnExactAllRegions: part 5 of the printed functions and the facts on them that its row leans on (merged by this session's slim.py). -/
import Derived.Test.YtbfbgpopbcodcaaZFnExactAllRegions4
namespace Go.Proofs.Ytbfbgpopbcodcaa.G
open Go.RowKit Go.Proofs.YtbfbgpopbcodcaaW.PrintWords Go.Proofs.YtbfbgpopbcodcaaW.PrintLast Go.Proofs.YtbfbgpopbcodcaaW.PrintMore
attribute [local go_sem] max2_int min2_int max_two min_two max_three min_three max_four min_four   -- for this text's walks alone
set_option linter.unusedVariables false
set_option linter.unusedSimpArgs false
/-! ### impl_AllRegions: function 5 -/
def impl_AllRegions.l0 : Nat → List (S34) → List (List Int) → Int → Int → Option ((List (S34)) × Bool)
 | 0, _, _, _, _ => none
 | k + 1, x4, x14, x15, x16 => if x16 < x15 then (if 0 ≤ x16 then (if x16 < (x14.length : Int) then ((impl_regionOf.f k (rd_L1 x14 x16) ([] : List Int) ([] : List Int)).bind fun bt274 => (if x4.length < 2932031007402 then (impl_AllRegions.l0 k (x4 ++ [(⟨bt274.1, bt274.2.1⟩ : S34)]) x14 x15 (wrap64 (x16 + 1))) else (none))) else (none)) else (none)) else (some (x4, true))
def impl_AllRegions.f (k : Nat) (a0 : Int) : Option ((List (S34)) × Bool) := (impl_between.f a0 0 4).bind fun t266 => (if t266 = true then ((impl_allParking.f k a0).bind fun t270 => (impl_AllRegions.l0 k (([] : List (S34))) t270 (t270.length : Int) 0)) else (some (([] : List (S34)), false)))
theorem impl_AllRegions.mono_l : ∀ k, (∀ y0 y1 y2 y3, LeO (impl_AllRegions.l0 k y0 y1 y2 y3) (impl_AllRegions.l0 (k + 1) y0 y1 y2 y3))
 | 0 => fun _ _ _ _ r h => by simp [impl_AllRegions.l0] at h
 | k + 1 => by
  have ih0 := impl_AllRegions.mono_l k
  ·intro y0 y1 y2 y3
   unfold impl_AllRegions.l0
   repeat' first
   | (with_reducible exact ih0 _ _ _ _)
   | (with_reducible exact impl_allParking.mono _ _)
   | (with_reducible exact impl_regionOf.mono _ _ _ _)
   | (with_reducible exact LeO.refl _)
   | (with_reducible exact LeO.none _)
   | (with_reducible refine LeO.ite ?_ ?_)
   | (with_reducible refine LeO.bind ?_ (fun _ => ?_))
   | exact ih0 _ _ _ _
   | exact impl_allParking.mono _ _
   | exact impl_regionOf.mono _ _ _ _
   | exact LeO.none _
   | refine LeO.ite ?_ ?_
   | refine LeO.bind ?_ (fun _ => ?_)
theorem impl_AllRegions.mono : ∀ a0 k, LeO (impl_AllRegions.f k a0) (impl_AllRegions.f (k + 1) a0) := by
 intro a0 k
 have ih0 := impl_AllRegions.mono_l k
 unfold impl_AllRegions.f
 repeat' first
   | (with_reducible exact ih0 _ _ _ _)
   | (with_reducible exact impl_allParking.mono _ _)
   | (with_reducible exact impl_regionOf.mono _ _ _ _)
   | (with_reducible exact LeO.refl _)
   | (with_reducible exact LeO.none _)
   | (with_reducible refine LeO.ite ?_ ?_)
   | (with_reducible refine LeO.bind ?_ (fun _ => ?_))
   | exact ih0 _ _ _ _
   | exact impl_allParking.mono _ _
   | exact impl_regionOf.mono _ _ _ _
   | exact LeO.none _
   | refine LeO.ite ?_ ?_
   | refine LeO.bind ?_ (fun _ => ?_)
set_option maxHeartbeats 8000000 in
set_option maxRecDepth 100000 in
theorem impl_AllRegions.calls (k : Nat) (a0 : Int) (r1 : List (S34)) (r2 : Bool) (w : World) (h : impl_AllRegions.f k a0 = some (r1, r2)) :
  Calls Try.prog 5 #[.int .i64 a0] w fun e w' => ∃ v0_ : Value, e = .returned (.tuple #[v0_, .bool r2]) ∧ Kd.S k34 34 w' w.heap.size (fun _ => True) v0_ r1 ∧ Below w.heap.size w w' := by
 have hu34 := Try.underlying34
 have HB := aS_ (Below.refl w.heap.size w)
 have H : ((impl_between.f a0 0 4).bind fun t266 => (if t266 = true then ((impl_allParking.f k a0).bind fun t270 => (impl_AllRegions.l0 k (([] : List (S34))) t270 (t270.length : Int) 0)) else (some (([] : List (S34)), false)))) = some (r1, r2) := h
 clear h
 replace H := Option.bind_eq_some_iff.mp H
 obtain ⟨t266, A20, H⟩ := H
 have A2 := aS_ A20
 clear A20
 by_cases c3 : t266 = true
 ·subst c3
  rw [if_pos rfl] at H
  obtain ⟨y267, hy267⟩ : ∃ y_ : List (S34), y_ = (([] : List (S34))) := ⟨_, rfl⟩
  replace H : ((impl_allParking.f k a0).bind fun t270 => (impl_AllRegions.l0 k y267 t270 (t270.length : Int) 0)) = some (r1, r2) := by first | (rw [hy267]; with_reducible exact H) | (have H2_ := (Option.bind_some _ _).symm.trans H; rw [hy267]; with_reducible exact H2_) | (have H2_ := (Option.bind_some _ _).symm.trans H; with_reducible exact H2_) | with_reducible exact H | (rw [hy267]; exact H) | exact H
  have Ny267 := aS_ hy267
  clear hy267
  replace H := Option.bind_eq_some_iff.mp H
  obtain ⟨t270, A40, H⟩ := H
  have A4 := aS_ A40
  clear A40
  have H' := aS_ H
  clear H
  go_enter Try.func5, Try.ntmps5
  go_wp2_with (first | ((with_reducible refine gate_callee (f := 12) rfl ?_); refine goesL_ (some 10) rfl rfl Try.func12 (by kernel_rfl) rfl #[.int .i64 a0, .int .i64 0, .int .i64 4] rfl (by (try simp only [List.map_toArray, List.map_cons, List.map_nil]); first | done | rfl | (simp only [List.length_drop, List.length_take]; rfl)) ?_; (with_reducible refine (impl_between.calls a0 0 4 true _ A2.out).mono ?_); rintro e w' ⟨rfl, ⟨nd, rfl⟩⟩; refine ⟨_, rfl, ?_⟩) | ((with_reducible refine gate_dst (N := 12) rfl ?_); refine Kd.S_lit k34 _ 34 ?hg (N := 12) ?hd (xs := ([] : List (S34))) (inner := []) (ok := fun _ => True) (okp := fun _ => True) ?hr ?hp (fun _ hk => hk) trivial (Below.refl _ _) (Nat.le_refl _) (by simp) ?_; (case hd => rfl); (case hg => rfl); (case hr => first | (go_simp; done) | (go_simp; rfl)); (case hp => exact (Reps.none _ _)); intro v268 w5 ho6 hb hg_ hnew_; clear hg_ hnew_; (first | rw [← Ny267.out] at ho6 | (simp only [Int.reduceToNat] at ho6; rw [← Ny267.out] at ho6)); have n0_ := aS_ (Kd.S_lower ho6 (below_size (by repeat (first | (with_reducible first | exact HB.out | apply bA_ | apply pN_ | apply bD_) | exact HB.out)))); have n1_ := aS_ (below_step (by repeat (first | (with_reducible first | exact HB.out | apply bA_ | apply pN_ | apply bD_) | exact HB.out)) hb); clear HB; have HO269 := n0_; have HB := n1_; clear n0_ n1_; clear hb ho6) | ((with_reducible refine gate_callee (f := 13) rfl ?_); refine goesL_ (some 14) rfl rfl Try.func13 (by kernel_rfl) rfl #[.int .i64 a0] rfl (by (try simp only [List.map_toArray, List.map_cons, List.map_nil]); first | done | rfl | (simp only [List.length_drop, List.length_take]; rfl)) ?_; (with_reducible refine (impl_allParking.calls k a0 t270 _ A4.out).mono ?_); rintro e w7 ⟨v271, rfl, ho0, hb⟩; refine ⟨_, rfl, ?_⟩; have n0_ := aS_ (Kd.S_below (by (with_reducible repeat (first | apply Kd.S_alloc | apply Kd.S_drewN | apply Kd.S_drew)); exact HO269.out) hb); have n1_ := aS_ (Kd.S_lower ho0 (below_size (by repeat (first | (with_reducible first | exact HB.out | apply bA_ | apply pN_ | apply bD_) | exact HB.out)))); have n2_ := aS_ (below_step (by repeat (first | (with_reducible first | exact HB.out | apply bA_ | apply pN_ | apply bD_) | exact HB.out)) hb); clear HO269; clear HB; have HO269 := n0_; have HO272 := n1_; have HB := n2_; clear n0_ n1_ n2_; (try clear hb); (try clear hb2); (try clear hk); (try clear hi); (try clear ho0); obtain ⟨Ao8, co8, eo8⟩ := Kd.S_slice HO272.out; subst eo8))
  go_loopg [4, 16] k (fun kq v4 v16 w' => ∃ (x4_1 : List (S34)) (x16_1 : Int), v16 = .int .i64 x16_1 ∧ Aside0 (impl_AllRegions.l0 kq x4_1 t270 (t270.length : Int) x16_1 = some (r1, r2)) ∧ Aside0 (kq ≤ k) ∧ Aside0 (Kd.S k34 34 w' w.heap.size (fun _ => True) v4 x4_1) ∧ Aside0 (Kd.S (Kd.slice 3 (Kd.int .i64)) 32 w' w.heap.size (fun _ => True) (.slice Ao8 t270.length co8) t270) ∧ Aside0 (Below w.heap.size w w'))
  case atStart => exact ⟨(y267), (0), (by first | rfl | (simp; done) | (simp [*]; done)), H', ⟨Nat.le_refl _⟩, ⟨by (with_reducible repeat (first | apply Kd.S_alloc | apply Kd.S_drewN | apply Kd.S_drew)); exact HO269.out⟩, ⟨by (with_reducible repeat (first | apply Kd.S_alloc | apply Kd.S_drewN | apply Kd.S_drew)); exact HO272.out⟩, ⟨by repeat (first | (with_reducible first | exact HB.out | apply bA_ | apply pN_ | apply bD_) | exact HB.out)⟩⟩
  case round =>
   clear H'
   try clear c1
   try clear p2
   try clear c3
   try clear c5
   obtain ⟨x4_1, x16_1, rfl, HA, HK1, HO_4, HO_14, HB⟩ := hrel
   cases gk with
   | zero => exact absurd HA.out (by simp [impl_AllRegions.l0])
   | succ k1 =>
    have H := HA.out
    clear HA
    simp only [impl_AllRegions.l0] at H
    by_cases c9 : x16_1 < (t270.length : Int)
    ·rw [if_pos c9] at H
     have c9b0 : decide (x16_1 < (t270.length : Int)) = true := decide_eq_true c9
     clear c9
     by_cases c10 : 0 ≤ x16_1
     ·rw [if_pos c10] at H
      have c10b0 : decide (0 ≤ x16_1) = true := decide_eq_true c10
      clear c10
      by_cases c11 : x16_1 < (t270.length : Int)
      ·rw [if_pos c11] at H
       have c11b0 : decide (x16_1 < (t270.length : Int)) = true := decide_eq_true c11
       clear c11
       replace H := Option.bind_eq_some_iff.mp H
       obtain ⟨⟨t274, t277, t280⟩, A120, H⟩ := H
       have A12 := aS_ A120
       clear A120
       by_cases c13 : x4_1.length < 2932031007402
       ·rw [if_pos c13] at H
        have LMc13 := aS_ c13
        clear c13
        obtain ⟨y282, hy282⟩ : ∃ y_ : List (S34), y_ = (x4_1 ++ [(⟨t274, t277⟩ : S34)]) := ⟨_, rfl⟩
        replace H : (impl_AllRegions.l0 k1 y282 t270 (t270.length : Int) (wrap64 (x16_1 + 1))) = some (r1, r2) := by first | (rw [hy282]; with_reducible exact H) | (have H2_ := (Option.bind_some _ _).symm.trans H; rw [hy282]; with_reducible exact H2_) | (have H2_ := (Option.bind_some _ _).symm.trans H; with_reducible exact H2_) | with_reducible exact H | (rw [hy282]; exact H) | exact H
        have Ny282 := aS_ hy282
        clear hy282
        have H' := aS_ H
        clear H
        have p273 : 0 ≤ (x16_1 : Int) := of_decide_eq_true (by assumption)
        have q273 : x16_1 < (t270.length : Int) := of_decide_eq_true (by assumption)
        obtain ⟨ad273, A273_0, c273_0, e273, hx273_0, hl273_0, hi273_0⟩ := at_L1 (Kd.S_reads' HO_14.out).2.2 x16_1 p273 q273
        cases e273
        obtain ⟨ce273, hce273, hMe273, hcc273⟩ := Kd.S_get HO_14.out [] x16_1 p273 (by first | exact q273 | exact of_decide_eq_true (by assumption) | (have e_ := (Kd.S_reads' HO_14.out).1; omega))
        obtain ⟨ve273_0, rfl, ge273_0⟩ := hMe273
        have hv273_0 := hcc273 0 _ rfl
        rw [Nat.add_zero, show ((Kd.slice 3 (Kd.int .i64))).sz = 1 from rfl, Nat.mul_one] at hv273_0
        replace hv273_0 := Option.some.inj (hv273_0.symm.trans hx273_0)
        rw [hv273_0] at ge273_0
        have HL273_0 := aS_ (show Kd.R (Kd.int .i64) 3 _ _ _ _ (rd_L1 t270 x16_1) from ge273_0)
        clear hv273_0 ge273_0
        clear hcc273 hce273
        have HR273_0 := aS_ hi273_0
        have HC273_0 := aS_ hl273_0
        clear hi273_0 hl273_0
        replace p273 := eq_true p273
        replace q273 := eq_true q273
        go_wp2_with (first | ((with_reducible refine gate_callee (f := 14) rfl ?_); refine goesL_ (some 23) rfl rfl Try.func14 (by kernel_rfl) rfl #[.slice A273_0 (rd_L1 t270 x16_1).length c273_0, .agg #[.slice none 0 0, .slice none 0 0]] rfl (by (try simp only [List.map_toArray, List.map_cons, List.map_nil]); first | done | rfl | (simp only [List.length_drop, List.length_take]; rfl)) ?_; (refine (impl_regionOf.calls k1 _ _ (rd_L1 t270 x16_1) (fun k_ => some k_ = (.slice none 0 0 : Value).ownBlock) (.slice none 0 0) ([] : List Int) (fun k_ => some k_ = (.slice none 0 0 : Value).ownBlock) (.slice none 0 0) ([] : List Int) t274 t277 t280 w _ ?side1 ?side2 ?side3 ?side4 ?side5 ?side6 ?side7 A12.out).mono ?_); (case side1 => repeat (first | (with_reducible first | exact HB.out | apply bA_ | apply pN_ | apply bD_) | exact HB.out)); (case side2 => exact Kd.C_kept_own (HL273_0.out) (fun k_ hk_ hs_ => Or.elim hs_ (fun e_ => (fun e_ => by simp [Value.ownBlock] at e_) e_) (fun e_ => (fun e_ => by simp [Value.ownBlock] at e_) e_))); (case side3 => exact HC273_0.out); (case side4 => exact Kd.R_nil _ _ _ _ _); (case side5 => intro k_ e_ e2_; simp [Value.ownBlock] at e_ e2_); (case side6 => exact Kd.R_nil _ _ _ _ _); (case side7 => intro k_ e_ e2_; simp [Value.ownBlock] at e_ e2_); rintro e w14 ⟨v275, v278, rfl, ho0, ho1, hb, hkp⟩; refine ⟨_, rfl, ?_⟩; have n0_ := aS_ (Kd.S_mono (ok' := fun k_ => some k_ ≠ (v275 : Value).ownBlock ∧ some k_ ≠ (v278 : Value).ownBlock) (Kd.S_keptB (HO_4.out) hkp (fun k_ hk_ hs_ => Or.elim hs_ (fun e_ => (fun e_ => by simp [Value.ownBlock] at e_) e_) (fun e_ => (fun e_ => by simp [Value.ownBlock] at e_) e_))) (fun k_ hk_ => ⟨fun e_ => Or.elim (ho0.1 k_ e_.symm).1 (fun hs_ => hk_.2.1 hs_) (fun hn_ => Nat.not_le.2 hk_.2.2 hn_), fun e_ => Or.elim (ho1.1 k_ e_.symm).1 (fun hs_ => hk_.2.1 hs_) (fun hn_ => Nat.not_le.2 hk_.2.2 hn_)⟩)); have n1_ := aS_ (Kd.S_mono (ok' := fun k_ => some k_ ≠ (v275 : Value).ownBlock ∧ some k_ ≠ (v278 : Value).ownBlock) (Kd.S_keptB (HO_14.out) hkp (fun k_ hk_ hs_ => Or.elim hs_ (fun e_ => (fun e_ => by simp [Value.ownBlock] at e_) e_) (fun e_ => (fun e_ => by simp [Value.ownBlock] at e_) e_))) (fun k_ hk_ => ⟨fun e_ => Or.elim (ho0.1 k_ e_.symm).1 (fun hs_ => hk_.2.1 hs_) (fun hn_ => Nat.not_le.2 hk_.2.2 hn_), fun e_ => Or.elim (ho1.1 k_ e_.symm).1 (fun hs_ => hk_.2.1 hs_) (fun hn_ => Nat.not_le.2 hk_.2.2 hn_)⟩)); have n2_ := aS_ (Kd.R_mono (ok' := fun k_ => some k_ ≠ (v278 : Value).ownBlock) ho0 (fun k_ hk_ => hk_.2)); have n3_ := aS_ (Kd.R_mono (ok' := fun k_ => some k_ ≠ (v275 : Value).ownBlock) ho1 (fun k_ hk_ => hk_.2)); have n4_ := aS_ (hb); clear HO_4; clear HO_14; clear HB; clear HL273_0; have HO_4 := n0_; have HO_14 := n1_; have HO276 := n2_; have HO279 := n3_; have HB := n4_; clear n0_ n1_ n2_ n3_ n4_; (try clear hb); (try clear hkp); (try clear ho0); (try clear ho1)) | ((with_reducible refine gate_dst (N := 7) rfl ?_); refine box_event ?hg (N := 7) ?hd (cs := #[.slice none 0 0, .slice none 0 0]) (t := 34) ?hr ?_; (case hd => rfl); (case hg => rfl); (case hr => first | (go_simp; done) | (go_simp; rfl)); intro gb281 hg w15 hbox hb; have n0_ := aS_ (Kd.S_below (Kd.S_elderB (by (with_reducible repeat (first | apply Kd.S_alloc | apply Kd.S_drewN | apply Kd.S_drew)); exact HO_4.out) gb281 (Nat.le_of_eq hg.symm)) hb); have n1_ := aS_ (Kd.S_below (by (with_reducible repeat (first | apply Kd.S_alloc | apply Kd.S_drewN | apply Kd.S_drew)); exact HO_14.out) hb); have n2_ := aS_ (Kd.R_below (by (with_reducible repeat (first | apply rA_ | apply rN_ | apply rD_)); exact HO276.out) hb); have n3_ := aS_ (Kd.R_below (by (with_reducible repeat (first | apply rA_ | apply rN_ | apply rD_)); exact HO279.out) hb); have n4_ := aS_ (below_step (by repeat (first | (with_reducible first | exact HB.out | apply bA_ | apply pN_ | apply bD_) | exact HB.out)) hb); have n5_ := aS_ (hbox); have n6_ := aS_ ((by rw [hg]; exact (below_size (by repeat (first | (with_reducible first | exact HB.out | apply bA_ | apply pN_ | apply bD_) | exact HB.out))) : w.heap.size ≤ gb281)); have n7_ := aS_ ((by rw [hg]; exact (below_size (by repeat (first | (with_reducible first | exact HB.out | apply bA_ | apply pN_ | apply bD_) | exact HB.out))) : w.heap.size ≤ gb281)); clear HO_4; clear HO_14; clear HO276; clear HO279; clear HB; have HO_4 := n0_; have HO_14 := n1_; have HO276 := n2_; have HO279 := n3_; have HB := n4_; have BK281 := n5_; have GW281 := n6_; have GE281 := n7_; clear n0_ n1_ n2_ n3_ n4_ n5_ n6_ n7_; clear hb hbox hg; obtain ⟨Ao16, co16, eo16⟩ := Kd.R_slice HO276.out; subst eo16; have hcz17_0 : w15.cell? ⟨gb281, 0, none⟩ = some (.slice none 0 0) := (blk_cell BK281.out 0).trans rfl; have hcz17_1 : w15.cell? ⟨gb281, 1, none⟩ = some (.slice none 0 0) := (blk_cell BK281.out 1).trans rfl; have hfz17_0 := blk_frozen BK281.out 0; have hfz17_1 := blk_frozen BK281.out 1; obtain ⟨Ao18, co18, eo18⟩ := Kd.R_slice HO279.out; subst eo18) | ((with_reducible refine gate_store (t := 34) (p := 7) rfl ?_); refine store_event (t := 34) (p := 7) (v := ?vo_w19) (w1 := ((w15.setCell ⟨gb281, 0, none⟩ (.slice Ao16 t274.length co16)).setCell ⟨gb281, 1, none⟩ (.slice Ao18 t277.length co18))) ?hg ?ho ?hn ?hr ?_; (case ho => rfl); (case hg => rfl); (case hn => rfl); (case hr => first | (go_simp; done) | (go_simp; rfl)); intro w19 hw; have n0_ : Aside0 (Kd.S k34 34 w19 w.heap.size (fun k_ => some k_ ≠ (.slice Ao16 t274.length co16 : Value).ownBlock ∧ some k_ ≠ (.slice Ao18 t277.length co18 : Value).ownBlock ∧ k_ ≠ gb281) u4 x4_1) := ⟨(by rw [hw]; exact (by (with_reducible repeat (first | apply Kd.S_alloc | apply Kd.S_drewN | apply Kd.S_drew)); exact Kd.S_mono (Kd.S_far (p := ⟨gb281, 1, none⟩) (Kd.S_far (p := ⟨gb281, 0, none⟩) (Kd.S_mono HO_4.out (fun k_ hk => (⟨hk, hk.2⟩ : _ ∧ k_ ≠ gb281))) (fun _ hk => hk.2) (.slice Ao16 t274.length co16)) (fun _ hk => hk.2) (.slice Ao18 t277.length co18)) (fun _ hk => ⟨hk.1.1.1, ⟨hk.1.1.2, hk.1.2⟩⟩)))⟩; have n1_ : Aside0 (Kd.S (Kd.slice 3 (Kd.int .i64)) 32 w19 w.heap.size (fun k_ => some k_ ≠ (.slice Ao16 t274.length co16 : Value).ownBlock ∧ some k_ ≠ (.slice Ao18 t277.length co18 : Value).ownBlock) (.slice (some ad273) t270.length co8) t270) := ⟨(by rw [hw]; exact (by (with_reducible repeat (first | apply Kd.S_alloc | apply Kd.S_drewN | apply Kd.S_drew)); exact Kd.S_mono (Kd.S_far (p := ⟨gb281, 1, none⟩) (Kd.S_far (p := ⟨gb281, 0, none⟩) (Kd.S_types HO_14.out BK281.out (by decide)) (fun _ hk => hk.2) (.slice Ao16 t274.length co16)) (fun _ hk => hk.2) (.slice Ao18 t277.length co18)) (fun _ hk => ⟨hk.1.1, hk.1.2⟩)))⟩; have n2_ : Aside0 (Kd.R (Kd.int .i64) 3 w19 w.heap.size (fun k_ => some k_ ≠ (.slice Ao18 t277.length co18 : Value).ownBlock) (.slice Ao16 t274.length co16) t274) := ⟨(by rw [hw]; exact (by (with_reducible repeat (first | apply rA_ | apply rN_ | apply rD_)); exact Kd.R_mono (Kd.R_far (p := ⟨gb281, 1, none⟩) (Kd.R_far (p := ⟨gb281, 0, none⟩) (Kd.R_types HO276.out BK281.out (by decide)) (fun _ hk => hk.2) (.slice Ao16 t274.length co16)) (fun _ hk => hk.2) (.slice Ao18 t277.length co18)) (fun _ hk => hk.1)))⟩; have n3_ : Aside0 (Kd.R (Kd.int .i64) 3 w19 w.heap.size (fun k_ => some k_ ≠ (.slice Ao16 t274.length co16 : Value).ownBlock) (.slice Ao18 t277.length co18) t277) := ⟨(by rw [hw]; exact (by (with_reducible repeat (first | apply rA_ | apply rN_ | apply rD_)); exact Kd.R_mono (Kd.R_far (p := ⟨gb281, 1, none⟩) (Kd.R_far (p := ⟨gb281, 0, none⟩) (Kd.R_types HO279.out BK281.out (by decide)) (fun _ hk => hk.2) (.slice Ao16 t274.length co16)) (fun _ hk => hk.2) (.slice Ao18 t277.length co18)) (fun _ hk => hk.1)))⟩; have n4_ : Aside0 (w19.heap[gb281]? = some (.cells #[.slice Ao16 t274.length co16, .slice Ao18 t277.length co18] 34 (0, 0))) := ⟨(by rw [hw]; exact (by (with_reducible repeat (first | refine kN_ ?_ _ | refine kD_ ?_ | refine kA_ ?_ _)); refine blk_put (cs := #[.slice Ao16 t274.length co16, .slice none 0 0]) ?_ 1 _ rfl; (with_reducible repeat (first | refine kN_ ?_ _ | refine kD_ ?_ | refine kA_ ?_ _)); refine blk_put (cs := #[.slice none 0 0, .slice none 0 0]) ?_ 0 _ rfl; (with_reducible repeat (first | refine kN_ ?_ _ | refine kD_ ?_ | refine kA_ ?_ _)); exact BK281.out))⟩; have n5_ : Aside0 (Below w.heap.size w w19) := ⟨(by rw [hw]; exact (by repeat (first | (with_reducible first | exact HB.out | apply bA_ | apply pN_ | apply bD_ | refine bS_ ?_ GE281.out) | exact HB.out)))⟩; clear hw; clear HO_4; clear HO_14; clear HO276; clear HO279; clear BK281; clear HB; have HO_4 := n0_; have HO_14 := n1_; have HO276 := n2_; have HO279 := n3_; have BK281 := n4_; have HB := n5_; clear n0_ n1_ n2_ n3_ n4_ n5_; have hcz20_0 : w19.cell? ⟨gb281, 0, none⟩ = some (.slice Ao16 t274.length co16) := (blk_cell BK281.out 0).trans rfl; have hcz20_1 : w19.cell? ⟨gb281, 1, none⟩ = some (.slice Ao18 t277.length co18) := (blk_cell BK281.out 1).trans rfl; have hfz20_0 := blk_frozen BK281.out 0; have hfz20_1 := blk_frozen BK281.out 1) | ((with_reducible refine gate_builtin (b := .append) (xs := #[.tmp 26, .tmp 28]) rfl ?_); at_builtin; refine Kd.S_append k34 (w0 := w) w.heap.size rfl (.tmp 26) (.tmp 28) 22 34 (.agg #[(.slice none 0 0), (.slice none 0 0)]) 48 rfl Try.underlying22 info34 rfl (by decide) (by omega) u4 x4_1 (⟨t274, t277⟩ : S34) [.slice Ao16 t274.length co16, .slice Ao18 t277.length co18] (fun k_ => k_ ≠ gb281) (fun k_ => some k_ = (.slice Ao16 t274.length co16 : Value).ownBlock ∨ some k_ = (.slice Ao18 t277.length co18 : Value).ownBlock) rfl rfl ?aP (fun k_ hk_ => hk_.elim (fun h_ => ((Kd.R_mono (ok' := fun k_ => ((fun k_ => k_ ≠ gb281)) k_ ∧ some k_ ≠ (u4 : Value).ownBlock) (Kd.R_types (Kd.R_apart' (HO276.out) (Kd.S_typed HO_4.out) (by decide)) BK281.out (by decide)) (fun k_ hk => ⟨hk.2, hk.1.2⟩))).1 k_ h_.symm) (fun h_ => ((Kd.R_mono (ok' := fun k_ => ((fun k_ => k_ ≠ gb281)) k_ ∧ some k_ ≠ (u4 : Value).ownBlock) (Kd.R_types (Kd.R_apart' (HO279.out) (Kd.S_typed HO_4.out) (by decide)) BK281.out (by decide)) (fun k_ hk => ⟨hk.2, hk.1.2⟩))).1 k_ h_.symm)) ?aF ?aO ?aB ?aS ?aL ?_; (case aP => exact k34_mkM _ _ _ (⟨t274, t277⟩ : S34) (Kd.R_mono (Kd.R_tight rfl (Kd.R_mono (ok' := fun k_ => ((fun k_ => k_ ≠ gb281)) k_ ∧ some k_ ≠ (u4 : Value).ownBlock) (Kd.R_types (Kd.R_apart' (HO276.out) (Kd.S_typed HO_4.out) (by decide)) BK281.out (by decide)) (fun k_ hk => ⟨hk.2, hk.1.2⟩))) (fun _ h_ => Or.inl h_)) (Kd.R_mono (Kd.R_tight rfl (Kd.R_mono (ok' := fun k_ => ((fun k_ => k_ ≠ gb281)) k_ ∧ some k_ ≠ (u4 : Value).ownBlock) (Kd.R_types (Kd.R_apart' (HO279.out) (Kd.S_typed HO_4.out) (by decide)) BK281.out (by decide)) (fun k_ hk => ⟨hk.2, hk.1.2⟩))) (fun _ h_ => Or.inr (h_))) (fun k_ hk_ e_ => HO276.out.1 k_ hk_ e_.symm)); (case aB => exact (by repeat (first | (with_reducible first | exact HB.out | apply bA_ | apply pN_ | apply bD_ | refine bS_ ?_ GE281.out) | exact HB.out))); (case aF => exact (fun k_ hk => Kd.freshB (g := gb281) (o := .cells #[.slice Ao16 t274.length co16, .slice Ao18 t277.length co18] 34 (0, 0)) (by (with_reducible repeat (first | refine kN_ ?_ _ | refine kD_ ?_ | refine kA_ ?_ _)); exact BK281.out) k_ hk)); (case aO => exact (by (with_reducible repeat (first | apply Kd.S_alloc | apply Kd.S_drewN | apply Kd.S_drew)); exact Kd.S_mono HO_4.out (fun k_ hk => ⟨hk.2.2, fun e_ => e_.elim (fun h_ => hk.1 h_) (fun h_ => hk.2.1 h_)⟩))); (case aS => exact (below_size (by repeat (first | (with_reducible first | exact HB.out | apply bA_ | apply pN_ | apply bD_ | refine bS_ ?_ GE281.out) | exact HB.out)))); (case aL => have := LMc13.out; omega); intro v283 w21 ho hb hg hat; rw [← Ny282.out] at ho; have n0_ := aS_ (Kd.S_over' (by (with_reducible repeat (first | apply Kd.S_alloc | apply Kd.S_drewN | apply Kd.S_drew)); exact HO_14.out) (Kd.S_typed (by (with_reducible repeat (first | apply Kd.S_alloc | apply Kd.S_drewN | apply Kd.S_drew)); exact HO_4.out)) (by decide) hg); have n1_ := aS_ (blk_grown (g := gb281) (o := .cells #[.slice Ao16 t274.length co16, .slice Ao18 t277.length co18] 34 (0, 0)) (by (with_reducible repeat (first | refine kN_ ?_ _ | refine kD_ ?_ | refine kA_ ?_ _)); exact BK281.out) hg (Kd.S_away HO_4.out (fun _ hk => hk.2.2))); have n2_ := aS_ (hb); have n3_ := aS_ (ho); clear HO_14; clear BK281; clear HB; clear HO_4; clear HO276; clear HO279; have HO_14 := n0_; have BK281 := n1_; have HB := n2_; have HO284 := n3_; clear n0_ n1_ n2_ n3_; clear ho hb hg hat))
        go_roundg k1
        case measure => have := HK1.out; omega
        case rel => exact ⟨(y282), (wrap64 (x16_1 + 1)), (by first | rfl | (simp; done) | (simp [*]; done)), H', ⟨by have := HK1.out; omega⟩, ⟨by (with_reducible repeat (first | apply Kd.S_alloc | apply Kd.S_drewN | apply Kd.S_drew)); exact Kd.S_mono HO284.out (fun _ hk => trivial)⟩, ⟨by (with_reducible repeat (first | apply Kd.S_alloc | apply Kd.S_drewN | apply Kd.S_drew)); exact Kd.S_mono HO_14.out (fun _ hk => trivial)⟩, ⟨by repeat (first | (with_reducible first | exact HB.out | apply bA_ | apply pN_ | apply bD_ | refine bS_ ?_ GE281.out) | exact HB.out)⟩⟩
       ·rw [if_neg c13] at H
        exact absurd H (by simp)
      ·rw [if_neg c11] at H
       exact absurd H (by simp)
     ·rw [if_neg c10] at H
      exact absurd H (by simp)
    ·rw [if_neg c9] at H
     have c9b0 : decide (x16_1 < (t270.length : Int)) = false := decide_eq_false c9
     clear c9
     simp only [Option.some.injEq, Prod.mk.injEq] at H
     obtain ⟨rfl, rfl⟩ := H
     go_wp2
     go_ret2
     exact ⟨_, by first | rfl | (simp [errW_none, errW_some] <;> rfl) | (simp [*, errW_none, errW_some] <;> rfl), by (with_reducible repeat (first | apply Kd.S_alloc | apply Kd.S_drewN | apply Kd.S_drew)); exact HO_4.out, by repeat (first | (with_reducible first | exact HB.out | apply bA_ | apply pN_ | apply bD_) | exact HB.out)⟩
 ·replace c3 := Bool.eq_false_iff.mpr c3
  subst c3
  rw [if_neg (show ¬ (false = true) by decide)] at H
  simp only [Option.some.injEq, Prod.mk.injEq] at H
  obtain ⟨rfl, rfl⟩ := H
  go_enter Try.func5, Try.ntmps5
  go_wp2_with (first | ((with_reducible refine gate_callee (f := 12) rfl ?_); refine goesL_ (some 10) rfl rfl Try.func12 (by kernel_rfl) rfl #[.int .i64 a0, .int .i64 0, .int .i64 4] rfl (by (try simp only [List.map_toArray, List.map_cons, List.map_nil]); first | done | rfl | (simp only [List.length_drop, List.length_take]; rfl)) ?_; (with_reducible refine (impl_between.calls a0 0 4 false _ A2.out).mono ?_); rintro e w' ⟨rfl, ⟨nd, rfl⟩⟩; refine ⟨_, rfl, ?_⟩))
  go_ret2
  exact ⟨_, by first | rfl | (simp [errW_none, errW_some] <;> rfl) | (simp [*, errW_none, errW_some] <;> rfl), by first | exact Kd.S_nil _ _ _ _ _ | exact Kd.N_nil _ _ _ _ _ | exact Kd.V_nil _ _ _ _ _ | exact Kd.Q_nil _ _ _ _ _ | exact Kd.R_nil _ _ _ _ _, by repeat (first | (with_reducible first | exact HB.out | apply bA_ | apply pN_ | apply bD_) | exact HB.out)⟩
/-! ### laws_eqIntS: function 27 -/
def laws_eqIntS.l0 : Nat → List Int → List Int → Int → Option (Bool)
 | 0, _, _, _ => none
 | k + 1, x0, x1, x5 => if x5 < (x0.length : Int) then (if 0 ≤ x5 then (if x5 < (x1.length : Int) then (if (rd x0 x5) = (rd x1 x5) then (laws_eqIntS.l0 k x0 x1 (wrap64 (x5 + 1))) else (some false)) else (none)) else (none)) else (some true)
def laws_eqIntS.f (k : Nat) (l0 : List Int) (l1 : List Int) : Option (Bool) := if (l0.length : Int) = (l1.length : Int) then (laws_eqIntS.l0 k l0 l1 0) else (some false)
theorem laws_eqIntS.mono_l : ∀ k, (∀ y0 y1 y2, LeO (laws_eqIntS.l0 k y0 y1 y2) (laws_eqIntS.l0 (k + 1) y0 y1 y2))
 | 0 => fun _ _ _ r h => by simp [laws_eqIntS.l0] at h
 | k + 1 => by
  have ih0 := laws_eqIntS.mono_l k
  ·intro y0 y1 y2
   unfold laws_eqIntS.l0
   repeat' first
   | (with_reducible exact ih0 _ _ _)
   | (with_reducible exact LeO.refl _)
   | (with_reducible exact LeO.none _)
   | (with_reducible refine LeO.ite ?_ ?_)
   | (with_reducible refine LeO.bind ?_ (fun _ => ?_))
   | exact ih0 _ _ _
   | exact LeO.none _
   | refine LeO.ite ?_ ?_
   | refine LeO.bind ?_ (fun _ => ?_)
theorem laws_eqIntS.mono : ∀ a0 a1 k, LeO (laws_eqIntS.f k a0 a1) (laws_eqIntS.f (k + 1) a0 a1) := by
 intro a0 a1 k
 have ih0 := laws_eqIntS.mono_l k
 unfold laws_eqIntS.f
 repeat' first
   | (with_reducible exact ih0 _ _ _)
   | (with_reducible exact LeO.refl _)
   | (with_reducible exact LeO.none _)
   | (with_reducible refine LeO.ite ?_ ?_)
   | (with_reducible refine LeO.bind ?_ (fun _ => ?_))
   | exact ih0 _ _ _
   | exact LeO.none _
   | refine LeO.ite ?_ ?_
   | refine LeO.bind ?_ (fun _ => ?_)
set_option maxHeartbeats 8000000 in
set_option maxRecDepth 100000 in
theorem laws_eqIntS.calls (k : Nat) (A0 : Option Addr) (c0 : Nat) (l0 : List Int) (A1 : Option Addr) (c1 : Nat) (l1 : List Int) (r : Bool) (w : World) (hr0 : Kd.C (Kd.int .i64) w A0 l0.length l0) (hc0 : l0.length ≤ c0) (hr1 : Kd.C (Kd.int .i64) w A1 l1.length l1) (hc1 : l1.length ≤ c1) (h : laws_eqIntS.f k l0 l1 = some r) :
  Calls Try.prog 27 #[.slice A0 l0.length c0, .slice A1 l1.length c1] w fun e w' => e = .returned (.bool r) ∧ Drawn0 w w' := by
 have HR0 := aS_ hr0
 have HC0 := aS_ hc0
 clear hr0 hc0
 have HR1 := aS_ hr1
 have HC1 := aS_ hc1
 clear hr1 hc1
 have H : (if (l0.length : Int) = (l1.length : Int) then (laws_eqIntS.l0 k l0 l1 0) else (some false)) = some r := h
 clear h
 by_cases c3 : (l0.length : Int) = (l1.length : Int)
 ·rw [if_pos c3] at H
  have c3b0 : ((l0.length : Int) == (l1.length : Int)) = true := beq_iff_eq.mpr c3
  have c3b1 : ((l0.length : Int) != (l1.length : Int)) = false := bne_eq_false_iff_eq.mpr c3
  have c3b2 : (l0.length == l1.length) = true := by first | simpa using c3 | (simp at c3 ⊢; omega)
  clear c3
  have H' := aS_ H
  clear H
  go_enter Try.func27, Try.ntmps27
  go_wp2
  repeat (go_quiet (fail); try go_wp2)
  go_loopg [5] k (fun kq v5 w' => ∃ (x5_1 : Int), v5 = .int .i64 x5_1 ∧ Aside0 (laws_eqIntS.l0 kq l0 l1 x5_1 = some r) ∧ Aside0 (kq ≤ k) ∧ Drawn0 w w')
  case atStart => exact ⟨(0), (by first | rfl | (simp; done) | (simp [*]; done)), H', ⟨Nat.le_refl _⟩, by repeat (first | exact Drawn0.refl _ | apply Drawn0.step)⟩
  case round =>
   clear H'
   try clear c1
   try clear c2
   try clear p2
   try clear c3
   try clear c3b0
   try clear c3b1
   try clear c3b2
   obtain ⟨x5_1, rfl, HA, HK1, ⟨m1, rfl⟩⟩ := hrel
   cases gk with
   | zero => exact absurd HA.out (by simp [laws_eqIntS.l0])
   | succ k1 =>
    have H := HA.out
    clear HA
    simp only [laws_eqIntS.l0] at H
    by_cases c4 : x5_1 < (l0.length : Int)
    ·rw [if_pos c4] at H
     have c4b0 : decide (x5_1 < (l0.length : Int)) = true := decide_eq_true c4
     clear c4
     by_cases c5 : 0 ≤ x5_1
     ·rw [if_pos c5] at H
      have c5b0 : decide (0 ≤ x5_1) = true := decide_eq_true c5
      clear c5
      by_cases c6 : x5_1 < (l1.length : Int)
      ·rw [if_pos c6] at H
       have c6b0 : decide (x5_1 < (l1.length : Int)) = true := decide_eq_true c6
       clear c6
       by_cases c7 : (rd l0 x5_1) = (rd l1 x5_1)
       ·rw [if_pos c7] at H
        have c7b0 : ((rd l0 x5_1) == (rd l1 x5_1)) = true := beq_iff_eq.mpr c7
        have c7b1 : ((rd l0 x5_1) != (rd l1 x5_1)) = false := bne_eq_false_iff_eq.mpr c7
        clear c7
        have H' := aS_ H
        clear H
        have p285 : 0 ≤ (x5_1 : Int) := of_decide_eq_true (by assumption)
        have q285 : x5_1 < (l0.length : Int) := of_decide_eq_true (by assumption)
        obtain ⟨ad285, e285, hx285_0⟩ := Kd.at_int HR0.out x5_1 p285 q285
        cases e285
        replace p285 := eq_true p285
        replace q285 := eq_true q285
        have p286 : 0 ≤ (x5_1 : Int) := of_decide_eq_true (by assumption)
        have q286 : x5_1 < (l1.length : Int) := of_decide_eq_true (by assumption)
        obtain ⟨ad286, e286, hx286_0⟩ := Kd.at_int HR1.out x5_1 p286 q286
        cases e286
        replace p286 := eq_true p286
        replace q286 := eq_true q286
        go_wp2
        repeat (go_quiet (fail); try go_wp2)
        go_roundg k1
        case measure => have := HK1.out; omega
        case rel => exact ⟨(wrap64 (x5_1 + 1)), (by first | rfl | (simp; done) | (simp [*]; done)), H', ⟨by have := HK1.out; omega⟩, by repeat (first | exact Drawn0.refl _ | apply Drawn0.step)⟩
       ·rw [if_neg c7] at H
        have c7b0 : ((rd l0 x5_1) == (rd l1 x5_1)) = false := beq_eq_false_iff_ne.mpr c7
        have c7b1 : ((rd l0 x5_1) != (rd l1 x5_1)) = true := bne_iff_ne.mpr c7
        obtain rfl := Option.some.inj H
        have p285 : 0 ≤ (x5_1 : Int) := of_decide_eq_true (by assumption)
        have q285 : x5_1 < (l0.length : Int) := of_decide_eq_true (by assumption)
        obtain ⟨ad285, e285, hx285_0⟩ := Kd.at_int HR0.out x5_1 p285 q285
        cases e285
        replace p285 := eq_true p285
        replace q285 := eq_true q285
        have p286 : 0 ≤ (x5_1 : Int) := of_decide_eq_true (by assumption)
        have q286 : x5_1 < (l1.length : Int) := of_decide_eq_true (by assumption)
        obtain ⟨ad286, e286, hx286_0⟩ := Kd.at_int HR1.out x5_1 p286 q286
        cases e286
        replace p286 := eq_true p286
        replace q286 := eq_true q286
        go_wp2
        repeat (go_quiet (fail); try go_wp2)
        go_ret
        exact ⟨by first | rfl | (simp; done) | (simp [*]; done), by repeat (first | exact Drawn0.refl _ | apply Drawn0.step)⟩
      ·rw [if_neg c6] at H
       exact absurd H (by simp)
     ·rw [if_neg c5] at H
      exact absurd H (by simp)
    ·rw [if_neg c4] at H
     have c4b0 : decide (x5_1 < (l0.length : Int)) = false := decide_eq_false c4
     clear c4
     obtain rfl := Option.some.inj H
     go_wp2
     repeat (go_quiet (fail); try go_wp2)
     go_ret
     exact ⟨by first | rfl | (simp; done) | (simp [*]; done), by repeat (first | exact Drawn0.refl _ | apply Drawn0.step)⟩
 ·rw [if_neg c3] at H
  have c3b0 : ((l0.length : Int) == (l1.length : Int)) = false := beq_eq_false_iff_ne.mpr c3
  have c3b1 : ((l0.length : Int) != (l1.length : Int)) = true := bne_iff_ne.mpr c3
  have c3b2 : (l0.length == l1.length) = false := by first | simpa using c3 | (simp at c3 ⊢; omega)
  obtain rfl := Option.some.inj H
  go_enter Try.func27, Try.ntmps27
  go_wp2
  repeat (go_quiet (fail); try go_wp2)
  go_ret
  exact ⟨by first | rfl | (simp; done) | (simp [*]; done), by repeat (first | exact Drawn0.refl _ | apply Drawn0.step)⟩
/-! ### laws_eqRegion: function 15 -/
def laws_eqRegion.f (k : Nat) (l0_0 : List Int) (l0_1 : List Int) (l1_0 : List Int) (l1_1 : List Int) : Option (Bool) := (laws_eqIntS.f k l0_0 l1_0).bind fun t289 => (if t289 = true then ((laws_eqIntS.f k l0_1 l1_1).bind fun t290 => (if t290 = true then (some true) else (some false))) else (some false))
theorem laws_eqRegion.mono : ∀ a0 a1 a2 a3 k, LeO (laws_eqRegion.f k a0 a1 a2 a3) (laws_eqRegion.f (k + 1) a0 a1 a2 a3) := by
 intro a0 a1 a2 a3 k
 unfold laws_eqRegion.f
 repeat' first
   | (with_reducible exact laws_eqIntS.mono _ _ _)
   | (with_reducible exact LeO.refl _)
   | (with_reducible exact LeO.none _)
   | (with_reducible refine LeO.ite ?_ ?_)
   | (with_reducible refine LeO.bind ?_ (fun _ => ?_))
   | exact laws_eqIntS.mono _ _ _
   | exact LeO.none _
   | refine LeO.ite ?_ ?_
   | refine LeO.bind ?_ (fun _ => ?_)
set_option maxHeartbeats 8000000 in
set_option maxRecDepth 100000 in
theorem laws_eqRegion.calls (k : Nat) (A0_0 : Option Addr) (c0_0 : Nat) (l0_0 : List Int) (A0_1 : Option Addr) (c0_1 : Nat) (l0_1 : List Int) (A1_0 : Option Addr) (c1_0 : Nat) (l1_0 : List Int) (A1_1 : Option Addr) (c1_1 : Nat) (l1_1 : List Int) (r : Bool) (w : World) (hr0_0 : Kd.C (Kd.int .i64) w A0_0 l0_0.length l0_0) (hc0_0 : l0_0.length ≤ c0_0) (hr0_1 : Kd.C (Kd.int .i64) w A0_1 l0_1.length l0_1) (hc0_1 : l0_1.length ≤ c0_1) (hr1_0 : Kd.C (Kd.int .i64) w A1_0 l1_0.length l1_0) (hc1_0 : l1_0.length ≤ c1_0) (hr1_1 : Kd.C (Kd.int .i64) w A1_1 l1_1.length l1_1) (hc1_1 : l1_1.length ≤ c1_1) (h : laws_eqRegion.f k l0_0 l0_1 l1_0 l1_1 = some r) :
  Calls Try.prog 15 #[.agg #[.slice A0_0 l0_0.length c0_0, .slice A0_1 l0_1.length c0_1], .agg #[.slice A1_0 l1_0.length c1_0, .slice A1_1 l1_1.length c1_1]] w fun e w' => e = .returned (.bool r) ∧ Below w.heap.size w w' := by
 have hu34 := Try.underlying34
 have HR0_0 := aS_ hr0_0
 have HC0_0 := aS_ hc0_0
 clear hr0_0 hc0_0
 have HR0_1 := aS_ hr0_1
 have HC0_1 := aS_ hc0_1
 clear hr0_1 hc0_1
 have HR1_0 := aS_ hr1_0
 have HC1_0 := aS_ hc1_0
 clear hr1_0 hc1_0
 have HR1_1 := aS_ hr1_1
 have HC1_1 := aS_ hc1_1
 clear hr1_1 hc1_1
 have HB := aS_ (Below.refl w.heap.size w)
 have H : ((laws_eqIntS.f k l0_0 l1_0).bind fun t289 => (if t289 = true then ((laws_eqIntS.f k l0_1 l1_1).bind fun t290 => (if t290 = true then (some true) else (some false))) else (some false))) = some r := h
 clear h
 replace H := Option.bind_eq_some_iff.mp H
 obtain ⟨t289, A30, H⟩ := H
 have A3 := aS_ A30
 clear A30
 by_cases c4 : t289 = true
 ·subst c4
  rw [if_pos rfl] at H
  replace H := Option.bind_eq_some_iff.mp H
  obtain ⟨t290, A50, H⟩ := H
  have A5 := aS_ A50
  clear A50
  by_cases c6 : t290 = true
  ·subst c6
   rw [if_pos rfl] at H
   obtain rfl := Option.some.inj H
   go_enter Try.func15, Try.ntmps15
   go_wp2_with (first | ((with_reducible refine gate_dst (N := 2) rfl ?_); refine box_event ?hg (N := 2) ?hd (cs := #[.slice A0_0 l0_0.length c0_0, .slice A0_1 l0_1.length c0_1]) (t := 34) ?hr ?_; (case hd => rfl); (case hg => rfl); (case hr => first | (go_simp; done) | (go_simp; rfl)); intro gb287 hg w7 hbox hb; have n0_ := aS_ (below_step (by repeat (first | (with_reducible first | exact HB.out | apply bA_ | apply pN_ | apply bD_) | exact HB.out)) hb); have n1_ := aS_ (hbox); have n2_ := aS_ ((by rw [hg]; exact (below_size (by repeat (first | (with_reducible first | exact HB.out | apply bA_ | apply pN_ | apply bD_) | exact HB.out))) : w.heap.size ≤ gb287)); have n3_ := aS_ ((by rw [hg]; exact (below_size (by repeat (first | (with_reducible first | exact HB.out | apply bA_ | apply pN_ | apply bD_) | exact HB.out))) : w.heap.size ≤ gb287)); clear HB; have HB := n0_; have BK287 := n1_; have GW287 := n2_; have GE287 := n3_; clear n0_ n1_ n2_ n3_; clear hb hbox hg) | ((with_reducible refine gate_dst (N := 3) rfl ?_); refine box_event ?hg (N := 3) ?hd (cs := #[.slice A1_0 l1_0.length c1_0, .slice A1_1 l1_1.length c1_1]) (t := 34) ?hr ?_; (case hd => rfl); (case hg => rfl); (case hr => first | (go_simp; done) | (go_simp; rfl)); intro gb288 hg w8 hbox hb; have n0_ := aS_ (blk_below (g := gb287) (o := .cells #[.slice A0_0 l0_0.length c0_0, .slice A0_1 l0_1.length c0_1] 34 (0, 0)) (by (with_reducible repeat (first | refine kN_ ?_ _ | refine kD_ ?_ | refine kA_ ?_ _)); exact BK287.out) hb); have n1_ := aS_ (below_step (by repeat (first | (with_reducible first | exact HB.out | apply bA_ | apply pN_ | apply bD_ | refine bS_ ?_ GE287.out) | exact HB.out)) hb); have n2_ := aS_ (hbox); have n3_ := aS_ ((by rw [hg]; exact (below_size (by repeat (first | (with_reducible first | exact HB.out | apply bA_ | apply pN_ | apply bD_ | refine bS_ ?_ GE287.out) | exact HB.out))) : w.heap.size ≤ gb288)); have n4_ := aS_ ((by rw [hg]; exact (below_size (by repeat (first | (with_reducible first | exact HB.out | apply bA_ | apply pN_ | apply bD_ | refine bS_ ?_ GE287.out) | exact HB.out))) : w.heap.size ≤ gb288)); have n5_ := aS_ ((by rw [hg]; exact Nat.ne_of_lt (blk_lt (g := gb287) (o := .cells #[.slice A0_0 l0_0.length c0_0, .slice A0_1 l0_1.length c0_1] 34 (0, 0)) (by (with_reducible repeat (first | refine kN_ ?_ _ | refine kD_ ?_ | refine kA_ ?_ _)); exact BK287.out)) : gb287 ≠ gb288)); have n6_ := aS_ ((by rw [hg]; exact Nat.ne_of_gt (blk_lt (g := gb287) (o := .cells #[.slice A0_0 l0_0.length c0_0, .slice A0_1 l0_1.length c0_1] 34 (0, 0)) (by (with_reducible repeat (first | refine kN_ ?_ _ | refine kD_ ?_ | refine kA_ ?_ _)); exact BK287.out)) : gb288 ≠ gb287)); clear BK287; clear HB; have BK287 := n0_; have HB := n1_; have BK288 := n2_; have GW288 := n3_; have GE288 := n4_; have NB287_288 := n5_; have NB288_287 := n6_; clear n0_ n1_ n2_ n3_ n4_ n5_ n6_; clear hb hbox hg; have hnb9 := NB287_288.out; have hnc9 := NB288_287.out; have hcz10_0 : w8.cell? ⟨gb287, 0, none⟩ = some (.slice A0_0 l0_0.length c0_0) := (blk_cell BK287.out 0).trans rfl; have hcz10_1 : w8.cell? ⟨gb287, 1, none⟩ = some (.slice A0_1 l0_1.length c0_1) := (blk_cell BK287.out 1).trans rfl; have hfz10_0 := blk_frozen BK287.out 0; have hfz10_1 := blk_frozen BK287.out 1; have hcz11_0 : w8.cell? ⟨gb288, 0, none⟩ = some (.slice A1_0 l1_0.length c1_0) := (blk_cell BK288.out 0).trans rfl; have hcz11_1 : w8.cell? ⟨gb288, 1, none⟩ = some (.slice A1_1 l1_1.length c1_1) := (blk_cell BK288.out 1).trans rfl; have hfz11_0 := blk_frozen BK288.out 0; have hfz11_1 := blk_frozen BK288.out 1) | ((with_reducible refine gate_callee (f := 27) rfl ?_); refine goesL_ (some 9) rfl rfl Try.func27 (by kernel_rfl) rfl #[.slice A0_0 l0_0.length c0_0, .slice A1_0 l1_0.length c1_0] rfl (by (try simp only [List.map_toArray, List.map_cons, List.map_nil]); first | done | rfl | (simp only [List.length_drop, List.length_take]; rfl)) ?_; (with_reducible refine (laws_eqIntS.calls k _ _ l0_0 _ _ l1_0 true _ ?side1 ?side2 ?side3 ?side4 A3.out).mono ?_); (case side1 => repeat (first | exact (Kd.C_below HR0_0.out HB.out) | (with_reducible refine Kd.C_alloc ?_ _) | (with_reducible refine Kd.C_drewN ?_ _) | (with_reducible refine Kd.C_drew ?_))); (case side2 => exact HC0_0.out); (case side3 => repeat (first | exact (Kd.C_below HR1_0.out HB.out) | (with_reducible refine Kd.C_alloc ?_ _) | (with_reducible refine Kd.C_drewN ?_ _) | (with_reducible refine Kd.C_drew ?_))); (case side4 => exact HC1_0.out); rintro e w' ⟨rfl, ⟨nd, rfl⟩⟩; refine ⟨_, rfl, ?_⟩) | ((with_reducible refine gate_callee (f := 27) rfl ?_); refine goesL_ (some 15) rfl rfl Try.func27 (by kernel_rfl) rfl #[.slice A0_1 l0_1.length c0_1, .slice A1_1 l1_1.length c1_1] rfl (by (try simp only [List.map_toArray, List.map_cons, List.map_nil]); first | done | rfl | (simp only [List.length_drop, List.length_take]; rfl)) ?_; (with_reducible refine (laws_eqIntS.calls k _ _ l0_1 _ _ l1_1 true _ ?side1 ?side2 ?side3 ?side4 A5.out).mono ?_); (case side1 => repeat (first | exact (Kd.C_below HR0_1.out (by repeat (first | (with_reducible first | exact HB.out | apply bA_ | apply pN_ | apply bD_ | refine bS_ ?_ GE287.out | refine bS_ ?_ GE288.out) | exact HB.out))) | (with_reducible refine Kd.C_alloc ?_ _) | (with_reducible refine Kd.C_drewN ?_ _) | (with_reducible refine Kd.C_drew ?_))); (case side2 => exact HC0_1.out); (case side3 => repeat (first | exact (Kd.C_below HR1_1.out (by repeat (first | (with_reducible first | exact HB.out | apply bA_ | apply pN_ | apply bD_ | refine bS_ ?_ GE287.out | refine bS_ ?_ GE288.out) | exact HB.out))) | (with_reducible refine Kd.C_alloc ?_ _) | (with_reducible refine Kd.C_drewN ?_ _) | (with_reducible refine Kd.C_drew ?_))); (case side4 => exact HC1_1.out); rintro e w' ⟨rfl, ⟨nd, rfl⟩⟩; refine ⟨_, rfl, ?_⟩))
   go_ret
   exact ⟨by first | rfl | (simp [errW_none, errW_some] <;> rfl) | (simp [*, errW_none, errW_some] <;> rfl), by repeat (first | (with_reducible first | exact HB.out | apply bA_ | apply pN_ | apply bD_ | refine bS_ ?_ GE287.out | refine bS_ ?_ GE288.out) | exact HB.out)⟩
  ·replace c6 := Bool.eq_false_iff.mpr c6
   subst c6
   rw [if_neg (show ¬ (false = true) by decide)] at H
   obtain rfl := Option.some.inj H
   go_enter Try.func15, Try.ntmps15
   go_wp2_with (first | ((with_reducible refine gate_dst (N := 2) rfl ?_); refine box_event ?hg (N := 2) ?hd (cs := #[.slice A0_0 l0_0.length c0_0, .slice A0_1 l0_1.length c0_1]) (t := 34) ?hr ?_; (case hd => rfl); (case hg => rfl); (case hr => first | (go_simp; done) | (go_simp; rfl)); intro gb287 hg w12 hbox hb; have n0_ := aS_ (below_step (by repeat (first | (with_reducible first | exact HB.out | apply bA_ | apply pN_ | apply bD_) | exact HB.out)) hb); have n1_ := aS_ (hbox); have n2_ := aS_ ((by rw [hg]; exact (below_size (by repeat (first | (with_reducible first | exact HB.out | apply bA_ | apply pN_ | apply bD_) | exact HB.out))) : w.heap.size ≤ gb287)); have n3_ := aS_ ((by rw [hg]; exact (below_size (by repeat (first | (with_reducible first | exact HB.out | apply bA_ | apply pN_ | apply bD_) | exact HB.out))) : w.heap.size ≤ gb287)); clear HB; have HB := n0_; have BK287 := n1_; have GW287 := n2_; have GE287 := n3_; clear n0_ n1_ n2_ n3_; clear hb hbox hg) | ((with_reducible refine gate_dst (N := 3) rfl ?_); refine box_event ?hg (N := 3) ?hd (cs := #[.slice A1_0 l1_0.length c1_0, .slice A1_1 l1_1.length c1_1]) (t := 34) ?hr ?_; (case hd => rfl); (case hg => rfl); (case hr => first | (go_simp; done) | (go_simp; rfl)); intro gb288 hg w13 hbox hb; have n0_ := aS_ (blk_below (g := gb287) (o := .cells #[.slice A0_0 l0_0.length c0_0, .slice A0_1 l0_1.length c0_1] 34 (0, 0)) (by (with_reducible repeat (first | refine kN_ ?_ _ | refine kD_ ?_ | refine kA_ ?_ _)); exact BK287.out) hb); have n1_ := aS_ (below_step (by repeat (first | (with_reducible first | exact HB.out | apply bA_ | apply pN_ | apply bD_ | refine bS_ ?_ GE287.out) | exact HB.out)) hb); have n2_ := aS_ (hbox); have n3_ := aS_ ((by rw [hg]; exact (below_size (by repeat (first | (with_reducible first | exact HB.out | apply bA_ | apply pN_ | apply bD_ | refine bS_ ?_ GE287.out) | exact HB.out))) : w.heap.size ≤ gb288)); have n4_ := aS_ ((by rw [hg]; exact (below_size (by repeat (first | (with_reducible first | exact HB.out | apply bA_ | apply pN_ | apply bD_ | refine bS_ ?_ GE287.out) | exact HB.out))) : w.heap.size ≤ gb288)); have n5_ := aS_ ((by rw [hg]; exact Nat.ne_of_lt (blk_lt (g := gb287) (o := .cells #[.slice A0_0 l0_0.length c0_0, .slice A0_1 l0_1.length c0_1] 34 (0, 0)) (by (with_reducible repeat (first | refine kN_ ?_ _ | refine kD_ ?_ | refine kA_ ?_ _)); exact BK287.out)) : gb287 ≠ gb288)); have n6_ := aS_ ((by rw [hg]; exact Nat.ne_of_gt (blk_lt (g := gb287) (o := .cells #[.slice A0_0 l0_0.length c0_0, .slice A0_1 l0_1.length c0_1] 34 (0, 0)) (by (with_reducible repeat (first | refine kN_ ?_ _ | refine kD_ ?_ | refine kA_ ?_ _)); exact BK287.out)) : gb288 ≠ gb287)); clear BK287; clear HB; have BK287 := n0_; have HB := n1_; have BK288 := n2_; have GW288 := n3_; have GE288 := n4_; have NB287_288 := n5_; have NB288_287 := n6_; clear n0_ n1_ n2_ n3_ n4_ n5_ n6_; clear hb hbox hg; have hnb14 := NB287_288.out; have hnc14 := NB288_287.out; have hcz15_0 : w13.cell? ⟨gb287, 0, none⟩ = some (.slice A0_0 l0_0.length c0_0) := (blk_cell BK287.out 0).trans rfl; have hcz15_1 : w13.cell? ⟨gb287, 1, none⟩ = some (.slice A0_1 l0_1.length c0_1) := (blk_cell BK287.out 1).trans rfl; have hfz15_0 := blk_frozen BK287.out 0; have hfz15_1 := blk_frozen BK287.out 1; have hcz16_0 : w13.cell? ⟨gb288, 0, none⟩ = some (.slice A1_0 l1_0.length c1_0) := (blk_cell BK288.out 0).trans rfl; have hcz16_1 : w13.cell? ⟨gb288, 1, none⟩ = some (.slice A1_1 l1_1.length c1_1) := (blk_cell BK288.out 1).trans rfl; have hfz16_0 := blk_frozen BK288.out 0; have hfz16_1 := blk_frozen BK288.out 1) | ((with_reducible refine gate_callee (f := 27) rfl ?_); refine goesL_ (some 9) rfl rfl Try.func27 (by kernel_rfl) rfl #[.slice A0_0 l0_0.length c0_0, .slice A1_0 l1_0.length c1_0] rfl (by (try simp only [List.map_toArray, List.map_cons, List.map_nil]); first | done | rfl | (simp only [List.length_drop, List.length_take]; rfl)) ?_; (with_reducible refine (laws_eqIntS.calls k _ _ l0_0 _ _ l1_0 true _ ?side1 ?side2 ?side3 ?side4 A3.out).mono ?_); (case side1 => repeat (first | exact (Kd.C_below HR0_0.out HB.out) | (with_reducible refine Kd.C_alloc ?_ _) | (with_reducible refine Kd.C_drewN ?_ _) | (with_reducible refine Kd.C_drew ?_))); (case side2 => exact HC0_0.out); (case side3 => repeat (first | exact (Kd.C_below HR1_0.out HB.out) | (with_reducible refine Kd.C_alloc ?_ _) | (with_reducible refine Kd.C_drewN ?_ _) | (with_reducible refine Kd.C_drew ?_))); (case side4 => exact HC1_0.out); rintro e w' ⟨rfl, ⟨nd, rfl⟩⟩; refine ⟨_, rfl, ?_⟩) | ((with_reducible refine gate_callee (f := 27) rfl ?_); refine goesL_ (some 15) rfl rfl Try.func27 (by kernel_rfl) rfl #[.slice A0_1 l0_1.length c0_1, .slice A1_1 l1_1.length c1_1] rfl (by (try simp only [List.map_toArray, List.map_cons, List.map_nil]); first | done | rfl | (simp only [List.length_drop, List.length_take]; rfl)) ?_; (with_reducible refine (laws_eqIntS.calls k _ _ l0_1 _ _ l1_1 false _ ?side1 ?side2 ?side3 ?side4 A5.out).mono ?_); (case side1 => repeat (first | exact (Kd.C_below HR0_1.out (by repeat (first | (with_reducible first | exact HB.out | apply bA_ | apply pN_ | apply bD_ | refine bS_ ?_ GE287.out | refine bS_ ?_ GE288.out) | exact HB.out))) | (with_reducible refine Kd.C_alloc ?_ _) | (with_reducible refine Kd.C_drewN ?_ _) | (with_reducible refine Kd.C_drew ?_))); (case side2 => exact HC0_1.out); (case side3 => repeat (first | exact (Kd.C_below HR1_1.out (by repeat (first | (with_reducible first | exact HB.out | apply bA_ | apply pN_ | apply bD_ | refine bS_ ?_ GE287.out | refine bS_ ?_ GE288.out) | exact HB.out))) | (with_reducible refine Kd.C_alloc ?_ _) | (with_reducible refine Kd.C_drewN ?_ _) | (with_reducible refine Kd.C_drew ?_))); (case side4 => exact HC1_1.out); rintro e w' ⟨rfl, ⟨nd, rfl⟩⟩; refine ⟨_, rfl, ?_⟩))
   go_ret
   exact ⟨by first | rfl | (simp [errW_none, errW_some] <;> rfl) | (simp [*, errW_none, errW_some] <;> rfl), by repeat (first | (with_reducible first | exact HB.out | apply bA_ | apply pN_ | apply bD_ | refine bS_ ?_ GE287.out | refine bS_ ?_ GE288.out) | exact HB.out)⟩
 ·replace c4 := Bool.eq_false_iff.mpr c4
  subst c4
  rw [if_neg (show ¬ (false = true) by decide)] at H
  obtain rfl := Option.some.inj H
  go_enter Try.func15, Try.ntmps15
  go_wp2_with (first | ((with_reducible refine gate_dst (N := 2) rfl ?_); refine box_event ?hg (N := 2) ?hd (cs := #[.slice A0_0 l0_0.length c0_0, .slice A0_1 l0_1.length c0_1]) (t := 34) ?hr ?_; (case hd => rfl); (case hg => rfl); (case hr => first | (go_simp; done) | (go_simp; rfl)); intro gb287 hg w17 hbox hb; have n0_ := aS_ (below_step (by repeat (first | (with_reducible first | exact HB.out | apply bA_ | apply pN_ | apply bD_) | exact HB.out)) hb); have n1_ := aS_ (hbox); have n2_ := aS_ ((by rw [hg]; exact (below_size (by repeat (first | (with_reducible first | exact HB.out | apply bA_ | apply pN_ | apply bD_) | exact HB.out))) : w.heap.size ≤ gb287)); have n3_ := aS_ ((by rw [hg]; exact (below_size (by repeat (first | (with_reducible first | exact HB.out | apply bA_ | apply pN_ | apply bD_) | exact HB.out))) : w.heap.size ≤ gb287)); clear HB; have HB := n0_; have BK287 := n1_; have GW287 := n2_; have GE287 := n3_; clear n0_ n1_ n2_ n3_; clear hb hbox hg) | ((with_reducible refine gate_dst (N := 3) rfl ?_); refine box_event ?hg (N := 3) ?hd (cs := #[.slice A1_0 l1_0.length c1_0, .slice A1_1 l1_1.length c1_1]) (t := 34) ?hr ?_; (case hd => rfl); (case hg => rfl); (case hr => first | (go_simp; done) | (go_simp; rfl)); intro gb288 hg w18 hbox hb; have n0_ := aS_ (blk_below (g := gb287) (o := .cells #[.slice A0_0 l0_0.length c0_0, .slice A0_1 l0_1.length c0_1] 34 (0, 0)) (by (with_reducible repeat (first | refine kN_ ?_ _ | refine kD_ ?_ | refine kA_ ?_ _)); exact BK287.out) hb); have n1_ := aS_ (below_step (by repeat (first | (with_reducible first | exact HB.out | apply bA_ | apply pN_ | apply bD_ | refine bS_ ?_ GE287.out) | exact HB.out)) hb); have n2_ := aS_ (hbox); have n3_ := aS_ ((by rw [hg]; exact (below_size (by repeat (first | (with_reducible first | exact HB.out | apply bA_ | apply pN_ | apply bD_ | refine bS_ ?_ GE287.out) | exact HB.out))) : w.heap.size ≤ gb288)); have n4_ := aS_ ((by rw [hg]; exact (below_size (by repeat (first | (with_reducible first | exact HB.out | apply bA_ | apply pN_ | apply bD_ | refine bS_ ?_ GE287.out) | exact HB.out))) : w.heap.size ≤ gb288)); have n5_ := aS_ ((by rw [hg]; exact Nat.ne_of_lt (blk_lt (g := gb287) (o := .cells #[.slice A0_0 l0_0.length c0_0, .slice A0_1 l0_1.length c0_1] 34 (0, 0)) (by (with_reducible repeat (first | refine kN_ ?_ _ | refine kD_ ?_ | refine kA_ ?_ _)); exact BK287.out)) : gb287 ≠ gb288)); have n6_ := aS_ ((by rw [hg]; exact Nat.ne_of_gt (blk_lt (g := gb287) (o := .cells #[.slice A0_0 l0_0.length c0_0, .slice A0_1 l0_1.length c0_1] 34 (0, 0)) (by (with_reducible repeat (first | refine kN_ ?_ _ | refine kD_ ?_ | refine kA_ ?_ _)); exact BK287.out)) : gb288 ≠ gb287)); clear BK287; clear HB; have BK287 := n0_; have HB := n1_; have BK288 := n2_; have GW288 := n3_; have GE288 := n4_; have NB287_288 := n5_; have NB288_287 := n6_; clear n0_ n1_ n2_ n3_ n4_ n5_ n6_; clear hb hbox hg; have hnb19 := NB287_288.out; have hnc19 := NB288_287.out; have hcz20_0 : w18.cell? ⟨gb287, 0, none⟩ = some (.slice A0_0 l0_0.length c0_0) := (blk_cell BK287.out 0).trans rfl; have hcz20_1 : w18.cell? ⟨gb287, 1, none⟩ = some (.slice A0_1 l0_1.length c0_1) := (blk_cell BK287.out 1).trans rfl; have hfz20_0 := blk_frozen BK287.out 0; have hfz20_1 := blk_frozen BK287.out 1; have hcz21_0 : w18.cell? ⟨gb288, 0, none⟩ = some (.slice A1_0 l1_0.length c1_0) := (blk_cell BK288.out 0).trans rfl; have hcz21_1 : w18.cell? ⟨gb288, 1, none⟩ = some (.slice A1_1 l1_1.length c1_1) := (blk_cell BK288.out 1).trans rfl; have hfz21_0 := blk_frozen BK288.out 0; have hfz21_1 := blk_frozen BK288.out 1) | ((with_reducible refine gate_callee (f := 27) rfl ?_); refine goesL_ (some 9) rfl rfl Try.func27 (by kernel_rfl) rfl #[.slice A0_0 l0_0.length c0_0, .slice A1_0 l1_0.length c1_0] rfl (by (try simp only [List.map_toArray, List.map_cons, List.map_nil]); first | done | rfl | (simp only [List.length_drop, List.length_take]; rfl)) ?_; (with_reducible refine (laws_eqIntS.calls k _ _ l0_0 _ _ l1_0 false _ ?side1 ?side2 ?side3 ?side4 A3.out).mono ?_); (case side1 => repeat (first | exact (Kd.C_below HR0_0.out HB.out) | (with_reducible refine Kd.C_alloc ?_ _) | (with_reducible refine Kd.C_drewN ?_ _) | (with_reducible refine Kd.C_drew ?_))); (case side2 => exact HC0_0.out); (case side3 => repeat (first | exact (Kd.C_below HR1_0.out HB.out) | (with_reducible refine Kd.C_alloc ?_ _) | (with_reducible refine Kd.C_drewN ?_ _) | (with_reducible refine Kd.C_drew ?_))); (case side4 => exact HC1_0.out); rintro e w' ⟨rfl, ⟨nd, rfl⟩⟩; refine ⟨_, rfl, ?_⟩))
  go_ret
  exact ⟨by first | rfl | (simp [errW_none, errW_some] <;> rfl) | (simp [*, errW_none, errW_some] <;> rfl), by repeat (first | (with_reducible first | exact HB.out | apply bA_ | apply pN_ | apply bD_ | refine bS_ ?_ GE287.out | refine bS_ ?_ GE288.out) | exact HB.out)⟩
/-! ### laws_eqRegionS: function 6 -/
def laws_eqRegionS.l0 : Nat → List (S34) → List (S34) → Int → Option (Bool)
 | 0, _, _, _ => none
 | k + 1, x0, x1, x5 => if x5 < (x0.length : Int) then (if 0 ≤ x5 then (if x5 < (x1.length : Int) then ((laws_eqRegion.f k ((rd_T34 x0 x5).f0) ((rd_T34 x0 x5).f1) ((rd_T34 x1 x5).f0) ((rd_T34 x1 x5).f1)).bind fun t293 => (if t293 = true then (laws_eqRegionS.l0 k x0 x1 (wrap64 (x5 + 1))) else (some false))) else (none)) else (none)) else (some true)
def laws_eqRegionS.f (k : Nat) (l0 : List (S34)) (l1 : List (S34)) : Option (Bool) := if (l0.length : Int) = (l1.length : Int) then (laws_eqRegionS.l0 k l0 l1 0) else (some false)
theorem laws_eqRegionS.mono_l : ∀ k, (∀ y0 y1 y2, LeO (laws_eqRegionS.l0 k y0 y1 y2) (laws_eqRegionS.l0 (k + 1) y0 y1 y2))
 | 0 => fun _ _ _ r h => by simp [laws_eqRegionS.l0] at h
 | k + 1 => by
  have ih0 := laws_eqRegionS.mono_l k
  ·intro y0 y1 y2
   unfold laws_eqRegionS.l0
   repeat' first
   | (with_reducible exact ih0 _ _ _)
   | (with_reducible exact laws_eqRegion.mono _ _ _ _ _)
   | (with_reducible exact LeO.refl _)
   | (with_reducible exact LeO.none _)
   | (with_reducible refine LeO.ite ?_ ?_)
   | (with_reducible refine LeO.bind ?_ (fun _ => ?_))
   | exact ih0 _ _ _
   | exact laws_eqRegion.mono _ _ _ _ _
   | exact LeO.none _
   | refine LeO.ite ?_ ?_
   | refine LeO.bind ?_ (fun _ => ?_)
theorem laws_eqRegionS.mono : ∀ a0 a1 k, LeO (laws_eqRegionS.f k a0 a1) (laws_eqRegionS.f (k + 1) a0 a1) := by
 intro a0 a1 k
 have ih0 := laws_eqRegionS.mono_l k
 unfold laws_eqRegionS.f
 repeat' first
   | (with_reducible exact ih0 _ _ _)
   | (with_reducible exact laws_eqRegion.mono _ _ _ _ _)
   | (with_reducible exact LeO.refl _)
   | (with_reducible exact LeO.none _)
   | (with_reducible refine LeO.ite ?_ ?_)
   | (with_reducible refine LeO.bind ?_ (fun _ => ?_))
   | exact ih0 _ _ _
   | exact laws_eqRegion.mono _ _ _ _ _
   | exact LeO.none _
   | refine LeO.ite ?_ ?_
   | refine LeO.bind ?_ (fun _ => ?_)
def laws_eqRegionS.T6 : Bool × List (List Nat × List Nat) := (true, [([], []), ([], []), ([0, 1], [0, 1]), ([2], [2]), ([], []), ([], []), ([4, 5], [4, 5]), ([6], [6]), ([3, 7], [3, 7]), ([8], [8])])
def laws_eqRegionS.B6 : List Nat := [0, 0, 3, 7, 0, 0, 48, 112, 255, 511]
theorem laws_eqRegionS.tab6 : rtab .any (opsOf Try.f6 6) = laws_eqRegionS.T6 := by kernel_rfl
theorem laws_eqRegionS.bits6 : waitsOk laws_eqRegionS.T6.2 laws_eqRegionS.B6 = true := by kernel_rfl
set_option maxHeartbeats 8000000 in
set_option maxRecDepth 100000 in
theorem laws_eqRegionS.calls (k : Nat) (A0 : Option Addr) (c0 : Nat) (l0 : List (S34)) (A1 : Option Addr) (c1 : Nat) (l1 : List (S34)) (r : Bool) (w : World) (hr0 : Kd.C k34 w A0 l0.length l0) (hc0 : l0.length ≤ c0) (hr1 : Kd.C k34 w A1 l1.length l1) (hc1 : l1.length ≤ c1) (h : laws_eqRegionS.f k l0 l1 = some r) :
  Calls Try.prog 6 #[.slice A0 l0.length c0, .slice A1 l1.length c1] w fun e w' => e = .returned (.bool r) ∧ Below w.heap.size w w' := by
 have hu34 := Try.underlying34
 have HR0 := aS_ hr0
 have HC0 := aS_ hc0
 clear hr0 hc0
 have HR1 := aS_ hr1
 have HC1 := aS_ hc1
 clear hr1 hc1
 have HB := aS_ (Below.refl w.heap.size w)
 have H : (if (l0.length : Int) = (l1.length : Int) then (laws_eqRegionS.l0 k l0 l1 0) else (some false)) = some r := h
 clear h
 by_cases c3 : (l0.length : Int) = (l1.length : Int)
 ·rw [if_pos c3] at H
  have c3b0 : ((l0.length : Int) == (l1.length : Int)) = true := beq_iff_eq.mpr c3
  have c3b1 : ((l0.length : Int) != (l1.length : Int)) = false := bne_eq_false_iff_eq.mpr c3
  have c3b2 : (l0.length == l1.length) = true := by first | simpa using c3 | (simp at c3 ⊢; omega)
  clear c3
  have H' := aS_ H
  clear H
  go_enter Try.func6, Try.ntmps6
  go_wp2
  go_loopg [5] k (fun kq v5 w' => ∃ (x5_1 : Int), v5 = .int .i64 x5_1 ∧ Aside0 (laws_eqRegionS.l0 kq l0 l1 x5_1 = some r) ∧ Aside0 (kq ≤ k) ∧ Aside0 (Below w.heap.size w w'))
  case atStart => exact ⟨(0), (by first | rfl | (simp; done) | (simp [*]; done)), H', ⟨Nat.le_refl _⟩, ⟨by repeat (first | (with_reducible first | exact HB.out | apply bA_ | apply pN_ | apply bD_) | exact HB.out)⟩⟩
  case round =>
   clear H'
   try clear c1
   try clear p2
   try clear c3
   try clear c3b0
   try clear c3b1
   try clear c3b2
   obtain ⟨x5_1, rfl, HA, HK1, HB⟩ := hrel
   cases gk with
   | zero => exact absurd HA.out (by simp [laws_eqRegionS.l0])
   | succ k1 =>
    have H := HA.out
    clear HA
    simp only [laws_eqRegionS.l0] at H
    by_cases c4 : x5_1 < (l0.length : Int)
    ·rw [if_pos c4] at H
     have c4b0 : decide (x5_1 < (l0.length : Int)) = true := decide_eq_true c4
     clear c4
     by_cases c5 : 0 ≤ x5_1
     ·rw [if_pos c5] at H
      have c5b0 : decide (0 ≤ x5_1) = true := decide_eq_true c5
      clear c5
      by_cases c6 : x5_1 < (l1.length : Int)
      ·rw [if_pos c6] at H
       have c6b0 : decide (x5_1 < (l1.length : Int)) = true := decide_eq_true c6
       clear c6
       replace H := Option.bind_eq_some_iff.mp H
       obtain ⟨t293, A70, H⟩ := H
       have A7 := aS_ A70
       clear A70
       by_cases c8 : t293 = true
       ·subst c8
        rw [if_pos rfl] at H
        have H' := aS_ H
        clear H
        try go_wp2
        have n0_ := aS_ (bD_ HB.out)
        clear HB
        have HB := n0_
        clear n0_
        have p291 : 0 ≤ (x5_1 : Int) := of_decide_eq_true (by assumption)
        have q291 : x5_1 < (l0.length : Int) := of_decide_eq_true (by assumption)
        obtain ⟨ad291, A291_0, c291_0, A291_1, c291_1, e291, hx291_0, hx291_1, hl291_0, hi291_0, hl291_1, hi291_1⟩ := at_T34 HR0.out x5_1 p291 q291
        have hw291_1 := hx291_1
        have hw291_0 := hx291_0
        cases e291
        replace hx291_0 := (HB.out.cell (World.block_lt_of_cell? w _ hx291_0)).trans hx291_0
        replace hx291_1 := (HB.out.cell (World.block_lt_of_cell? w _ hx291_1)).trans hx291_1
        have HR291_0 := aS_ hi291_0
        have HC291_0 := aS_ hl291_0
        clear hi291_0 hl291_0
        have HR291_1 := aS_ hi291_1
        have HC291_1 := aS_ hl291_1
        clear hi291_1 hl291_1
        replace p291 := eq_true p291
        replace q291 := eq_true q291
        have p292 : 0 ≤ (x5_1 : Int) := of_decide_eq_true (by assumption)
        have q292 : x5_1 < (l1.length : Int) := of_decide_eq_true (by assumption)
        obtain ⟨ad292, A292_0, c292_0, A292_1, c292_1, e292, hx292_0, hx292_1, hl292_0, hi292_0, hl292_1, hi292_1⟩ := at_T34 HR1.out x5_1 p292 q292
        have hw292_1 := hx292_1
        have hw292_0 := hx292_0
        cases e292
        replace hx292_0 := (HB.out.cell (World.block_lt_of_cell? w _ hx292_0)).trans hx292_0
        replace hx292_1 := (HB.out.cell (World.block_lt_of_cell? w _ hx292_1)).trans hx292_1
        have HR292_0 := aS_ hi292_0
        have HC292_0 := aS_ hl292_0
        clear hi292_0 hl292_0
        have HR292_1 := aS_ hi292_1
        have HC292_1 := aS_ hl292_1
        clear hi292_1 hl292_1
        replace p292 := eq_true p292
        replace q292 := eq_true q292
        refine start_ (n := 10) (S := fun w' => w'.cell? (ad291.add ((x5_1).toNat * 2)) = some (.slice A291_0 ((rd_T34 l0 x5_1).f0).length c291_0) ∧ w'.cell? ⟨(ad291.add ((x5_1).toNat * 2)).block, (ad291.add ((x5_1).toNat * 2)).off + 1, none⟩ = some (.slice A291_1 ((rd_T34 l0 x5_1).f1).length c291_1) ∧ w'.cell? (ad292.add ((x5_1).toNat * 2)) = some (.slice A292_0 ((rd_T34 l1 x5_1).f0).length c292_0) ∧ w'.cell? ⟨(ad292.add ((x5_1).toNat * 2)).block, (ad292.add ((x5_1).toNat * 2)).off + 1, none⟩ = some (.slice A292_1 ((rd_T34 l1 x5_1).f1).length c292_1)) (ds := []) #[false, false, false, false, false, false, false, false, false, false] (by kernel_rfl) rfl rfl ⟨((HB.out.cell (World.block_lt_of_cell? w _ hw291_0)).trans hw291_0), ((HB.out.cell (World.block_lt_of_cell? w _ hw291_1)).trans hw291_1), ((HB.out.cell (World.block_lt_of_cell? w _ hw292_0)).trans hw292_0), ((HB.out.cell (World.block_lt_of_cell? w _ hw292_1)).trans hw292_1)⟩ (fun hHeld => ?_); refine with_tabW laws_eqRegionS.tab6 laws_eqRegionS.bits6 (fun HT_ HW_ => ?_)
        generalize wr.drew = w9 at HB HR291_0 HR291_1 HR292_0 HR292_1 hx291_0 hx291_1 hx292_0 hx292_1 hHeld ⊢
        refine pure_ (i := 0) (N := some 17) (v := ?_) (a' := ?_) #[true, false, false, false, false, false, false, false, false, false] rfl rfl (any_of HT_.out (by kernel_rfl)) (fun _ _ _ h => h) (Or.inl ⟨by rfl, ?_⟩) ?_ ?_
        rotate_left
        ·intro w'
         go_simp
         with_reducible rfl
        rotate_left
        ·simp only [Act.put, List.setIfInBounds_toArray, List.set_cons_zero, List.set_cons_succ, i64_w, i32_w]
         rfl
        refine pure_ (i := 1) (N := some 18) (v := ?_) (a' := ?_) #[true, true, false, false, false, false, false, false, false, false] rfl rfl (any_of HT_.out (by kernel_rfl)) (fun _ _ _ h => h) (Or.inl ⟨by rfl, ?_⟩) ?_ ?_
        rotate_left
        ·intro w'
         go_simp
         with_reducible rfl
        rotate_left
        ·simp only [Act.put, List.setIfInBounds_toArray, List.set_cons_zero, List.set_cons_succ, i64_w, i32_w]
         rfl
        refine pure_ (i := 2) (N := some 19) (v := ?_) (a' := ?_) #[true, true, true, false, false, false, false, false, false, false] rfl rfl (any_of HT_.out (by kernel_rfl)) (fun _ _ _ h => h) (Or.inl ⟨by rfl, ?_⟩) ?_ ?_
        rotate_left
        ·intro w'
         go_simp
         with_reducible rfl
        rotate_left
        ·simp only [Act.put, List.setIfInBounds_toArray, List.set_cons_zero, List.set_cons_succ, i64_w, i32_w]
         rfl
        refine pure_ (i := 4) (N := some 21) (v := ?_) (a' := ?_) #[true, true, true, false, true, false, false, false, false, false] rfl rfl (any_of HT_.out (by kernel_rfl)) (fun _ _ _ h => h) (Or.inl ⟨by rfl, ?_⟩) ?_ ?_
        rotate_left
        ·intro w'
         go_simp
         with_reducible rfl
        rotate_left
        ·simp only [Act.put, List.setIfInBounds_toArray, List.set_cons_zero, List.set_cons_succ, i64_w, i32_w]
         rfl
        refine pure_ (i := 5) (N := some 22) (v := ?_) (a' := ?_) #[true, true, true, false, true, true, false, false, false, false] rfl rfl (any_of HT_.out (by kernel_rfl)) (fun _ _ _ h => h) (Or.inl ⟨by rfl, ?_⟩) ?_ ?_
        rotate_left
        ·intro w'
         go_simp
         with_reducible rfl
        rotate_left
        ·simp only [Act.put, List.setIfInBounds_toArray, List.set_cons_zero, List.set_cons_succ, i64_w, i32_w]
         rfl
        refine pure_ (i := 6) (N := some 23) (v := ?_) (a' := ?_) #[true, true, true, false, true, true, true, false, false, false] rfl rfl (any_of HT_.out (by kernel_rfl)) (fun _ _ _ h => h) (Or.inl ⟨by rfl, ?_⟩) ?_ ?_
        rotate_left
        ·intro w'
         go_simp
         with_reducible rfl
        rotate_left
        ·simp only [Act.put, List.setIfInBounds_toArray, List.set_cons_zero, List.set_cons_succ, i64_w, i32_w]
         rfl
        refine take_ (i := 3) (N := some 20) (v := ?_) (a' := ?_) #[true, true, true, true, true, true, true, false, false, false] rfl rfl (take_ofW HT_.out HW_.out (by kernel_rfl)) (fun _ _ _ h => h) (Or.inl ⟨by rfl, ?_⟩) hHeld ?_ ?_
        rotate_left
        ·rintro w' ⟨s0, s1, s2, s3⟩
         go_simp
         with_reducible rfl
        rotate_left
        ·simp only [Act.put, List.setIfInBounds_toArray, List.set_cons_zero, List.set_cons_succ, i64_w, i32_w]
         rfl
        refine take_ (i := 7) (N := some 24) (v := ?_) (a' := ?_) #[true, true, true, true, true, true, true, true, false, false] rfl rfl (take_ofW HT_.out HW_.out (by kernel_rfl)) (fun _ _ _ h => h) (Or.inl ⟨by rfl, ?_⟩) hHeld ?_ ?_
        rotate_left
        ·rintro w' ⟨s0, s1, s2, s3⟩
         go_simp
         with_reducible rfl
        rotate_left
        ·simp only [Act.put, List.setIfInBounds_toArray, List.set_cons_zero, List.set_cons_succ, i64_w, i32_w]
         rfl
        refine one_ (i := 8) (N := some 25) #[true, true, true, true, true, true, true, true, true, false] rfl rfl (one_of HT_.out (by kernel_rfl)) (by decide) (fun K hK => ?_)
        refine goes_ Try.func15 (by kernel_rfl) rfl #[.agg #[.slice A291_0 ((rd_T34 l0 x5_1).f0).length c291_0, .slice A291_1 ((rd_T34 l0 x5_1).f1).length c291_1], .agg #[.slice A292_0 ((rd_T34 l1 x5_1).f0).length c292_0, .slice A292_1 ((rd_T34 l1 x5_1).f1).length c292_1]] (by rfl) rfl rfl (by (try simp only [List.map_toArray, List.map_cons, List.map_nil]); first | done | rfl | (simp only [List.length_drop, List.length_take]; rfl)) ?_
        with_reducible refine (laws_eqRegion.calls k1 _ _ ((rd_T34 l0 x5_1).f0) _ _ ((rd_T34 l0 x5_1).f1) _ _ ((rd_T34 l1 x5_1).f0) _ _ ((rd_T34 l1 x5_1).f1) true _ ?side1 ?side2 ?side3 ?side4 ?side5 ?side6 ?side7 ?side8 A7.out).mono ?_
        (case side1 => repeat (first | exact (Kd.C_below HR291_0.out HB.out) | (with_reducible refine Kd.C_alloc ?_ _) | (with_reducible refine Kd.C_drewN ?_ _) | (with_reducible refine Kd.C_drew ?_)))
        (case side2 => exact HC291_0.out)
        (case side3 => repeat (first | exact (Kd.C_below HR291_1.out HB.out) | (with_reducible refine Kd.C_alloc ?_ _) | (with_reducible refine Kd.C_drewN ?_ _) | (with_reducible refine Kd.C_drew ?_)))
        (case side4 => exact HC291_1.out)
        (case side5 => repeat (first | exact (Kd.C_below HR292_0.out HB.out) | (with_reducible refine Kd.C_alloc ?_ _) | (with_reducible refine Kd.C_drewN ?_ _) | (with_reducible refine Kd.C_drew ?_)))
        (case side6 => exact HC292_0.out)
        (case side7 => repeat (first | exact (Kd.C_below HR292_1.out HB.out) | (with_reducible refine Kd.C_alloc ?_ _) | (with_reducible refine Kd.C_drewN ?_ _) | (with_reducible refine Kd.C_drew ?_)))
        (case side8 => exact HC292_1.out)
        rintro e w10 ⟨rfl, hb⟩
        refine ⟨_, rfl, ?_⟩
        have n0_ := aS_ (below_step (by repeat (first | (with_reducible first | exact HB.out | apply bA_ | apply pN_ | apply bD_) | exact HB.out)) hb)
        clear HB
        have HB := n0_
        clear n0_
        (try clear hb)
        (try clear hb2)
        (try clear hk)
        (try clear hi)
        refine hK.out _ _ ⟨((HB.out.cell (World.block_lt_of_cell? w _ hw291_0)).trans hw291_0), ((HB.out.cell (World.block_lt_of_cell? w _ hw291_1)).trans hw291_1), ((HB.out.cell (World.block_lt_of_cell? w _ hw292_0)).trans hw292_0), ((HB.out.cell (World.block_lt_of_cell? w _ hw292_1)).trans hw292_1)⟩ (fun hHeld => ?_)
        clear hK K
        refine norm_ (a' := ?_) ?_ ?_
        rotate_left
        ·show Act.put _ (some 25) _ = _
         simp only [Act.put, List.setIfInBounds_toArray, List.set_cons_zero, List.set_cons_succ, i64_w, i32_w]
         rfl
        refine pure_ (i := 9) (N := some 26) (v := ?_) (a' := ?_) #[true, true, true, true, true, true, true, true, true, true] rfl rfl (any_of HT_.out (by kernel_rfl)) (fun _ _ _ h => h) (Or.inl ⟨by rfl, ?_⟩) ?_ ?_
        rotate_left
        ·intro w'
         go_simp
         with_reducible rfl
        rotate_left
        ·simp only [Act.put, List.setIfInBounds_toArray, List.set_cons_zero, List.set_cons_succ, i64_w, i32_w]
         rfl
        refine done_ (done_of HT_.out (by kernel_rfl)) ?_
        try go_wp2
        go_roundg k1
        case measure => have := HK1.out; omega
        case rel => exact ⟨(wrap64 (x5_1 + 1)), (by first | rfl | (simp; done) | (simp [*]; done)), H', ⟨by have := HK1.out; omega⟩, ⟨by repeat (first | (with_reducible first | exact HB.out | apply bA_ | apply pN_ | apply bD_) | exact HB.out)⟩⟩
       ·replace c8 := Bool.eq_false_iff.mpr c8
        subst c8
        rw [if_neg (show ¬ (false = true) by decide)] at H
        obtain rfl := Option.some.inj H
        try go_wp2
        have n0_ := aS_ (bD_ HB.out)
        clear HB
        have HB := n0_
        clear n0_
        have p291 : 0 ≤ (x5_1 : Int) := of_decide_eq_true (by assumption)
        have q291 : x5_1 < (l0.length : Int) := of_decide_eq_true (by assumption)
        obtain ⟨ad291, A291_0, c291_0, A291_1, c291_1, e291, hx291_0, hx291_1, hl291_0, hi291_0, hl291_1, hi291_1⟩ := at_T34 HR0.out x5_1 p291 q291
        have hw291_1 := hx291_1
        have hw291_0 := hx291_0
        cases e291
        replace hx291_0 := (HB.out.cell (World.block_lt_of_cell? w _ hx291_0)).trans hx291_0
        replace hx291_1 := (HB.out.cell (World.block_lt_of_cell? w _ hx291_1)).trans hx291_1
        have HR291_0 := aS_ hi291_0
        have HC291_0 := aS_ hl291_0
        clear hi291_0 hl291_0
        have HR291_1 := aS_ hi291_1
        have HC291_1 := aS_ hl291_1
        clear hi291_1 hl291_1
        replace p291 := eq_true p291
        replace q291 := eq_true q291
        have p292 : 0 ≤ (x5_1 : Int) := of_decide_eq_true (by assumption)
        have q292 : x5_1 < (l1.length : Int) := of_decide_eq_true (by assumption)
        obtain ⟨ad292, A292_0, c292_0, A292_1, c292_1, e292, hx292_0, hx292_1, hl292_0, hi292_0, hl292_1, hi292_1⟩ := at_T34 HR1.out x5_1 p292 q292
        have hw292_1 := hx292_1
        have hw292_0 := hx292_0
        cases e292
        replace hx292_0 := (HB.out.cell (World.block_lt_of_cell? w _ hx292_0)).trans hx292_0
        replace hx292_1 := (HB.out.cell (World.block_lt_of_cell? w _ hx292_1)).trans hx292_1
        have HR292_0 := aS_ hi292_0
        have HC292_0 := aS_ hl292_0
        clear hi292_0 hl292_0
        have HR292_1 := aS_ hi292_1
        have HC292_1 := aS_ hl292_1
        clear hi292_1 hl292_1
        replace p292 := eq_true p292
        replace q292 := eq_true q292
        refine start_ (n := 10) (S := fun w' => w'.cell? (ad291.add ((x5_1).toNat * 2)) = some (.slice A291_0 ((rd_T34 l0 x5_1).f0).length c291_0) ∧ w'.cell? ⟨(ad291.add ((x5_1).toNat * 2)).block, (ad291.add ((x5_1).toNat * 2)).off + 1, none⟩ = some (.slice A291_1 ((rd_T34 l0 x5_1).f1).length c291_1) ∧ w'.cell? (ad292.add ((x5_1).toNat * 2)) = some (.slice A292_0 ((rd_T34 l1 x5_1).f0).length c292_0) ∧ w'.cell? ⟨(ad292.add ((x5_1).toNat * 2)).block, (ad292.add ((x5_1).toNat * 2)).off + 1, none⟩ = some (.slice A292_1 ((rd_T34 l1 x5_1).f1).length c292_1)) (ds := []) #[false, false, false, false, false, false, false, false, false, false] (by kernel_rfl) rfl rfl ⟨((HB.out.cell (World.block_lt_of_cell? w _ hw291_0)).trans hw291_0), ((HB.out.cell (World.block_lt_of_cell? w _ hw291_1)).trans hw291_1), ((HB.out.cell (World.block_lt_of_cell? w _ hw292_0)).trans hw292_0), ((HB.out.cell (World.block_lt_of_cell? w _ hw292_1)).trans hw292_1)⟩ (fun hHeld => ?_); refine with_tabW laws_eqRegionS.tab6 laws_eqRegionS.bits6 (fun HT_ HW_ => ?_)
        generalize wr.drew = w11 at HB HR291_0 HR291_1 HR292_0 HR292_1 hx291_0 hx291_1 hx292_0 hx292_1 hHeld ⊢
        refine pure_ (i := 0) (N := some 17) (v := ?_) (a' := ?_) #[true, false, false, false, false, false, false, false, false, false] rfl rfl (any_of HT_.out (by kernel_rfl)) (fun _ _ _ h => h) (Or.inl ⟨by rfl, ?_⟩) ?_ ?_
        rotate_left
        ·intro w'
         go_simp
         with_reducible rfl
        rotate_left
        ·simp only [Act.put, List.setIfInBounds_toArray, List.set_cons_zero, List.set_cons_succ, i64_w, i32_w]
         rfl
        refine pure_ (i := 1) (N := some 18) (v := ?_) (a' := ?_) #[true, true, false, false, false, false, false, false, false, false] rfl rfl (any_of HT_.out (by kernel_rfl)) (fun _ _ _ h => h) (Or.inl ⟨by rfl, ?_⟩) ?_ ?_
        rotate_left
        ·intro w'
         go_simp
         with_reducible rfl
        rotate_left
        ·simp only [Act.put, List.setIfInBounds_toArray, List.set_cons_zero, List.set_cons_succ, i64_w, i32_w]
         rfl
        refine pure_ (i := 2) (N := some 19) (v := ?_) (a' := ?_) #[true, true, true, false, false, false, false, false, false, false] rfl rfl (any_of HT_.out (by kernel_rfl)) (fun _ _ _ h => h) (Or.inl ⟨by rfl, ?_⟩) ?_ ?_
        rotate_left
        ·intro w'
         go_simp
         with_reducible rfl
        rotate_left
        ·simp only [Act.put, List.setIfInBounds_toArray, List.set_cons_zero, List.set_cons_succ, i64_w, i32_w]
         rfl
        refine pure_ (i := 4) (N := some 21) (v := ?_) (a' := ?_) #[true, true, true, false, true, false, false, false, false, false] rfl rfl (any_of HT_.out (by kernel_rfl)) (fun _ _ _ h => h) (Or.inl ⟨by rfl, ?_⟩) ?_ ?_
        rotate_left
        ·intro w'
         go_simp
         with_reducible rfl
        rotate_left
        ·simp only [Act.put, List.setIfInBounds_toArray, List.set_cons_zero, List.set_cons_succ, i64_w, i32_w]
         rfl
        refine pure_ (i := 5) (N := some 22) (v := ?_) (a' := ?_) #[true, true, true, false, true, true, false, false, false, false] rfl rfl (any_of HT_.out (by kernel_rfl)) (fun _ _ _ h => h) (Or.inl ⟨by rfl, ?_⟩) ?_ ?_
        rotate_left
        ·intro w'
         go_simp
         with_reducible rfl
        rotate_left
        ·simp only [Act.put, List.setIfInBounds_toArray, List.set_cons_zero, List.set_cons_succ, i64_w, i32_w]
         rfl
        refine pure_ (i := 6) (N := some 23) (v := ?_) (a' := ?_) #[true, true, true, false, true, true, true, false, false, false] rfl rfl (any_of HT_.out (by kernel_rfl)) (fun _ _ _ h => h) (Or.inl ⟨by rfl, ?_⟩) ?_ ?_
        rotate_left
        ·intro w'
         go_simp
         with_reducible rfl
        rotate_left
        ·simp only [Act.put, List.setIfInBounds_toArray, List.set_cons_zero, List.set_cons_succ, i64_w, i32_w]
         rfl
        refine take_ (i := 3) (N := some 20) (v := ?_) (a' := ?_) #[true, true, true, true, true, true, true, false, false, false] rfl rfl (take_ofW HT_.out HW_.out (by kernel_rfl)) (fun _ _ _ h => h) (Or.inl ⟨by rfl, ?_⟩) hHeld ?_ ?_
        rotate_left
        ·rintro w' ⟨s0, s1, s2, s3⟩
         go_simp
         with_reducible rfl
        rotate_left
        ·simp only [Act.put, List.setIfInBounds_toArray, List.set_cons_zero, List.set_cons_succ, i64_w, i32_w]
         rfl
        refine take_ (i := 7) (N := some 24) (v := ?_) (a' := ?_) #[true, true, true, true, true, true, true, true, false, false] rfl rfl (take_ofW HT_.out HW_.out (by kernel_rfl)) (fun _ _ _ h => h) (Or.inl ⟨by rfl, ?_⟩) hHeld ?_ ?_
        rotate_left
        ·rintro w' ⟨s0, s1, s2, s3⟩
         go_simp
         with_reducible rfl
        rotate_left
        ·simp only [Act.put, List.setIfInBounds_toArray, List.set_cons_zero, List.set_cons_succ, i64_w, i32_w]
         rfl
        refine one_ (i := 8) (N := some 25) #[true, true, true, true, true, true, true, true, true, false] rfl rfl (one_of HT_.out (by kernel_rfl)) (by decide) (fun K hK => ?_)
        refine goes_ Try.func15 (by kernel_rfl) rfl #[.agg #[.slice A291_0 ((rd_T34 l0 x5_1).f0).length c291_0, .slice A291_1 ((rd_T34 l0 x5_1).f1).length c291_1], .agg #[.slice A292_0 ((rd_T34 l1 x5_1).f0).length c292_0, .slice A292_1 ((rd_T34 l1 x5_1).f1).length c292_1]] (by rfl) rfl rfl (by (try simp only [List.map_toArray, List.map_cons, List.map_nil]); first | done | rfl | (simp only [List.length_drop, List.length_take]; rfl)) ?_
        with_reducible refine (laws_eqRegion.calls k1 _ _ ((rd_T34 l0 x5_1).f0) _ _ ((rd_T34 l0 x5_1).f1) _ _ ((rd_T34 l1 x5_1).f0) _ _ ((rd_T34 l1 x5_1).f1) false _ ?side1 ?side2 ?side3 ?side4 ?side5 ?side6 ?side7 ?side8 A7.out).mono ?_
        (case side1 => repeat (first | exact (Kd.C_below HR291_0.out HB.out) | (with_reducible refine Kd.C_alloc ?_ _) | (with_reducible refine Kd.C_drewN ?_ _) | (with_reducible refine Kd.C_drew ?_)))
        (case side2 => exact HC291_0.out)
        (case side3 => repeat (first | exact (Kd.C_below HR291_1.out HB.out) | (with_reducible refine Kd.C_alloc ?_ _) | (with_reducible refine Kd.C_drewN ?_ _) | (with_reducible refine Kd.C_drew ?_)))
        (case side4 => exact HC291_1.out)
        (case side5 => repeat (first | exact (Kd.C_below HR292_0.out HB.out) | (with_reducible refine Kd.C_alloc ?_ _) | (with_reducible refine Kd.C_drewN ?_ _) | (with_reducible refine Kd.C_drew ?_)))
        (case side6 => exact HC292_0.out)
        (case side7 => repeat (first | exact (Kd.C_below HR292_1.out HB.out) | (with_reducible refine Kd.C_alloc ?_ _) | (with_reducible refine Kd.C_drewN ?_ _) | (with_reducible refine Kd.C_drew ?_)))
        (case side8 => exact HC292_1.out)
        rintro e w12 ⟨rfl, hb⟩
        refine ⟨_, rfl, ?_⟩
        have n0_ := aS_ (below_step (by repeat (first | (with_reducible first | exact HB.out | apply bA_ | apply pN_ | apply bD_) | exact HB.out)) hb)
        clear HB
        have HB := n0_
        clear n0_
        (try clear hb)
        (try clear hb2)
        (try clear hk)
        (try clear hi)
        refine hK.out _ _ ⟨((HB.out.cell (World.block_lt_of_cell? w _ hw291_0)).trans hw291_0), ((HB.out.cell (World.block_lt_of_cell? w _ hw291_1)).trans hw291_1), ((HB.out.cell (World.block_lt_of_cell? w _ hw292_0)).trans hw292_0), ((HB.out.cell (World.block_lt_of_cell? w _ hw292_1)).trans hw292_1)⟩ (fun hHeld => ?_)
        clear hK K
        refine norm_ (a' := ?_) ?_ ?_
        rotate_left
        ·show Act.put _ (some 25) _ = _
         simp only [Act.put, List.setIfInBounds_toArray, List.set_cons_zero, List.set_cons_succ, i64_w, i32_w]
         rfl
        refine pure_ (i := 9) (N := some 26) (v := ?_) (a' := ?_) #[true, true, true, true, true, true, true, true, true, true] rfl rfl (any_of HT_.out (by kernel_rfl)) (fun _ _ _ h => h) (Or.inl ⟨by rfl, ?_⟩) ?_ ?_
        rotate_left
        ·intro w'
         go_simp
         with_reducible rfl
        rotate_left
        ·simp only [Act.put, List.setIfInBounds_toArray, List.set_cons_zero, List.set_cons_succ, i64_w, i32_w]
         rfl
        refine done_ (done_of HT_.out (by kernel_rfl)) ?_
        try go_wp2
        go_ret
        exact ⟨by first | rfl | (simp [errW_none, errW_some] <;> rfl) | (simp [*, errW_none, errW_some] <;> rfl), by repeat (first | (with_reducible first | exact HB.out | apply bA_ | apply pN_ | apply bD_) | exact HB.out)⟩
      ·rw [if_neg c6] at H
       exact absurd H (by simp)
     ·rw [if_neg c5] at H
      exact absurd H (by simp)
    ·rw [if_neg c4] at H
     have c4b0 : decide (x5_1 < (l0.length : Int)) = false := decide_eq_false c4
     clear c4
     obtain rfl := Option.some.inj H
     go_wp2
     go_ret
     exact ⟨by first | rfl | (simp [errW_none, errW_some] <;> rfl) | (simp [*, errW_none, errW_some] <;> rfl), by repeat (first | (with_reducible first | exact HB.out | apply bA_ | apply pN_ | apply bD_) | exact HB.out)⟩
 ·rw [if_neg c3] at H
  have c3b0 : ((l0.length : Int) == (l1.length : Int)) = false := beq_eq_false_iff_ne.mpr c3
  have c3b1 : ((l0.length : Int) != (l1.length : Int)) = true := bne_iff_ne.mpr c3
  have c3b2 : (l0.length == l1.length) = false := by first | simpa using c3 | (simp at c3 ⊢; omega)
  obtain rfl := Option.some.inj H
  go_enter Try.func6, Try.ntmps6
  go_wp2
  go_ret
  exact ⟨by first | rfl | (simp [errW_none, errW_some] <;> rfl) | (simp [*, errW_none, errW_some] <;> rfl), by repeat (first | (with_reducible first | exact HB.out | apply bA_ | apply pN_ | apply bD_) | exact HB.out)⟩
/-! ### laws_markIntS: function 16 -/
def laws_markIntS.l0 : Nat → List Int → Int → Int → Option (Int × List Int)
 | 0, _, _, _ => none
 | k + 1, x0, x1, x5 => if x5 < (x0.length : Int) then (if 0 ≤ x5 then (laws_markIntS.l0 k (x0.set (x5 : Int).toNat x1) (wrap64 (x1 + 1)) (wrap64 (x5 + 1))) else (none)) else (some (x1, x0))
def laws_markIntS.f (k : Nat) (l0 : List Int) (a1 : Int) : Option (Int × List Int) := laws_markIntS.l0 k l0 a1 0
theorem laws_markIntS.mono_l : ∀ k, (∀ y0 y1 y2, LeO (laws_markIntS.l0 k y0 y1 y2) (laws_markIntS.l0 (k + 1) y0 y1 y2))
 | 0 => fun _ _ _ r h => by simp [laws_markIntS.l0] at h
 | k + 1 => by
  have ih0 := laws_markIntS.mono_l k
  ·intro y0 y1 y2
   unfold laws_markIntS.l0
   repeat' first
   | (with_reducible exact ih0 _ _ _)
   | (with_reducible exact LeO.refl _)
   | (with_reducible exact LeO.none _)
   | (with_reducible refine LeO.ite ?_ ?_)
   | (with_reducible refine LeO.bind ?_ (fun _ => ?_))
   | exact ih0 _ _ _
   | exact LeO.none _
   | refine LeO.ite ?_ ?_
   | refine LeO.bind ?_ (fun _ => ?_)
theorem laws_markIntS.mono : ∀ a0 a1 k, LeO (laws_markIntS.f k a0 a1) (laws_markIntS.f (k + 1) a0 a1) := by
 intro a0 a1 k
 have ih0 := laws_markIntS.mono_l k
 unfold laws_markIntS.f
 repeat' first
   | (with_reducible exact ih0 _ _ _)
   | (with_reducible exact LeO.refl _)
   | (with_reducible exact LeO.none _)
   | (with_reducible refine LeO.ite ?_ ?_)
   | (with_reducible refine LeO.bind ?_ (fun _ => ?_))
   | exact ih0 _ _ _
   | exact LeO.none _
   | refine LeO.ite ?_ ?_
   | refine LeO.bind ?_ (fun _ => ?_)
set_option maxHeartbeats 8000000 in
set_option maxRecDepth 100000 in
theorem laws_markIntS.calls (k : Nat) (P0_ : Nat → Prop) (u9000_ : Value) (l0 : List Int) (a1 : Int) (r1 : Int) (r2 : List Int) (w0 w : World) (hB : Below w0.heap.size w0 w) (ho0 : Kd.R (Kd.int .i64) 3 w w0.heap.size P0_ u9000_ l0) (h : laws_markIntS.f k l0 a1 = some (r1, r2)) :
  Calls Try.prog 16 #[u9000_, .int .i64 a1] w fun e w' => e = .returned (.int .i64 r1) ∧ Kd.R (Kd.int .i64) 3 w' w0.heap.size (fun k_ => (P0_ k_ ∨ w.heap.size ≤ k_)) u9000_ r2 ∧ Below w0.heap.size w0 w' ∧ Kept w w' (fun k_ => P0_ k_) := by
 have HO0 := aS_ (show Kd.R (Kd.int .i64) 3 w w0.heap.size (fun k_ => (P0_ k_ ∨ w.heap.size ≤ k_)) u9000_ l0 from Kd.R_mono ho0 (fun k_ hk => (.inl hk)))
 have HK := aS_ (Kept.refl w (fun k_ => P0_ k_))
 have HW0 := aS_ hB.size
 have HB := aS_ hB
 clear hB
 have H : (laws_markIntS.l0 k l0 a1 0) = some (r1, r2) := h
 clear h
 have H' := aS_ H
 clear H
 go_enter Try.func16, Try.ntmps16
 go_wp2
 go_loopg [1, 5] k (fun kq v1 v5 w' => ∃ (x0_1 : List Int) (x1_1 : Int) (x5_1 : Int), v1 = .int .i64 x1_1 ∧ v5 = .int .i64 x5_1 ∧ Aside0 (laws_markIntS.l0 kq x0_1 x1_1 x5_1 = some (r1, r2)) ∧ Aside0 (kq ≤ k) ∧ Aside0 (Kd.R (Kd.int .i64) 3 w' w0.heap.size (fun k_ => (P0_ k_ ∨ w.heap.size ≤ k_)) u9000_ x0_1) ∧ Aside0 (Kept w w' (fun k_ => P0_ k_)) ∧ Aside0 (Below w0.heap.size w0 w'))
 case atStart => exact ⟨(l0), (a1), (0), (by first | rfl | (simp; done) | (simp [*]; done)), (by first | rfl | (simp; done) | (simp [*]; done)), H', ⟨Nat.le_refl _⟩, ⟨by (with_reducible repeat (first | apply rA_ | apply rN_ | apply rD_)); exact HO0.out⟩, ⟨by repeat (first | (with_reducible first | exact HK.out | apply Kept.alloc | apply Kept.drewN | apply Kept.drew) | exact HK.out)⟩, ⟨by repeat (first | (with_reducible first | exact HB.out | apply bA_ | apply pN_ | apply bD_) | exact HB.out)⟩⟩
 case round =>
  clear H'
  try clear c1
  try clear p2
  obtain ⟨x0_1, x1_1, x5_1, rfl, rfl, HA, HK1, HO_0, HK, HB⟩ := hrel
  cases gk with
  | zero => exact absurd HA.out (by simp [laws_markIntS.l0])
  | succ k1 =>
   have H := HA.out
   clear HA
   simp only [laws_markIntS.l0] at H
   by_cases c3 : x5_1 < (x0_1.length : Int)
   ·rw [if_pos c3] at H
    have c3b0 : decide (x5_1 < (x0_1.length : Int)) = true := decide_eq_true c3
    clear c3
    by_cases c4 : 0 ≤ x5_1
    ·rw [if_pos c4] at H
     have c4b0 : decide (0 ≤ x5_1) = true := decide_eq_true c4
     clear c4
     obtain ⟨y294, hy294⟩ : ∃ y_ : List Int, y_ = (x0_1.set (x5_1 : Int).toNat x1_1) := ⟨_, rfl⟩
     replace H : (laws_markIntS.l0 k1 y294 (wrap64 (x1_1 + 1)) (wrap64 (x5_1 + 1))) = some (r1, r2) := by first | (rw [hy294]; with_reducible exact H) | (have H2_ := (Option.bind_some _ _).symm.trans H; rw [hy294]; with_reducible exact H2_) | (have H2_ := (Option.bind_some _ _).symm.trans H; with_reducible exact H2_) | with_reducible exact H | (rw [hy294]; exact H) | exact H
     have Ny294 := aS_ hy294
     clear hy294
     have H' := aS_ H
     clear H
     obtain ⟨Ao6, co6, eo6⟩ := Kd.R_slice HO_0.out
     subst eo6
     have p5 : 0 ≤ (x5_1 : Int) := of_decide_eq_true (by assumption)
     have q5 : (x5_1 : Int) < ((x0_1.length : Int) : Int) := of_decide_eq_true (by assumption)
     obtain ⟨go5, co5, eo5, gb5, gl5, cl5, HG5⟩ := Kd.R_form HO_0.out (by omega)
     (first | cases eo5 | (injection eo5 with ea_ en_ ec_; (first | subst ea_ | (injection ea_ with ea_; subst ea_)); subst ec_; clear en_))
     have GB5 := aS_ gb5
     have GG5 := aS_ HG5
     clear gb5 gl5 HG5
     have HMgo5 := aS_ (show (P0_ go5 ∨ w.heap.size ≤ go5) from (HO_0.out.1 _ rfl))
     obtain ⟨hx5_0, hf5_0⟩ := Kd.R_celln 0 HO_0.out (x5_1 : Int) p5 q5
     replace p5 := eq_true p5
     replace q5 := eq_true q5
     have HP7 := Kd.R_putg HO_0.out (x5_1 : Int) x1_1
     go_wp2_with (first | ((with_reducible refine gate_store (t := 3) (p := 15) rfl ?_); refine store_event (t := 3) (p := 15) (v := ?vo_w8) (w1 := (wr.setCell ⟨go5, (x5_1 : Int).toNat, none⟩ (.int .i64 x1_1))) ?hg ?ho ?hn ?hr ?_; (case ho => rfl); (case hg => rfl); (case hn => rfl); (case hr => first | (go_simp; done) | (go_simp; rfl)); intro w8 hw; have hg : wr.grownBy w8 (some go5) := (by rw [hw]; exact HP7.2); have hp_ : Kd.R (Kd.int .i64) 3 w8 w0.heap.size (fun k_ => (P0_ k_ ∨ w.heap.size ≤ k_)) (.slice (some ⟨go5, 0, none⟩) x0_1.length co6) y294 := (by rw [hw, Ny294.out]; exact HP7.1); clear HP7; have n0_ := aS_ (hp_); have n1_ := aS_ ((by rw [hw]; exact bS_ (HB.out) GB5.out : Below w0.heap.size w0 w8)); have n2_ := aS_ (Kept.of_grown (S := (fun k_ => P0_ k_)) hg (by repeat (first | (with_reducible first | exact HK.out | apply Kept.alloc | apply Kept.drewN | apply Kept.drew) | exact HK.out)) (fun k_ e_ => (HO_0.out.1 k_ e_))); clear HO_0; clear HB; clear HK; have HO_0 := n0_; have HB := n1_; have HK := n2_; clear n0_ n1_ n2_; clear hg hw hp_))
     go_roundg k1
     case measure => have := HK1.out; omega
     case rel => exact ⟨(y294), (wrap64 (x1_1 + 1)), (wrap64 (x5_1 + 1)), (by first | rfl | (simp; done) | (simp [*]; done)), (by first | rfl | (simp; done) | (simp [*]; done)), H', ⟨by have := HK1.out; omega⟩, ⟨by (with_reducible repeat (first | apply rA_ | apply rN_ | apply rD_)); exact HO_0.out⟩, ⟨by repeat (first | (with_reducible first | exact HK.out | apply Kept.alloc | apply Kept.drewN | apply Kept.drew) | exact HK.out)⟩, ⟨by repeat (first | (with_reducible first | exact HB.out | apply bA_ | apply pN_ | apply bD_) | exact HB.out)⟩⟩
    ·rw [if_neg c4] at H
     exact absurd H (by simp)
   ·rw [if_neg c3] at H
    have c3b0 : decide (x5_1 < (x0_1.length : Int)) = false := decide_eq_false c3
    clear c3
    simp only [Option.some.injEq, Prod.mk.injEq] at H
    obtain ⟨rfl, rfl⟩ := H
    obtain ⟨Ao9, co9, eo9⟩ := Kd.R_slice HO_0.out
    subst eo9
    go_wp2
    go_ret
    exact ⟨by first | rfl | (simp [errW_none, errW_some] <;> rfl) | (simp [*, errW_none, errW_some] <;> rfl), by (with_reducible repeat (first | apply rA_ | apply rN_ | apply rD_)); exact HO_0.out, by repeat (first | (with_reducible first | exact HB.out | apply bA_ | apply pN_ | apply bD_) | exact HB.out), by repeat (first | (with_reducible first | exact HK.out | apply Kept.alloc | apply Kept.drewN | apply Kept.drew) | exact HK.out)⟩
/-! ### laws_heldIntS: function 17 -/
def laws_heldIntS.l0 : Nat → List Int → Int → Int → Option (Int)
 | 0, _, _, _ => none
 | k + 1, x0, x1, x5 => if x5 < (x0.length : Int) then (if 0 ≤ x5 then (if (rd x0 x5) = x1 then (laws_heldIntS.l0 k x0 (wrap64 (x1 + 1)) (wrap64 (x5 + 1))) else (some (-1))) else (none)) else (some x1)
def laws_heldIntS.f (k : Nat) (l0 : List Int) (a1 : Int) : Option (Int) := laws_heldIntS.l0 k l0 a1 0
theorem laws_heldIntS.mono_l : ∀ k, (∀ y0 y1 y2, LeO (laws_heldIntS.l0 k y0 y1 y2) (laws_heldIntS.l0 (k + 1) y0 y1 y2))
 | 0 => fun _ _ _ r h => by simp [laws_heldIntS.l0] at h
 | k + 1 => by
  have ih0 := laws_heldIntS.mono_l k
  ·intro y0 y1 y2
   unfold laws_heldIntS.l0
   repeat' first
   | (with_reducible exact ih0 _ _ _)
   | (with_reducible exact LeO.refl _)
   | (with_reducible exact LeO.none _)
   | (with_reducible refine LeO.ite ?_ ?_)
   | (with_reducible refine LeO.bind ?_ (fun _ => ?_))
   | exact ih0 _ _ _
   | exact LeO.none _
   | refine LeO.ite ?_ ?_
   | refine LeO.bind ?_ (fun _ => ?_)
theorem laws_heldIntS.mono : ∀ a0 a1 k, LeO (laws_heldIntS.f k a0 a1) (laws_heldIntS.f (k + 1) a0 a1) := by
 intro a0 a1 k
 have ih0 := laws_heldIntS.mono_l k
 unfold laws_heldIntS.f
 repeat' first
   | (with_reducible exact ih0 _ _ _)
   | (with_reducible exact LeO.refl _)
   | (with_reducible exact LeO.none _)
   | (with_reducible refine LeO.ite ?_ ?_)
   | (with_reducible refine LeO.bind ?_ (fun _ => ?_))
   | exact ih0 _ _ _
   | exact LeO.none _
   | refine LeO.ite ?_ ?_
   | refine LeO.bind ?_ (fun _ => ?_)
set_option maxHeartbeats 8000000 in
set_option maxRecDepth 100000 in
theorem laws_heldIntS.calls (k : Nat) (A0 : Option Addr) (c0 : Nat) (l0 : List Int) (a1 : Int) (r : Int) (w : World) (hr0 : Kd.C (Kd.int .i64) w A0 l0.length l0) (hc0 : l0.length ≤ c0) (h : laws_heldIntS.f k l0 a1 = some r) :
  Calls Try.prog 17 #[.slice A0 l0.length c0, .int .i64 a1] w fun e w' => e = .returned (.int .i64 r) ∧ Drawn0 w w' := by
 have HR0 := aS_ hr0
 have HC0 := aS_ hc0
 clear hr0 hc0
 have H : (laws_heldIntS.l0 k l0 a1 0) = some r := h
 clear h
 have H' := aS_ H
 clear H
 go_enter Try.func17, Try.ntmps17
 go_wp2
 go_loopg [1, 5] k (fun kq v1 v5 w' => ∃ (x1_1 : Int) (x5_1 : Int), v1 = .int .i64 x1_1 ∧ v5 = .int .i64 x5_1 ∧ Aside0 (laws_heldIntS.l0 kq l0 x1_1 x5_1 = some r) ∧ Aside0 (kq ≤ k) ∧ Drawn0 w w')
 case atStart => exact ⟨(a1), (0), (by first | rfl | (simp; done) | (simp [*]; done)), (by first | rfl | (simp; done) | (simp [*]; done)), H', ⟨Nat.le_refl _⟩, by repeat (first | exact Drawn0.refl _ | apply Drawn0.step)⟩
 case round =>
  clear H'
  try clear c1
  try clear p2
  obtain ⟨x1_1, x5_1, rfl, rfl, HA, HK1, ⟨m1, rfl⟩⟩ := hrel
  cases gk with
  | zero => exact absurd HA.out (by simp [laws_heldIntS.l0])
  | succ k1 =>
   have H := HA.out
   clear HA
   simp only [laws_heldIntS.l0] at H
   by_cases c3 : x5_1 < (l0.length : Int)
   ·rw [if_pos c3] at H
    have c3b0 : decide (x5_1 < (l0.length : Int)) = true := decide_eq_true c3
    clear c3
    by_cases c4 : 0 ≤ x5_1
    ·rw [if_pos c4] at H
     have c4b0 : decide (0 ≤ x5_1) = true := decide_eq_true c4
     clear c4
     by_cases c5 : (rd l0 x5_1) = x1_1
     ·rw [if_pos c5] at H
      have c5b0 : ((rd l0 x5_1) == x1_1) = true := beq_iff_eq.mpr c5
      have c5b1 : ((rd l0 x5_1) != x1_1) = false := bne_eq_false_iff_eq.mpr c5
      clear c5
      have H' := aS_ H
      clear H
      have p295 : 0 ≤ (x5_1 : Int) := of_decide_eq_true (by assumption)
      have q295 : x5_1 < (l0.length : Int) := of_decide_eq_true (by assumption)
      obtain ⟨ad295, e295, hx295_0⟩ := Kd.at_int HR0.out x5_1 p295 q295
      cases e295
      replace p295 := eq_true p295
      replace q295 := eq_true q295
      go_wp2
      go_roundg k1
      case measure => have := HK1.out; omega
      case rel => exact ⟨(wrap64 (x1_1 + 1)), (wrap64 (x5_1 + 1)), (by first | rfl | (simp; done) | (simp [*]; done)), (by first | rfl | (simp; done) | (simp [*]; done)), H', ⟨by have := HK1.out; omega⟩, by repeat (first | exact Drawn0.refl _ | apply Drawn0.step)⟩
     ·rw [if_neg c5] at H
      have c5b0 : ((rd l0 x5_1) == x1_1) = false := beq_eq_false_iff_ne.mpr c5
      have c5b1 : ((rd l0 x5_1) != x1_1) = true := bne_iff_ne.mpr c5
      obtain rfl := Option.some.inj H
      have p295 : 0 ≤ (x5_1 : Int) := of_decide_eq_true (by assumption)
      have q295 : x5_1 < (l0.length : Int) := of_decide_eq_true (by assumption)
      obtain ⟨ad295, e295, hx295_0⟩ := Kd.at_int HR0.out x5_1 p295 q295
      cases e295
      replace p295 := eq_true p295
      replace q295 := eq_true q295
      go_wp2
      go_ret
      exact ⟨by first | rfl | (simp; done) | (simp [*]; done), by repeat (first | exact Drawn0.refl _ | apply Drawn0.step)⟩
    ·rw [if_neg c4] at H
     exact absurd H (by simp)
   ·rw [if_neg c3] at H
    have c3b0 : decide (x5_1 < (l0.length : Int)) = false := decide_eq_false c3
    clear c3
    obtain rfl := Option.some.inj H
    go_wp2
    go_ret
    exact ⟨by first | rfl | (simp; done) | (simp [*]; done), by repeat (first | exact Drawn0.refl _ | apply Drawn0.step)⟩
/-! ### laws_heldRegionS: function 8 -/
def laws_heldRegionS.l0 : Nat → List (S34) → Int → Int → Option (Int)
 | 0, _, _, _ => none
 | k + 1, x0, x1, x5 => if x5 < (x0.length : Int) then (if 0 ≤ x5 then ((laws_heldIntS.f k ((rd_T34 x0 x5).f0) x1).bind fun t297 => (if t297 < 0 then (some (-1)) else ((laws_heldIntS.f k ((rd_T34 x0 x5).f1) t297).bind fun t299 => (if t299 < 0 then (some (-1)) else (laws_heldRegionS.l0 k x0 t299 (wrap64 (x5 + 1))))))) else (none)) else (some x1)
def laws_heldRegionS.f (k : Nat) (l0 : List (S34)) (a1 : Int) : Option (Int) := laws_heldRegionS.l0 k l0 a1 0
theorem laws_heldRegionS.mono_l : ∀ k, (∀ y0 y1 y2, LeO (laws_heldRegionS.l0 k y0 y1 y2) (laws_heldRegionS.l0 (k + 1) y0 y1 y2))
 | 0 => fun _ _ _ r h => by simp [laws_heldRegionS.l0] at h
 | k + 1 => by
  have ih0 := laws_heldRegionS.mono_l k
  ·intro y0 y1 y2
   unfold laws_heldRegionS.l0
   repeat' first
   | (with_reducible exact ih0 _ _ _)
   | (with_reducible exact laws_heldIntS.mono _ _ _)
   | (with_reducible exact LeO.refl _)
   | (with_reducible exact LeO.none _)
   | (with_reducible refine LeO.ite ?_ ?_)
   | (with_reducible refine LeO.bind ?_ (fun _ => ?_))
   | exact ih0 _ _ _
   | exact laws_heldIntS.mono _ _ _
   | exact LeO.none _
   | refine LeO.ite ?_ ?_
   | refine LeO.bind ?_ (fun _ => ?_)
theorem laws_heldRegionS.mono : ∀ a0 a1 k, LeO (laws_heldRegionS.f k a0 a1) (laws_heldRegionS.f (k + 1) a0 a1) := by
 intro a0 a1 k
 have ih0 := laws_heldRegionS.mono_l k
 unfold laws_heldRegionS.f
 repeat' first
   | (with_reducible exact ih0 _ _ _)
   | (with_reducible exact laws_heldIntS.mono _ _ _)
   | (with_reducible exact LeO.refl _)
   | (with_reducible exact LeO.none _)
   | (with_reducible refine LeO.ite ?_ ?_)
   | (with_reducible refine LeO.bind ?_ (fun _ => ?_))
   | exact ih0 _ _ _
   | exact laws_heldIntS.mono _ _ _
   | exact LeO.none _
   | refine LeO.ite ?_ ?_
   | refine LeO.bind ?_ (fun _ => ?_)
set_option maxHeartbeats 8000000 in
set_option maxRecDepth 100000 in
theorem laws_heldRegionS.calls (k : Nat) (A0 : Option Addr) (c0 : Nat) (l0 : List (S34)) (a1 : Int) (r : Int) (w : World) (hr0 : Kd.C k34 w A0 l0.length l0) (hc0 : l0.length ≤ c0) (h : laws_heldRegionS.f k l0 a1 = some r) :
  Calls Try.prog 8 #[.slice A0 l0.length c0, .int .i64 a1] w fun e w' => e = .returned (.int .i64 r) ∧ Drawn0 w w' := by
 have HR0 := aS_ hr0
 have HC0 := aS_ hc0
 clear hr0 hc0
 have H : (laws_heldRegionS.l0 k l0 a1 0) = some r := h
 clear h
 have H' := aS_ H
 clear H
 go_enter Try.func8, Try.ntmps8
 go_wp2
 go_loopg [1, 5] k (fun kq v1 v5 w' => ∃ (x1_1 : Int) (x5_1 : Int), v1 = .int .i64 x1_1 ∧ v5 = .int .i64 x5_1 ∧ Aside0 (laws_heldRegionS.l0 kq l0 x1_1 x5_1 = some r) ∧ Aside0 (kq ≤ k) ∧ Drawn0 w w')
 case atStart => exact ⟨(a1), (0), (by first | rfl | (simp; done) | (simp [*]; done)), (by first | rfl | (simp; done) | (simp [*]; done)), H', ⟨Nat.le_refl _⟩, by repeat (first | exact Drawn0.refl _ | apply Drawn0.step)⟩
 case round =>
  clear H'
  try clear p2
  obtain ⟨x1_1, x5_1, rfl, rfl, HA, HK1, ⟨m1, rfl⟩⟩ := hrel
  cases gk with
  | zero => exact absurd HA.out (by simp [laws_heldRegionS.l0])
  | succ k1 =>
   have H := HA.out
   clear HA
   simp only [laws_heldRegionS.l0] at H
   by_cases c3 : x5_1 < (l0.length : Int)
   ·rw [if_pos c3] at H
    have c3b0 : decide (x5_1 < (l0.length : Int)) = true := decide_eq_true c3
    clear c3
    by_cases c4 : 0 ≤ x5_1
    ·rw [if_pos c4] at H
     have c4b0 : decide (0 ≤ x5_1) = true := decide_eq_true c4
     clear c4
     replace H := Option.bind_eq_some_iff.mp H
     obtain ⟨t297, A50, H⟩ := H
     have A5 := aS_ A50
     clear A50
     by_cases c6 : t297 < 0
     ·rw [if_pos c6] at H
      have c6b0 : decide (t297 < 0) = true := decide_eq_true c6
      clear c6
      obtain rfl := Option.some.inj H
      have p296 : 0 ≤ (x5_1 : Int) := of_decide_eq_true (by assumption)
      have q296 : x5_1 < (l0.length : Int) := of_decide_eq_true (by assumption)
      obtain ⟨ad296, A296_0, c296_0, A296_1, c296_1, e296, hx296_0, hx296_1, hl296_0, hi296_0, hl296_1, hi296_1⟩ := at_T34 HR0.out x5_1 p296 q296
      cases e296
      have HR296_0 := aS_ hi296_0
      have HC296_0 := aS_ hl296_0
      clear hi296_0 hl296_0
      have HR296_1 := aS_ hi296_1
      have HC296_1 := aS_ hl296_1
      clear hi296_1 hl296_1
      replace p296 := eq_true p296
      replace q296 := eq_true q296
      go_wp2_with (first | ((with_reducible refine gate_callee (f := 17) rfl ?_); refine goesL_ (some 18) rfl rfl Try.func17 (by kernel_rfl) rfl #[.slice A296_0 ((rd_T34 l0 x5_1).f0).length c296_0, .int .i64 x1_1] rfl (by (try simp only [List.map_toArray, List.map_cons, List.map_nil]); first | done | rfl | (simp only [List.length_drop, List.length_take]; rfl)) ?_; (with_reducible refine (laws_heldIntS.calls k1 _ _ ((rd_T34 l0 x5_1).f0) x1_1 t297 _ ?side1 ?side2 A5.out).mono ?_); (case side1 => repeat (first | exact HR296_0.out | (with_reducible refine Kd.C_alloc ?_ _) | (with_reducible refine Kd.C_drewN ?_ _) | (with_reducible refine Kd.C_drew ?_))); (case side2 => exact HC296_0.out); rintro e w' ⟨rfl, ⟨nd, rfl⟩⟩; refine ⟨_, rfl, ?_⟩))
      go_ret
      exact ⟨by first | rfl | (simp; done) | (simp [*]; done), by repeat (first | exact Drawn0.refl _ | apply Drawn0.step)⟩
     ·rw [if_neg c6] at H
      have c6b0 : decide (t297 < 0) = false := decide_eq_false c6
      clear c6
      replace H := Option.bind_eq_some_iff.mp H
      obtain ⟨t299, A70, H⟩ := H
      have A7 := aS_ A70
      clear A70
      by_cases c8 : t299 < 0
      ·rw [if_pos c8] at H
       have c8b0 : decide (t299 < 0) = true := decide_eq_true c8
       clear c8
       obtain rfl := Option.some.inj H
       have p296 : 0 ≤ (x5_1 : Int) := of_decide_eq_true (by assumption)
       have q296 : x5_1 < (l0.length : Int) := of_decide_eq_true (by assumption)
       obtain ⟨ad296, A296_0, c296_0, A296_1, c296_1, e296, hx296_0, hx296_1, hl296_0, hi296_0, hl296_1, hi296_1⟩ := at_T34 HR0.out x5_1 p296 q296
       cases e296
       have HR296_0 := aS_ hi296_0
       have HC296_0 := aS_ hl296_0
       clear hi296_0 hl296_0
       have HR296_1 := aS_ hi296_1
       have HC296_1 := aS_ hl296_1
       clear hi296_1 hl296_1
       replace p296 := eq_true p296
       replace q296 := eq_true q296
       go_wp2_with (first | ((with_reducible refine gate_callee (f := 17) rfl ?_); refine goesL_ (some 18) rfl rfl Try.func17 (by kernel_rfl) rfl #[.slice A296_0 ((rd_T34 l0 x5_1).f0).length c296_0, .int .i64 x1_1] rfl (by (try simp only [List.map_toArray, List.map_cons, List.map_nil]); first | done | rfl | (simp only [List.length_drop, List.length_take]; rfl)) ?_; (with_reducible refine (laws_heldIntS.calls k1 _ _ ((rd_T34 l0 x5_1).f0) x1_1 t297 _ ?side1 ?side2 A5.out).mono ?_); (case side1 => repeat (first | exact HR296_0.out | (with_reducible refine Kd.C_alloc ?_ _) | (with_reducible refine Kd.C_drewN ?_ _) | (with_reducible refine Kd.C_drew ?_))); (case side2 => exact HC296_0.out); rintro e w' ⟨rfl, ⟨nd, rfl⟩⟩; refine ⟨_, rfl, ?_⟩; have p298 : 0 ≤ (x5_1 : Int) := of_decide_eq_true (by assumption); have q298 : x5_1 < (l0.length : Int) := of_decide_eq_true (by assumption); obtain ⟨ad298, A298_0, c298_0, A298_1, c298_1, e298, hx298_0, hx298_1, hl298_0, hi298_0, hl298_1, hi298_1⟩ := at_T34 HR0.out x5_1 p298 q298; obtain rfl : ad296 = ad298 := (by injection e298); have HR298_0 := aS_ hi298_0; have HC298_0 := aS_ hl298_0; clear hi298_0 hl298_0; have HR298_1 := aS_ hi298_1; have HC298_1 := aS_ hl298_1; clear hi298_1 hl298_1; replace p298 := eq_true p298; replace q298 := eq_true q298; have ea_ := Option.some.inj (hx296_0.symm.trans hx298_0); injection ea_ with ea_ en_ ec_; subst ea_; subst ec_; clear en_; have ea_ := Option.some.inj (hx296_1.symm.trans hx298_1); injection ea_ with ea_ en_ ec_; subst ea_; subst ec_; clear en_) | ((with_reducible refine gate_callee (f := 17) rfl ?_); refine goesL_ (some 27) rfl rfl Try.func17 (by kernel_rfl) rfl #[.slice A296_1 ((rd_T34 l0 x5_1).f1).length c296_1, .int .i64 t297] rfl (by (try simp only [List.map_toArray, List.map_cons, List.map_nil]); first | done | rfl | (simp only [List.length_drop, List.length_take]; rfl)) ?_; (with_reducible refine (laws_heldIntS.calls k1 _ _ ((rd_T34 l0 x5_1).f1) t297 t299 _ ?side1 ?side2 A7.out).mono ?_); (case side1 => repeat (first | exact HR298_1.out | (with_reducible refine Kd.C_alloc ?_ _) | (with_reducible refine Kd.C_drewN ?_ _) | (with_reducible refine Kd.C_drew ?_))); (case side2 => exact HC298_1.out); rintro e w' ⟨rfl, ⟨nd, rfl⟩⟩; refine ⟨_, rfl, ?_⟩))
       go_ret
       exact ⟨by first | rfl | (simp; done) | (simp [*]; done), by repeat (first | exact Drawn0.refl _ | apply Drawn0.step)⟩
      ·rw [if_neg c8] at H
       have c8b0 : decide (t299 < 0) = false := decide_eq_false c8
       clear c8
       have H' := aS_ H
       clear H
       have p296 : 0 ≤ (x5_1 : Int) := of_decide_eq_true (by assumption)
       have q296 : x5_1 < (l0.length : Int) := of_decide_eq_true (by assumption)
       obtain ⟨ad296, A296_0, c296_0, A296_1, c296_1, e296, hx296_0, hx296_1, hl296_0, hi296_0, hl296_1, hi296_1⟩ := at_T34 HR0.out x5_1 p296 q296
       cases e296
       have HR296_0 := aS_ hi296_0
       have HC296_0 := aS_ hl296_0
       clear hi296_0 hl296_0
       have HR296_1 := aS_ hi296_1
       have HC296_1 := aS_ hl296_1
       clear hi296_1 hl296_1
       replace p296 := eq_true p296
       replace q296 := eq_true q296
       go_wp2_with (first | ((with_reducible refine gate_callee (f := 17) rfl ?_); refine goesL_ (some 18) rfl rfl Try.func17 (by kernel_rfl) rfl #[.slice A296_0 ((rd_T34 l0 x5_1).f0).length c296_0, .int .i64 x1_1] rfl (by (try simp only [List.map_toArray, List.map_cons, List.map_nil]); first | done | rfl | (simp only [List.length_drop, List.length_take]; rfl)) ?_; (with_reducible refine (laws_heldIntS.calls k1 _ _ ((rd_T34 l0 x5_1).f0) x1_1 t297 _ ?side1 ?side2 A5.out).mono ?_); (case side1 => repeat (first | exact HR296_0.out | (with_reducible refine Kd.C_alloc ?_ _) | (with_reducible refine Kd.C_drewN ?_ _) | (with_reducible refine Kd.C_drew ?_))); (case side2 => exact HC296_0.out); rintro e w' ⟨rfl, ⟨nd, rfl⟩⟩; refine ⟨_, rfl, ?_⟩; have p298 : 0 ≤ (x5_1 : Int) := of_decide_eq_true (by assumption); have q298 : x5_1 < (l0.length : Int) := of_decide_eq_true (by assumption); obtain ⟨ad298, A298_0, c298_0, A298_1, c298_1, e298, hx298_0, hx298_1, hl298_0, hi298_0, hl298_1, hi298_1⟩ := at_T34 HR0.out x5_1 p298 q298; obtain rfl : ad296 = ad298 := (by injection e298); have HR298_0 := aS_ hi298_0; have HC298_0 := aS_ hl298_0; clear hi298_0 hl298_0; have HR298_1 := aS_ hi298_1; have HC298_1 := aS_ hl298_1; clear hi298_1 hl298_1; replace p298 := eq_true p298; replace q298 := eq_true q298; have ea_ := Option.some.inj (hx296_0.symm.trans hx298_0); injection ea_ with ea_ en_ ec_; subst ea_; subst ec_; clear en_; have ea_ := Option.some.inj (hx296_1.symm.trans hx298_1); injection ea_ with ea_ en_ ec_; subst ea_; subst ec_; clear en_) | ((with_reducible refine gate_callee (f := 17) rfl ?_); refine goesL_ (some 27) rfl rfl Try.func17 (by kernel_rfl) rfl #[.slice A296_1 ((rd_T34 l0 x5_1).f1).length c296_1, .int .i64 t297] rfl (by (try simp only [List.map_toArray, List.map_cons, List.map_nil]); first | done | rfl | (simp only [List.length_drop, List.length_take]; rfl)) ?_; (with_reducible refine (laws_heldIntS.calls k1 _ _ ((rd_T34 l0 x5_1).f1) t297 t299 _ ?side1 ?side2 A7.out).mono ?_); (case side1 => repeat (first | exact HR298_1.out | (with_reducible refine Kd.C_alloc ?_ _) | (with_reducible refine Kd.C_drewN ?_ _) | (with_reducible refine Kd.C_drew ?_))); (case side2 => exact HC298_1.out); rintro e w' ⟨rfl, ⟨nd, rfl⟩⟩; refine ⟨_, rfl, ?_⟩))
       go_roundg k1
       case measure => have := HK1.out; omega
       case rel => exact ⟨(t299), (wrap64 (x5_1 + 1)), (by first | rfl | (simp; done) | (simp [*]; done)), (by first | rfl | (simp; done) | (simp [*]; done)), H', ⟨by have := HK1.out; omega⟩, by repeat (first | exact Drawn0.refl _ | apply Drawn0.step)⟩
    ·rw [if_neg c4] at H
     exact absurd H (by simp)
   ·rw [if_neg c3] at H
    have c3b0 : decide (x5_1 < (l0.length : Int)) = false := decide_eq_false c3
    clear c3
    obtain rfl := Option.some.inj H
    go_wp2
    go_ret
    exact ⟨by first | rfl | (simp; done) | (simp [*]; done), by repeat (first | exact Drawn0.refl _ | apply Drawn0.step)⟩
end Go.Proofs.Ytbfbgpopbcodcaa.G
namespace Go.Proofs.Ytbfbgpopbcodcaa.G
open Go.RowKit Go.Proofs.YtbfbgpopbcodcaaW.PrintWords Go.Proofs.YtbfbgpopbcodcaaW.PrintLast Go.Proofs.YtbfbgpopbcodcaaW.PrintMore
set_option linter.unusedVariables false
set_option linter.unusedSimpArgs false
def markRegs (k : Nat) : List S34 → Int → Option (Int × List S34)
  | [], m => some (m, [])
  | x :: xs, m => (laws_markIntS.f k x.f0 m).bind fun b0 => (laws_markIntS.f k x.f1 b0.1).bind fun b1 => (markRegs k xs b1.1).bind fun b2 => some (b2.1, ⟨b0.2, b1.2⟩ :: b2.2)
theorem markRegs_mono : ∀ (l : List S34) (m : Int) (k : Nat), LeO (markRegs k l m) (markRegs (k + 1) l m)
  | [], m, k => LeO.refl _
  | x :: xs, m, k => by
    rw [markRegs, markRegs]
    refine LeO.bind (laws_markIntS.mono _ _ _) (fun b0 => ?_)
    refine LeO.bind (laws_markIntS.mono _ _ _) (fun b1 => ?_)
    refine LeO.bind (markRegs_mono xs _ k) (fun b2 => ?_)
    exact LeO.refl _
def laws_markRegionS.f (k : Nat) (l0 : List S34) (a1 : Int) : Option (Int × List S34) := markRegs k l0 a1
theorem laws_markRegionS.mono : ∀ a0 a1 k, LeO (laws_markRegionS.f k a0 a1) (laws_markRegionS.f (k + 1) a0 a1) := fun a0 a1 k => markRegs_mono a0 a1 k
theorem markRegs_len (k : Nat) : ∀ (l : List S34) (m r : Int) (l' : List S34), markRegs k l m = some (r, l') → l'.length = l.length
  | [], m, r, l', h => by
    simp only [markRegs, Option.some.injEq, Prod.mk.injEq] at h
    rw [← h.2]
  | x :: xs, m, r, l', h => by
    rw [markRegs] at h
    obtain ⟨b0, h0, h⟩ := Option.bind_eq_some_iff.1 h
    obtain ⟨b1, h1, h⟩ := Option.bind_eq_some_iff.1 h
    obtain ⟨b2, h2, h⟩ := Option.bind_eq_some_iff.1 h
    simp only [Option.some.injEq, Prod.mk.injEq] at h
    rw [← h.2, List.length_cons, List.length_cons, markRegs_len k xs _ b2.1 b2.2 h2]
/-- An element's two rows, and the row of regions behind what was written into them. -/
theorem tag_open {f : Nat → Nat} {ok : Nat → Prop} {W : World} {base : Nat} {u : Value} {xs : List S34} (h : (Kd.tag f k34).R 34 W base ok u xs.zipIdx) (i : Nat) (hi : i < xs.length) :
    ∃ ad cap v0 v1, u = .slice (some ad) xs.length cap ∧ xs.length ≤ cap ∧
      (Kd.int .i64).R 3 W base (fun k => v0.ownBlock = some k ∧ some k ≠ v1.ownBlock) v0 (xs.getD i z34).f0 ∧ (Kd.int .i64).R 3 W base (fun k => v1.ownBlock = some k ∧ some k ≠ v0.ownBlock) v1 (xs.getD i z34).f1 ∧
      (∀ W1 : World, (∀ k, v0.ownBlock ≠ some k → v1.ownBlock ≠ some k → k < W.heap.size → W1.heap[k]? = W.heap[k]?) → W1.cell? (ad.add (i * 2)) = some v0 ∧ W1.cell? ⟨(ad.add (i * 2)).block, (ad.add (i * 2)).off + 1, none⟩ = some v1) ∧
      ∀ (W2 : World) (y : S34) (ok0 ok1 : Nat → Prop), (Kd.int .i64).R 3 W2 base ok0 v0 y.f0 → (Kd.int .i64).R 3 W2 base ok1 v1 y.f1 → (∀ k, v0.ownBlock ≠ some k → v1.ownBlock ≠ some k → k < W.heap.size → W2.heap[k]? = W.heap[k]?) →
        (Kd.tag f k34).R 34 W2 base ok u (xs.set i y).zipIdx := by
  obtain ⟨h0, inner, ho, hr⟩ := h
  rw [List.length_zipIdx] at ho
  have hr1 := hr.1
  rw [List.length_zipIdx] at hr1
  rcases ho.2 with ⟨_, hz⟩ | ⟨g, cap, cur, hu, hg, hh, r1, r2, r3, r4⟩
  · omega
  have hxi : xs[i]? = some (xs.getD i z34) := by rw [List.getD_eq_getElem?_getD, List.getElem?_eq_getElem hi]; rfl
  have hM := hr.2 i (xs.getD i z34, i) (Kd.zip_at hxi)
  obtain ⟨v0, v1, hc, g0, g1⟩ := hM
  have hsz : (Kd.tag f k34).sz = 2 := rfl
  rw [hsz] at hc hr1 r4 r3
  have e0 : inner[i * 2]? = some v0 := by
    have := congrArg (fun l : List Value => l[0]?) hc
    simpa [List.getElem?_take_of_lt, List.getElem?_drop] using this
  have e1 : inner[i * 2 + 1]? = some v1 := by
    have := congrArg (fun l : List Value => l[1]?) hc
    simpa [List.getElem?_take_of_lt, List.getElem?_drop] using this
  rw [← r4, List.getElem?_take_of_lt (by omega), Array.getElem?_toList] at e0 e1
  have hob : u.ownBlock = some g := by rw [hu]; rfl
  have n0 : v0.ownBlock ≠ some g := fun e => (g0.1 g e).1.1.2 hob.symm
  have n1 : v1.ownBlock ≠ some g := fun e => (g1.1 g e).1.1.2 hob.symm
  have hgl := blk_lt hh
  refine ⟨⟨g, 0, none⟩, cap, v0, v1, hu, r1, int_ok g0 (fun k hk => ⟨hk, (g0.1 k hk).2⟩), int_ok g1 (fun k hk => ⟨hk, (g1.1 k hk).2⟩), fun W1 hk => ?_, fun W2 y ok0 ok1 q0 q1 hk => ?_⟩
  · have hh1 := (hk g n0 n1 hgl).trans hh
    rw [add_at, Nat.zero_add]
    exact ⟨(blk_cell hh1 _).trans e0, (blk_cell hh1 _).trans e1⟩
  · have hset : (xs.set i y).zipIdx.length = xs.length := by rw [List.length_zipIdx, List.length_set]
    refine ⟨h0, inner, ?_, ?_, fun j p hj => ?_⟩
    · rw [hset]
      exact own_move ho (fun k hk' => by rw [hob] at hk'; cases hk'; exact hk g n0 n1 hgl)
    · rw [hset, hsz]; exact hr1
    · rw [List.getElem?_zipIdx, Nat.zero_add] at hj
      obtain ⟨x, hx, rfl⟩ := Option.map_eq_some_iff.1 hj
      by_cases hji : j = i
      · subst hji
        rw [List.getElem?_set_self hi] at hx
        obtain rfl := Option.some.inj hx
        exact ⟨v0, v1, hc, int_ok q0 (fun k hk => g0.1 k hk), int_ok q1 (fun k hk => g1.1 k hk)⟩
      · rw [List.getElem?_set_ne (fun e => hji e.symm)] at hx
        have hM := hr.2 j (x, j) (Kd.zip_at hx)
        exact Kd.M_step (d := k34) hM (fun k hok hlt => hk k (fun e => hji (hok.2.symm.trans (g0.1 k e).1.2)) (fun e => hji (hok.2.symm.trans (g1.1 k e).1.2)) hlt)
theorem drop_getZ {l : List S34} {i : Nat} (h : i < l.length) : l.drop i = l.getD i z34 :: l.drop (i + 1) := by
  rw [List.drop_eq_getElem_cons h, List.getD_eq_getElem?_getD, List.getElem?_eq_getElem h]; rfl
set_option maxHeartbeats 4000000 in
set_option maxRecDepth 100000 in
theorem laws_markRegionS.calls (k : Nat) (u : Value) (l : List S34) (a1 r1 : Int) (r2 : List S34) (wN w : World) (hB : Below wN.heap.size wN w) (hs : Kd.S k34 34 w wN.heap.size (fun _ => True) u l) (h : laws_markRegionS.f k l a1 = some (r1, r2)) :
    Calls Try.prog 7 #[u, .int .i64 a1] w fun e w' => e = .returned (.int .i64 r1) ∧ Kd.S k34 34 w' wN.heap.size (fun _ => True) u r2 ∧ Below wN.heap.size wN w' := by
  obtain ⟨f, hs⟩ := hs
  have hbig : l.length ≤ 9223372036854775807 := by
    obtain ⟨A, c, hu, hlc, hr⟩ := Kd.S_reads ⟨f, hs⟩
    have := hr.2.1
    omega
  have HB := Aside0.mk hB
  have HS := Aside0.mk hs
  have HM := Aside0.mk (show markRegs k l a1 = some (r1, r2) from h)
  obtain ⟨A, c, hu, hlc, _⟩ := Kd.S_reads (⟨f, hs⟩ : Kd.S k34 34 w wN.heap.size (fun _ => True) u l)
  subst hu
  clear hB hs h
  go_enter Try.func7, Try.ntmps7
  go_wp2
  go_loopg [1, 5] l.length (fun gg s1 s5 W => ∃ (i : Nat) (m : Int) (d rest : List S34), s1 = .int .i64 m ∧ s5 = .int .i64 i ∧ i ≤ l.length ∧ l.length - i ≤ gg ∧ d.length = i ∧ Aside0 (markRegs k (l.drop i) m = some (r1, rest)) ∧ Aside0 (r2 = d ++ rest) ∧ Aside0 ((Kd.tag f k34).R 34 W wN.heap.size (fun _ => True) (.slice A l.length c) (d ++ l.drop i).zipIdx) ∧ Aside0 (Below wN.heap.size wN W))
  case atStart => exact ⟨0, a1, [], r2, rfl, rfl, Nat.zero_le _, by omega, rfl, HM, ⟨rfl⟩, HS, HB⟩
  case round =>
    obtain ⟨i, m, d, rest, rfl, rfl, hi, hg, hd, HMi, HR2, HT, HBi⟩ := hrel
    by_cases hlt : i < l.length
    · have hltz : (i : Int) < (l.length : Int) := by omega
      have hi0 : (0 : Int) ≤ (i : Int) := by omega
      have hM := HMi.out
      rw [drop_getZ hlt, markRegs] at hM
      obtain ⟨b0, A0, hM⟩ := Option.bind_eq_some_iff.1 hM
      obtain ⟨b1, A1, hM⟩ := Option.bind_eq_some_iff.1 hM
      obtain ⟨b2, A2, hM⟩ := Option.bind_eq_some_iff.1 hM
      simp only [Option.some.injEq, Prod.mk.injEq] at hM
      obtain ⟨hr1, hrest⟩ := hM
      have hlen : (d ++ l.drop i).length = l.length := by rw [List.length_append, List.length_drop]; omega
      obtain ⟨ad, cap, v0, v1, hu, hcap, g0, g1, hcell, hclose⟩ := tag_open HT.out i (by omega)
      have hget : (d ++ l.drop i).getD i z34 = l.getD i z34 := by
        rw [List.getD_eq_getElem?_getD, List.getElem?_append_right (by omega), hd, Nat.sub_self, List.getElem?_drop, Nat.add_zero, ← List.getD_eq_getElem?_getD]
      have hset : ∀ y : S34, (d ++ l.drop i).set i y = (d ++ [y]) ++ l.drop (i + 1) := fun y => by
        rw [List.set_append_right _ _ (by omega), hd, Nat.sub_self, drop_getZ hlt, List.set_cons_zero, List.append_assoc]; rfl
      rw [hget] at g0 g1
      injection hu with hu1 hu2 hu3
      subst hu1 hu3
      obtain ⟨hx0, hx1⟩ := hcell wr (fun k _ _ _ => rfl)
      obtain ⟨B0, c0, hv0⟩ := Kd.R_slice g0
      obtain ⟨B1, c1, hv1⟩ := Kd.R_slice g1
      have G0 := Aside0.mk g0
      have G1 := Aside0.mk g1
      have HC := Aside0.mk hcell
      have HCL := Aside0.mk hclose
      have AA0 := Aside0.mk A0
      have AA1 := Aside0.mk A1
      have AA2 := Aside0.mk A2
      have HR1 := Aside0.mk hr1
      have HRest := Aside0.mk hrest
      have HSet := Aside0.mk hset
      clear g0 g1 hcell hclose A0 A1 A2 hr1 hrest hset hget hu2
      subst hv0 hv1
      generalize hq : l.getD i z34 = q at G0 G1 AA0 AA1 hx0 hx1 HC HCL
      clear hq
      go_wp2_with (first
        | ((with_reducible refine gate_callee (f := 16) rfl ?_); refine goesL_ (some 18) rfl rfl Try.func16 (by kernel_rfl) rfl #[.slice B0 q.f0.length c0, .int .i64 m] rfl (by (try simp only [List.map_toArray, List.map_cons, List.map_nil]); first | done | rfl) ?_; refine (laws_markIntS.calls k (fun k_ => (Value.slice B0 q.f0.length c0).ownBlock = some k_) _ q.f0 m b0.1 b0.2 wN _ HBi.out (int_ok G0.out (fun _ hk => hk)) AA0.out).mono ?_; rintro e W1 ⟨rfl, ho0, hb1, hk1⟩; refine ⟨_, rfl, ?_⟩; have H01 := Aside0.mk ho0; have HB1 := Aside0.mk hb1; have HK1 := Aside0.mk hk1; have G11 := Aside0.mk (Kd.R_step G1.out (fun k_ hok hl_ => hk1.2 k_ hl_ (fun e_ => hok.2 e_.symm))); have hx1' := ((HC.out W1 (fun k_ n0_ _ hl_ => hk1.2 k_ hl_ n0_)).2); clear ho0 hb1 hk1 hx0 hx1)
        | ((with_reducible refine gate_callee (f := 16) rfl ?_); refine goesL_ (some 25) rfl rfl Try.func16 (by kernel_rfl) rfl #[.slice B1 q.f1.length c1, .int .i64 b0.1] rfl (by (try simp only [List.map_toArray, List.map_cons, List.map_nil]); first | done | rfl) ?_; refine (laws_markIntS.calls k (fun k_ => (Value.slice B1 q.f1.length c1).ownBlock = some k_) _ q.f1 b0.1 b1.1 b1.2 wN _ HB1.out (int_ok G11.out (fun _ hk => hk)) AA1.out).mono ?_; rintro e W2 ⟨rfl, ho1, hb2, hk2⟩; refine ⟨_, rfl, ?_⟩; have H12 := Aside0.mk ho1; have HB2 := Aside0.mk hb2; have HK2 := Aside0.mk hk2; clear ho1 hb2 hk2 hx1'))
      go_roundg (l.length - (i + 1))
      case measure => omega
      case rel =>
        refine ⟨i + 1, b1.1, d ++ [⟨b0.2, b1.2⟩], b2.2, rfl, by go_num, by omega, by omega, by rw [List.length_append, hd]; rfl, ⟨?_⟩, ⟨?_⟩, ⟨?_⟩, HB2⟩
        · rw [← HR1.out]; exact AA2.out
        · rw [HR2.out, ← HRest.out, List.append_assoc]; rfl
        · rw [← HSet.out]
          refine HCL.out W2 ⟨b0.2, b1.2⟩ (fun k_ => (Value.slice B0 q.f0.length c0).ownBlock = some k_) _ ?_ H12.out ?_
          · exact Kd.R_step (int_ok H01.out (fun _ hk => hk)) (fun k_ hok hl_ => HK2.out.2 k_ hl_ (fun e_ => (G0.out.1 k_ hok).2 e_.symm))
          · intro k_ n0_ n1_ hl_
            exact (HK2.out.2 k_ (Nat.lt_of_lt_of_le hl_ HK1.out.1) n1_).trans (HK1.out.2 k_ hl_ n0_)
    · have hltz : ¬ (i : Int) < (l.length : Int) := by omega
      obtain rfl : i = l.length := by omega
      have hM := HMi.out
      rw [List.drop_length, markRegs] at hM
      simp only [Option.some.injEq, Prod.mk.injEq] at hM
      obtain ⟨rfl, rfl⟩ := hM
      have HT2 := HT.out
      rw [List.drop_length, List.append_nil] at HT2
      replace HT2 := Aside0.mk HT2
      go_wp2
      go_ret
      refine ⟨rfl, ⟨f, ?_⟩, HBi.out⟩
      rw [HR2.out, List.append_nil]
      exact HT2.out
/-- Behind a call that made a list of regions: the world before it, what lay there, the list itself, its regions apart. -/
def Marky (w : World) (v v' : Value) (t t' : List S34) (wc : World) : Prop :=
  ∃ W : World, Kd.N k34 34 W w.heap.size (fun _ => True) v t ∧ Below w.heap.size w W ∧ Below W.heap.size W wc ∧ Kd.S k34 34 wc W.heap.size (fun _ => True) v' t'
theorem Marky.drewN {w : World} {v v' : Value} {t t' : List S34} {wc : World} (h : Marky w v v' t t' wc) (n : Nat) : Marky w v v' t t' (wc.drewN n) := by
  obtain ⟨W, h1, h2, h3, h4⟩ := h
  exact ⟨W, h1, h2, pw_below_drewN h3 n, Kd.S_drewN h4 n⟩
theorem Marky.drew {w : World} {v v' : Value} {t t' : List S34} {wc : World} (h : Marky w v v' t t' wc) : Marky w v v' t t' wc.drew := by
  obtain ⟨W, h1, h2, h3, h4⟩ := h
  exact ⟨W, h1, h2, below_drew1 h3, Kd.S_drew h4⟩
theorem Marky.below {w : World} {v v' : Value} {t t' : List S34} {wc wd : World} (h : Marky w v v' t t' wc) (hb : Below wc.heap.size wc wd) : Marky w v v' t t' wd := by
  obtain ⟨W, h1, h2, h3, h4⟩ := h
  exact ⟨W, h1, h2, below_step h3 hb, Kd.S_below h4 hb⟩
theorem laws_markRegionS.len {k : Nat} {l : List S34} {a r : Int} {l' : List S34} (h : laws_markRegionS.f k l a = some (r, l')) : l'.length = l.length := markRegs_len k l a r l' h
end Go.Proofs.Ytbfbgpopbcodcaa.G
namespace Go.Proofs.Ytbfbgpopbcodcaa.G
open Go.RowKit Go.Proofs.YtbfbgpopbcodcaaW.PrintWords Go.Proofs.YtbfbgpopbcodcaaW.PrintLast Go.Proofs.YtbfbgpopbcodcaaW.PrintMore
attribute [local go_sem] max2_int min2_int max_two min_two max_three min_three max_four min_four   -- for this text's walks alone
set_option linter.unusedVariables false
set_option linter.unusedSimpArgs false
/-! ### laws_FnExactAllRegions: function 3 -/
mutual
def laws_FnExactAllRegions.j0 : Nat → Int → List (S34) → Bool → List (S34) → Bool → Option (Bool)
 | 0, _, _, _, _, _ => none
 | k + 1, x0, x3, x4, x5, x29 => if x29 = true then (some false) else ((laws_markRegionS.f k x5 1).bind fun bt309 => ((laws_heldRegionS.f k bt309.2 1).bind fun t310 => (if t310 < 0 then (some false) else (if t310 = bt309.1 then ((impl_AllRegions.f k x0).bind fun bt311 => ((laws_eqRegionS.f k bt311.1 x3).bind fun t315 => (if t315 = true then (laws_FnExactAllRegions.j1 k bt309.2 bt309.1 (bt311.2 != x4)) else (laws_FnExactAllRegions.j1 k bt309.2 bt309.1 true)))) else (some false)))))
def laws_FnExactAllRegions.j1 : Nat → List (S34) → Int → Bool → Option (Bool)
 | 0, _, _, _ => none
 | k + 1, x5, x7, x54 => if x54 = true then (some false) else ((laws_heldRegionS.f k x5 1).bind fun t316 => (if t316 < 0 then (some false) else (if t316 = x7 then (some true) else (some false))))
end
def laws_FnExactAllRegions.f (k : Nat) (a0 : Int) : Option (Bool) := (spec_AllRegions.f k a0).bind fun bt300 => ((impl_AllRegions.f k a0).bind fun bt304 => ((laws_eqRegionS.f k bt304.1 bt300.1).bind fun t308 => (if t308 = true then (laws_FnExactAllRegions.j0 k a0 bt300.1 bt300.2 bt304.1 (bt304.2 != bt300.2)) else (laws_FnExactAllRegions.j0 k a0 bt300.1 bt300.2 bt304.1 true))))
theorem laws_FnExactAllRegions.mono_l : ∀ k, (∀ y0 y1 y2 y3 y4, LeO (laws_FnExactAllRegions.j0 k y0 y1 y2 y3 y4) (laws_FnExactAllRegions.j0 (k + 1) y0 y1 y2 y3 y4)) ∧ (∀ y0 y1 y2, LeO (laws_FnExactAllRegions.j1 k y0 y1 y2) (laws_FnExactAllRegions.j1 (k + 1) y0 y1 y2))
 | 0 => ⟨fun _ _ _ _ _ r h => by simp [laws_FnExactAllRegions.j0] at h, fun _ _ _ r h => by simp [laws_FnExactAllRegions.j1] at h⟩
 | k + 1 => by
  obtain ⟨ih0, ih1⟩ := laws_FnExactAllRegions.mono_l k
  refine ⟨?_, ?_⟩
  ·intro y0 y1 y2 y3 y4
   unfold laws_FnExactAllRegions.j0
   repeat' first
   | (with_reducible exact ih0 _ _ _ _ _)
   | (with_reducible exact ih1 _ _ _)
   | (with_reducible exact impl_AllRegions.mono _ _)
   | (with_reducible exact laws_eqRegionS.mono _ _ _)
   | (with_reducible exact laws_heldRegionS.mono _ _ _)
   | (with_reducible exact laws_markRegionS.mono _ _ _)
   | (with_reducible exact spec_AllRegions.mono _ _)
   | (with_reducible exact LeO.refl _)
   | (with_reducible exact LeO.none _)
   | (with_reducible refine LeO.ite ?_ ?_)
   | (with_reducible refine LeO.bind ?_ (fun _ => ?_))
   | exact ih0 _ _ _ _ _
   | exact ih1 _ _ _
   | exact impl_AllRegions.mono _ _
   | exact laws_eqRegionS.mono _ _ _
   | exact laws_heldRegionS.mono _ _ _
   | exact laws_markRegionS.mono _ _ _
   | exact spec_AllRegions.mono _ _
   | exact LeO.none _
   | refine LeO.ite ?_ ?_
   | refine LeO.bind ?_ (fun _ => ?_)
  ·intro y0 y1 y2
   unfold laws_FnExactAllRegions.j1
   repeat' first
   | (with_reducible exact ih0 _ _ _ _ _)
   | (with_reducible exact ih1 _ _ _)
   | (with_reducible exact impl_AllRegions.mono _ _)
   | (with_reducible exact laws_eqRegionS.mono _ _ _)
   | (with_reducible exact laws_heldRegionS.mono _ _ _)
   | (with_reducible exact laws_markRegionS.mono _ _ _)
   | (with_reducible exact spec_AllRegions.mono _ _)
   | (with_reducible exact LeO.refl _)
   | (with_reducible exact LeO.none _)
   | (with_reducible refine LeO.ite ?_ ?_)
   | (with_reducible refine LeO.bind ?_ (fun _ => ?_))
   | exact ih0 _ _ _ _ _
   | exact ih1 _ _ _
   | exact impl_AllRegions.mono _ _
   | exact laws_eqRegionS.mono _ _ _
   | exact laws_heldRegionS.mono _ _ _
   | exact laws_markRegionS.mono _ _ _
   | exact spec_AllRegions.mono _ _
   | exact LeO.none _
   | refine LeO.ite ?_ ?_
   | refine LeO.bind ?_ (fun _ => ?_)
theorem laws_FnExactAllRegions.mono : ∀ a0 k, LeO (laws_FnExactAllRegions.f k a0) (laws_FnExactAllRegions.f (k + 1) a0) := by
 intro a0 k
 obtain ⟨ih0, ih1⟩ := laws_FnExactAllRegions.mono_l k
 unfold laws_FnExactAllRegions.f
 repeat' first
   | (with_reducible exact ih0 _ _ _ _ _)
   | (with_reducible exact ih1 _ _ _)
   | (with_reducible exact impl_AllRegions.mono _ _)
   | (with_reducible exact laws_eqRegionS.mono _ _ _)
   | (with_reducible exact laws_heldRegionS.mono _ _ _)
   | (with_reducible exact laws_markRegionS.mono _ _ _)
   | (with_reducible exact spec_AllRegions.mono _ _)
   | (with_reducible exact LeO.refl _)
   | (with_reducible exact LeO.none _)
   | (with_reducible refine LeO.ite ?_ ?_)
   | (with_reducible refine LeO.bind ?_ (fun _ => ?_))
   | exact ih0 _ _ _ _ _
   | exact ih1 _ _ _
   | exact impl_AllRegions.mono _ _
   | exact laws_eqRegionS.mono _ _ _
   | exact laws_heldRegionS.mono _ _ _
   | exact laws_markRegionS.mono _ _ _
   | exact spec_AllRegions.mono _ _
   | exact LeO.none _
   | refine LeO.ite ?_ ?_
   | refine LeO.bind ?_ (fun _ => ?_)
set_option maxHeartbeats 8000000 in
set_option maxRecDepth 100000 in
theorem laws_FnExactAllRegions.calls (k : Nat) (a0 : Int) (r : Bool) (w : World) (h : laws_FnExactAllRegions.f k a0 = some r) :
  Calls Try.prog 3 #[.int .i64 a0] w fun e w' => e = .returned (.bool r) ∧ Below w.heap.size w w' := by
 have HB := aS_ (Below.refl w.heap.size w)
 have H : ((spec_AllRegions.f k a0).bind fun bt300 => ((impl_AllRegions.f k a0).bind fun bt304 => ((laws_eqRegionS.f k bt304.1 bt300.1).bind fun t308 => (if t308 = true then (laws_FnExactAllRegions.j0 k a0 bt300.1 bt300.2 bt304.1 (bt304.2 != bt300.2)) else (laws_FnExactAllRegions.j0 k a0 bt300.1 bt300.2 bt304.1 true))))) = some r := h
 clear h
 replace H := Option.bind_eq_some_iff.mp H
 obtain ⟨⟨t300, t303⟩, A20, H⟩ := H
 have A2 := aS_ A20
 clear A20
 replace H := Option.bind_eq_some_iff.mp H
 obtain ⟨⟨t304, t305⟩, A30, H⟩ := H
 have A3 := aS_ A30
 clear A30
 have HC4 := aS_ H
 clear H
 go_enter Try.func3, Try.ntmps3
 go_upto_region 3 with (first | ((with_reducible refine gate_callee (f := 4) rfl ?_); refine goesL_ (some 13) rfl rfl Try.func4 (by kernel_rfl) rfl #[.int .i64 a0] rfl (by (try simp only [List.map_toArray, List.map_cons, List.map_nil]); first | done | rfl | (simp only [List.length_drop, List.length_take]; rfl)) ?_; (with_reducible refine (spec_AllRegions.calls k a0 t300 t303 _ A2.out).mono ?_); rintro e w5 ⟨v301, rfl, ho0, hb⟩; refine ⟨_, rfl, ?_⟩; have n0_ := aS_ (Kd.N_lower (Kd.N_mono (ok' := fun k_ => True) ho0 (fun k_ hk_ => trivial)) (below_size (by repeat (first | (with_reducible first | exact HB.out | apply bA_ | apply pN_ | apply bD_) | exact HB.out)))); have n1_ := aS_ (below_step (by repeat (first | (with_reducible first | exact HB.out | apply bA_ | apply pN_ | apply bD_) | exact HB.out)) hb); clear HB; have HO302 := n0_; have HB := n1_; clear n0_ n1_; (try clear hb); (try clear hb2); (try clear hk); (try clear hi); (try clear ho0)) | ((with_reducible refine gate_callee (f := 5) rfl ?_); refine goesL_ (some 18) rfl rfl Try.func5 (by kernel_rfl) rfl #[.int .i64 a0] rfl (by (try simp only [List.map_toArray, List.map_cons, List.map_nil]); first | done | rfl | (simp only [List.length_drop, List.length_take]; rfl)) ?_; (with_reducible refine (impl_AllRegions.calls k a0 t304 t305 _ A3.out).mono ?_); rintro e w6 ⟨v306, rfl, ho0, hb⟩; refine ⟨_, rfl, ?_⟩; have HX := aS_ (show Marky w v301 v306 t300 t304 w6 from ⟨_, (by (with_reducible repeat (first | apply Kd.N_alloc | apply Kd.N_drewN | apply Kd.N_drew)); exact HO302.out), (by repeat (first | (with_reducible first | exact HB.out | apply bA_ | apply pN_ | apply bD_) | exact HB.out)), hb, ho0⟩); have n0_ := aS_ (Kd.N_elder' (by (with_reducible repeat (first | apply Kd.N_alloc | apply Kd.N_drewN | apply Kd.N_drew)); exact HO302.out) (by first | exact Kd.S_base ho0 | exact Kd.N_base ho0) hb); have n1_ := aS_ (Kd.N_lower (Kd.N_mono (ok' := fun k_ => some k_ ≠ (v301 : Value).ownBlock) (Kd.S_N (Kd.S_bound ho0)) (fun k_ hk_ => (Kd.fresh' (Kd.N_lt (by (with_reducible repeat (first | apply Kd.N_alloc | apply Kd.N_drewN | apply Kd.N_drew)); exact HO302.out)) k_ hk_.2.1))) (below_size (by repeat (first | (with_reducible first | exact HB.out | apply bA_ | apply pN_ | apply bD_) | exact HB.out)))); have n2_ := aS_ (below_step (by repeat (first | (with_reducible first | exact HB.out | apply bA_ | apply pN_ | apply bD_) | exact HB.out)) hb); clear HO302; clear HB; have HO302 := n0_; have HO307 := n1_; have HB := n2_; clear n0_ n1_ n2_; (try clear hb); (try clear hb2); (try clear hk); (try clear hi); (try clear ho0)))
 (try simp only [Act.put, List.setIfInBounds_toArray, List.set_cons_zero, List.set_cons_succ])
 go_cut [29] (fun v29 wc => ∃ (kq : Nat) (x29_3 : Bool), v29 = .bool x29_3 ∧ Aside0 (laws_FnExactAllRegions.j0 kq a0 t300 t303 t304 x29_3 = some r) ∧ Aside0 (kq ≤ k) ∧ Aside0 (Kd.N k34 34 wc w.heap.size (fun k_ => some k_ ≠ (v306 : Value).ownBlock) v301 t300) ∧ Aside0 (Kd.N k34 34 wc w.heap.size (fun k_ => some k_ ≠ (v301 : Value).ownBlock) v306 t304) ∧ Aside0 (Below w.heap.size w wc) ∧ Aside0 (Marky w v301 v306 t300 t304 wc))
 case first =>
  have H := HC4.out
  clear HC4
  replace H := Option.bind_eq_some_iff.mp H
  obtain ⟨t308, A70, H⟩ := H
  have A7 := aS_ A70
  clear A70
  by_cases c8 : t308 = true
  ·subst c8
   rw [if_pos rfl] at H
   have H' := aS_ H
   clear H
   obtain ⟨Ao9, co9, eo9⟩ := Kd.N_slice HO307.out
   subst eo9
   obtain ⟨Ao10, co10, eo10⟩ := Kd.N_slice HO302.out
   subst eo10
   go_wp2_with (first | ((with_reducible refine gate_callee (f := 6) rfl ?_); refine goesL_ (some 23) rfl rfl Try.func6 (by kernel_rfl) rfl #[.slice Ao9 t304.length co9, .slice Ao10 t300.length co10] rfl (by (try simp only [List.map_toArray, List.map_cons, List.map_nil]); first | done | rfl | (simp only [List.length_drop, List.length_take]; rfl)) ?_; (with_reducible refine (laws_eqRegionS.calls k _ _ t304 _ _ t300 true _ ?side1 ?side2 ?side3 ?side4 A7.out).mono ?_); (case side1 => repeat (first | exact (Kd.N_reads' HO307.out).2.2 | (with_reducible refine Kd.C_alloc ?_ _) | (with_reducible refine Kd.C_drewN ?_ _) | (with_reducible refine Kd.C_drew ?_))); (case side2 => exact (Kd.N_reads' HO307.out).2.1); (case side3 => repeat (first | exact (Kd.N_reads' HO302.out).2.2 | (with_reducible refine Kd.C_alloc ?_ _) | (with_reducible refine Kd.C_drewN ?_ _) | (with_reducible refine Kd.C_drew ?_))); (case side4 => exact (Kd.N_reads' HO302.out).2.1); rintro e w11 ⟨rfl, hb⟩; refine ⟨_, rfl, ?_⟩; have HX2_ := aS_ (Marky.below (by repeat (first | exact HX.out | apply Marky.drewN | apply Marky.drew)) hb); clear HX; have HX := HX2_; clear HX2_; have n0_ := aS_ (Kd.N_below (by (with_reducible repeat (first | apply Kd.N_alloc | apply Kd.N_drewN | apply Kd.N_drew)); exact HO302.out) hb); have n1_ := aS_ (Kd.N_below (by (with_reducible repeat (first | apply Kd.N_alloc | apply Kd.N_drewN | apply Kd.N_drew)); exact HO307.out) hb); have n2_ := aS_ (below_step (by repeat (first | (with_reducible first | exact HB.out | apply bA_ | apply pN_ | apply bD_) | exact HB.out)) hb); clear HO302; clear HO307; clear HB; have HO302 := n0_; have HO307 := n1_; have HB := n2_; clear n0_ n1_ n2_; (try clear hb); (try clear hb2); (try clear hk); (try clear hi)))
   go_meet
   case rel => exact ⟨_, ((t305 != t303)), (by first | rfl | (simp; done) | (simp [*]; done)), H', ⟨by first | omega | exact Nat.le_refl _⟩, ⟨by (with_reducible repeat (first | apply Kd.N_alloc | apply Kd.N_drewN | apply Kd.N_drew)); exact Kd.N_mono HO302.out (fun _ hk => hk.2)⟩, ⟨by (with_reducible repeat (first | apply Kd.N_alloc | apply Kd.N_drewN | apply Kd.N_drew)); exact HO307.out⟩, ⟨by repeat (first | (with_reducible first | exact HB.out | apply bA_ | apply pN_ | apply bD_) | exact HB.out)⟩, ⟨by repeat (first | exact HX.out | apply Marky.drewN | apply Marky.drew)⟩⟩
  ·replace c8 := Bool.eq_false_iff.mpr c8
   subst c8
   rw [if_neg (show ¬ (false = true) by decide)] at H
   have H' := aS_ H
   clear H
   obtain ⟨Ao12, co12, eo12⟩ := Kd.N_slice HO307.out
   subst eo12
   obtain ⟨Ao13, co13, eo13⟩ := Kd.N_slice HO302.out
   subst eo13
   go_wp2_with (first | ((with_reducible refine gate_callee (f := 6) rfl ?_); refine goesL_ (some 23) rfl rfl Try.func6 (by kernel_rfl) rfl #[.slice Ao12 t304.length co12, .slice Ao13 t300.length co13] rfl (by (try simp only [List.map_toArray, List.map_cons, List.map_nil]); first | done | rfl | (simp only [List.length_drop, List.length_take]; rfl)) ?_; (with_reducible refine (laws_eqRegionS.calls k _ _ t304 _ _ t300 false _ ?side1 ?side2 ?side3 ?side4 A7.out).mono ?_); (case side1 => repeat (first | exact (Kd.N_reads' HO307.out).2.2 | (with_reducible refine Kd.C_alloc ?_ _) | (with_reducible refine Kd.C_drewN ?_ _) | (with_reducible refine Kd.C_drew ?_))); (case side2 => exact (Kd.N_reads' HO307.out).2.1); (case side3 => repeat (first | exact (Kd.N_reads' HO302.out).2.2 | (with_reducible refine Kd.C_alloc ?_ _) | (with_reducible refine Kd.C_drewN ?_ _) | (with_reducible refine Kd.C_drew ?_))); (case side4 => exact (Kd.N_reads' HO302.out).2.1); rintro e w14 ⟨rfl, hb⟩; refine ⟨_, rfl, ?_⟩; have HX2_ := aS_ (Marky.below (by repeat (first | exact HX.out | apply Marky.drewN | apply Marky.drew)) hb); clear HX; have HX := HX2_; clear HX2_; have n0_ := aS_ (Kd.N_below (by (with_reducible repeat (first | apply Kd.N_alloc | apply Kd.N_drewN | apply Kd.N_drew)); exact HO302.out) hb); have n1_ := aS_ (Kd.N_below (by (with_reducible repeat (first | apply Kd.N_alloc | apply Kd.N_drewN | apply Kd.N_drew)); exact HO307.out) hb); have n2_ := aS_ (below_step (by repeat (first | (with_reducible first | exact HB.out | apply bA_ | apply pN_ | apply bD_) | exact HB.out)) hb); clear HO302; clear HO307; clear HB; have HO302 := n0_; have HO307 := n1_; have HB := n2_; clear n0_ n1_ n2_; (try clear hb); (try clear hb2); (try clear hk); (try clear hi)))
   go_meet
   case rel => exact ⟨_, (true), (by first | rfl | (simp; done) | (simp [*]; done)), H', ⟨by first | omega | exact Nat.le_refl _⟩, ⟨by (with_reducible repeat (first | apply Kd.N_alloc | apply Kd.N_drewN | apply Kd.N_drew)); exact Kd.N_mono HO302.out (fun _ hk => hk.2)⟩, ⟨by (with_reducible repeat (first | apply Kd.N_alloc | apply Kd.N_drewN | apply Kd.N_drew)); exact HO307.out⟩, ⟨by repeat (first | (with_reducible first | exact HB.out | apply bA_ | apply pN_ | apply bD_) | exact HB.out)⟩, ⟨by repeat (first | exact HX.out | apply Marky.drewN | apply Marky.drew)⟩⟩
 case rest =>
  clear HC4
  try clear p2
  try clear c3
  try clear c4
  try clear c5
  try clear c6
  try clear c8
  obtain ⟨kq, x29_3, rfl, HA, HJ3, HO_3, HO_5, HB, HX⟩ := hcut
  cases kq with
  | zero => exact absurd HA.out (by simp [laws_FnExactAllRegions.j0])
  | succ kj3 =>
   have H := HA.out
   clear HA
   simp only [laws_FnExactAllRegions.j0] at H
   by_cases c15 : x29_3 = true
   ·subst c15
    rw [if_pos rfl] at H
    obtain rfl := Option.some.inj H
    go_wp2
    go_ret
    exact ⟨by first | rfl | (simp [errW_none, errW_some] <;> rfl) | (simp [*, errW_none, errW_some] <;> rfl), by repeat (first | (with_reducible first | exact HB.out | apply bA_ | apply pN_ | apply bD_) | exact HB.out)⟩
   ·replace c15 := Bool.eq_false_iff.mpr c15
    subst c15
    rw [if_neg (show ¬ (false = true) by decide)] at H
    replace H := Option.bind_eq_some_iff.mp H
    obtain ⟨⟨t309, m304⟩, A160, H⟩ := H
    have A16 := aS_ A160
    clear A160
    have HL := aS_ (laws_markRegionS.len A16.out)
    replace H := Option.bind_eq_some_iff.mp H
    obtain ⟨t310, A170, H⟩ := H
    have A17 := aS_ A170
    clear A170
    by_cases c18 : t310 < 0
    ·rw [if_pos c18] at H
     have c18b0 : decide (t310 < 0) = true := decide_eq_true c18
     clear c18
     obtain rfl := Option.some.inj H
     obtain ⟨Ao19, co19, eo19⟩ := Kd.N_slice HO_5.out
     rw [← HL.out] at eo19
     subst eo19
     go_wp2_with (first | ((with_reducible refine gate_callee (f := 7) rfl ?_); refine goesL_ (some 32) rfl rfl Try.func7 (by kernel_rfl) rfl #[.slice Ao19 m304.length co19, .int .i64 1] rfl (by (try simp only [List.map_toArray, List.map_cons, List.map_nil]); first | done | rfl | (simp only [List.length_drop, List.length_take]; rfl)) ?_; obtain ⟨WX, hxN, hxw, hxb, hxs⟩ := HX.out; refine (laws_markRegionS.calls kj3 _ t304 1 t309 m304 WX _ (by repeat (first | (with_reducible first | exact hxb | apply bA_ | apply pN_ | apply bD_) | exact hxb)) (by (with_reducible repeat (first | apply Kd.S_alloc | apply Kd.S_drewN | apply Kd.S_drew)); exact hxs) A16.out).mono ?_; rintro e w20 ⟨rfl, hs2, hb⟩; refine ⟨_, rfl, ?_⟩; have n0_ := aS_ (Kd.N_mono (ok' := fun k_ => some k_ ≠ (.slice Ao19 m304.length co19 : Value).ownBlock) (Kd.N_elder' hxN (Kd.S_base hs2) hb) (fun _ h_ => h_.2)); have n1_ := aS_ (Kd.N_lower (Kd.N_mono (ok' := fun k_ => some k_ ≠ (v301 : Value).ownBlock) (Kd.S_N (Kd.S_bound hs2)) (fun k_ hk_ => (Kd.fresh' (Kd.N_lt hxN) k_ hk_.2.1))) (below_size hxw)); have n2_ := aS_ (below_step hxw hb); clear HO_3; clear HO_5; clear HB; have HO_3 := n0_; have HO_5 := n1_; have HB := n2_; clear n0_ n1_ n2_ hxN hxw hxb hxs hs2 hb) | ((with_reducible refine gate_callee (f := 8) rfl ?_); refine goesL_ (some 35) rfl rfl Try.func8 (by kernel_rfl) rfl #[.slice Ao19 m304.length co19, .int .i64 1] rfl (by (try simp only [List.map_toArray, List.map_cons, List.map_nil]); first | done | rfl | (simp only [List.length_drop, List.length_take]; rfl)) ?_; (with_reducible refine (laws_heldRegionS.calls kj3 _ _ m304 1 t310 _ ?side1 ?side2 A17.out).mono ?_); (case side1 => repeat (first | exact (Kd.N_reads' HO_5.out).2.2 | (with_reducible refine Kd.C_alloc ?_ _) | (with_reducible refine Kd.C_drewN ?_ _) | (with_reducible refine Kd.C_drew ?_))); (case side2 => exact (Kd.N_reads' HO_5.out).2.1); rintro e w' ⟨rfl, ⟨nd, rfl⟩⟩; refine ⟨_, rfl, ?_⟩))
     go_ret
     exact ⟨by first | rfl | (simp [errW_none, errW_some] <;> rfl) | (simp [*, errW_none, errW_some] <;> rfl), by repeat (first | (with_reducible first | exact HB.out | apply bA_ | apply pN_ | apply bD_) | exact HB.out)⟩
    ·rw [if_neg c18] at H
     have c18b0 : decide (t310 < 0) = false := decide_eq_false c18
     clear c18
     by_cases c21 : t310 = t309
     ·rw [if_pos c21] at H
      have c21b0 : (t310 == t309) = true := beq_iff_eq.mpr c21
      have c21b1 : (t310 != t309) = false := bne_eq_false_iff_eq.mpr c21
      clear c21
      replace H := Option.bind_eq_some_iff.mp H
      obtain ⟨⟨t311, t312⟩, A220, H⟩ := H
      have A22 := aS_ A220
      clear A220
      have HC23 := aS_ H
      clear H
      obtain ⟨Ao24, co24, eo24⟩ := Kd.N_slice HO_5.out
      rw [← HL.out] at eo24
      subst eo24
      go_upto_region 14 with (first | ((with_reducible refine gate_callee (f := 7) rfl ?_); refine goesL_ (some 32) rfl rfl Try.func7 (by kernel_rfl) rfl #[.slice Ao24 m304.length co24, .int .i64 1] rfl (by (try simp only [List.map_toArray, List.map_cons, List.map_nil]); first | done | rfl | (simp only [List.length_drop, List.length_take]; rfl)) ?_; obtain ⟨WX, hxN, hxw, hxb, hxs⟩ := HX.out; refine (laws_markRegionS.calls kj3 _ t304 1 t309 m304 WX _ (by repeat (first | (with_reducible first | exact hxb | apply bA_ | apply pN_ | apply bD_) | exact hxb)) (by (with_reducible repeat (first | apply Kd.S_alloc | apply Kd.S_drewN | apply Kd.S_drew)); exact hxs) A16.out).mono ?_; rintro e w25 ⟨rfl, hs2, hb⟩; refine ⟨_, rfl, ?_⟩; have n0_ := aS_ (Kd.N_mono (ok' := fun k_ => some k_ ≠ (.slice Ao24 m304.length co24 : Value).ownBlock) (Kd.N_elder' hxN (Kd.S_base hs2) hb) (fun _ h_ => h_.2)); have n1_ := aS_ (Kd.N_lower (Kd.N_mono (ok' := fun k_ => some k_ ≠ (v301 : Value).ownBlock) (Kd.S_N (Kd.S_bound hs2)) (fun k_ hk_ => (Kd.fresh' (Kd.N_lt hxN) k_ hk_.2.1))) (below_size hxw)); have n2_ := aS_ (below_step hxw hb); clear HO_3; clear HO_5; clear HB; have HO_3 := n0_; have HO_5 := n1_; have HB := n2_; clear n0_ n1_ n2_ hxN hxw hxb hxs hs2 hb) | ((with_reducible refine gate_callee (f := 8) rfl ?_); refine goesL_ (some 35) rfl rfl Try.func8 (by kernel_rfl) rfl #[.slice Ao24 m304.length co24, .int .i64 1] rfl (by (try simp only [List.map_toArray, List.map_cons, List.map_nil]); first | done | rfl | (simp only [List.length_drop, List.length_take]; rfl)) ?_; (with_reducible refine (laws_heldRegionS.calls kj3 _ _ m304 1 t310 _ ?side1 ?side2 A17.out).mono ?_); (case side1 => repeat (first | exact (Kd.N_reads' HO_5.out).2.2 | (with_reducible refine Kd.C_alloc ?_ _) | (with_reducible refine Kd.C_drewN ?_ _) | (with_reducible refine Kd.C_drew ?_))); (case side2 => exact (Kd.N_reads' HO_5.out).2.1); rintro e w' ⟨rfl, ⟨nd, rfl⟩⟩; refine ⟨_, rfl, ?_⟩) | ((with_reducible refine gate_callee (f := 5) rfl ?_); refine goesL_ (some 43) rfl rfl Try.func5 (by kernel_rfl) rfl #[.int .i64 a0] rfl (by (try simp only [List.map_toArray, List.map_cons, List.map_nil]); first | done | rfl | (simp only [List.length_drop, List.length_take]; rfl)) ?_; (with_reducible refine (impl_AllRegions.calls kj3 a0 t311 t312 _ A22.out).mono ?_); rintro e w26 ⟨v313, rfl, ho0, hb⟩; refine ⟨_, rfl, ?_⟩; have n0_ := aS_ (Kd.N_elder' (by (with_reducible repeat (first | apply Kd.N_alloc | apply Kd.N_drewN | apply Kd.N_drew)); exact HO_3.out) (by first | exact Kd.S_base ho0 | exact Kd.N_base ho0) hb); have n1_ := aS_ (Kd.N_elder' (by (with_reducible repeat (first | apply Kd.N_alloc | apply Kd.N_drewN | apply Kd.N_drew)); exact HO_5.out) (by first | exact Kd.S_base ho0 | exact Kd.N_base ho0) hb); have n2_ := aS_ (Kd.N_lower (Kd.N_mono (ok' := fun k_ => some k_ ≠ (v301 : Value).ownBlock ∧ some k_ ≠ (.slice Ao24 m304.length co24 : Value).ownBlock) (Kd.S_N (Kd.S_bound ho0)) (fun k_ hk_ => ⟨(Kd.fresh' (Kd.N_lt (by (with_reducible repeat (first | apply Kd.N_alloc | apply Kd.N_drewN | apply Kd.N_drew)); exact HO_3.out)) k_ hk_.2.1), (Kd.fresh' (Kd.N_lt (by (with_reducible repeat (first | apply Kd.N_alloc | apply Kd.N_drewN | apply Kd.N_drew)); exact HO_5.out)) k_ hk_.2.1)⟩)) (below_size (by repeat (first | (with_reducible first | exact HB.out | apply bA_ | apply pN_ | apply bD_) | exact HB.out)))); have n3_ := aS_ (below_step (by repeat (first | (with_reducible first | exact HB.out | apply bA_ | apply pN_ | apply bD_) | exact HB.out)) hb); clear HO_3; clear HO_5; clear HB; have HO_3 := n0_; have HO_5 := n1_; have HO314 := n2_; have HB := n3_; clear n0_ n1_ n2_ n3_; (try clear hb); (try clear hb2); (try clear hk); (try clear hi); (try clear ho0)))
      (try simp only [Act.put, List.setIfInBounds_toArray, List.set_cons_zero, List.set_cons_succ])
      go_cut [54] (fun v54 wc => ∃ (kq : Nat) (x54_22 : Bool), v54 = .bool x54_22 ∧ Aside0 (laws_FnExactAllRegions.j1 kq m304 t309 x54_22 = some r) ∧ Aside0 (kq ≤ kj3) ∧ Aside0 (Kd.N k34 34 wc w.heap.size (fun _ => True) (.slice Ao24 m304.length co24) m304) ∧ Aside0 (Below w.heap.size w wc))
      case first =>
       have H := HC23.out
       clear HC23
       replace H := Option.bind_eq_some_iff.mp H
       obtain ⟨t315, A270, H⟩ := H
       have A27 := aS_ A270
       clear A270
       by_cases c28 : t315 = true
       ·subst c28
        rw [if_pos rfl] at H
        have H' := aS_ H
        clear H
        obtain ⟨Ao29, co29, eo29⟩ := Kd.N_slice HO314.out
        subst eo29
        obtain ⟨Ao30, co30, eo30⟩ := Kd.N_slice HO_3.out
        subst eo30
        go_wp2_with (first | ((with_reducible refine gate_callee (f := 6) rfl ?_); refine goesL_ (some 48) rfl rfl Try.func6 (by kernel_rfl) rfl #[.slice Ao29 t311.length co29, .slice Ao30 t300.length co30] rfl (by (try simp only [List.map_toArray, List.map_cons, List.map_nil]); first | done | rfl | (simp only [List.length_drop, List.length_take]; rfl)) ?_; (with_reducible refine (laws_eqRegionS.calls kj3 _ _ t311 _ _ t300 true _ ?side1 ?side2 ?side3 ?side4 A27.out).mono ?_); (case side1 => repeat (first | exact (Kd.N_reads' HO314.out).2.2 | (with_reducible refine Kd.C_alloc ?_ _) | (with_reducible refine Kd.C_drewN ?_ _) | (with_reducible refine Kd.C_drew ?_))); (case side2 => exact (Kd.N_reads' HO314.out).2.1); (case side3 => repeat (first | exact (Kd.N_reads' HO_3.out).2.2 | (with_reducible refine Kd.C_alloc ?_ _) | (with_reducible refine Kd.C_drewN ?_ _) | (with_reducible refine Kd.C_drew ?_))); (case side4 => exact (Kd.N_reads' HO_3.out).2.1); rintro e w31 ⟨rfl, hb⟩; refine ⟨_, rfl, ?_⟩; have n0_ := aS_ (Kd.N_below (by (with_reducible repeat (first | apply Kd.N_alloc | apply Kd.N_drewN | apply Kd.N_drew)); exact HO_3.out) hb); have n1_ := aS_ (Kd.N_below (by (with_reducible repeat (first | apply Kd.N_alloc | apply Kd.N_drewN | apply Kd.N_drew)); exact HO_5.out) hb); have n2_ := aS_ (Kd.N_below (by (with_reducible repeat (first | apply Kd.N_alloc | apply Kd.N_drewN | apply Kd.N_drew)); exact HO314.out) hb); have n3_ := aS_ (below_step (by repeat (first | (with_reducible first | exact HB.out | apply bA_ | apply pN_ | apply bD_) | exact HB.out)) hb); clear HO_3; clear HO_5; clear HO314; clear HB; have HO_3 := n0_; have HO_5 := n1_; have HO314 := n2_; have HB := n3_; clear n0_ n1_ n2_ n3_; (try clear hb); (try clear hb2); (try clear hk); (try clear hi)))
        go_meet
        case rel => exact ⟨_, ((t312 != t303)), (by first | rfl | (simp; done) | (simp [*]; done)), H', ⟨by have := HJ3.out; first | omega | exact Nat.le_refl _⟩, ⟨by (with_reducible repeat (first | apply Kd.N_alloc | apply Kd.N_drewN | apply Kd.N_drew)); exact Kd.N_mono HO_5.out (fun _ hk => trivial)⟩, ⟨by repeat (first | (with_reducible first | exact HB.out | apply bA_ | apply pN_ | apply bD_) | exact HB.out)⟩⟩
       ·replace c28 := Bool.eq_false_iff.mpr c28
        subst c28
        rw [if_neg (show ¬ (false = true) by decide)] at H
        have H' := aS_ H
        clear H
        obtain ⟨Ao32, co32, eo32⟩ := Kd.N_slice HO314.out
        subst eo32
        obtain ⟨Ao33, co33, eo33⟩ := Kd.N_slice HO_3.out
        subst eo33
        go_wp2_with (first | ((with_reducible refine gate_callee (f := 6) rfl ?_); refine goesL_ (some 48) rfl rfl Try.func6 (by kernel_rfl) rfl #[.slice Ao32 t311.length co32, .slice Ao33 t300.length co33] rfl (by (try simp only [List.map_toArray, List.map_cons, List.map_nil]); first | done | rfl | (simp only [List.length_drop, List.length_take]; rfl)) ?_; (with_reducible refine (laws_eqRegionS.calls kj3 _ _ t311 _ _ t300 false _ ?side1 ?side2 ?side3 ?side4 A27.out).mono ?_); (case side1 => repeat (first | exact (Kd.N_reads' HO314.out).2.2 | (with_reducible refine Kd.C_alloc ?_ _) | (with_reducible refine Kd.C_drewN ?_ _) | (with_reducible refine Kd.C_drew ?_))); (case side2 => exact (Kd.N_reads' HO314.out).2.1); (case side3 => repeat (first | exact (Kd.N_reads' HO_3.out).2.2 | (with_reducible refine Kd.C_alloc ?_ _) | (with_reducible refine Kd.C_drewN ?_ _) | (with_reducible refine Kd.C_drew ?_))); (case side4 => exact (Kd.N_reads' HO_3.out).2.1); rintro e w34 ⟨rfl, hb⟩; refine ⟨_, rfl, ?_⟩; have n0_ := aS_ (Kd.N_below (by (with_reducible repeat (first | apply Kd.N_alloc | apply Kd.N_drewN | apply Kd.N_drew)); exact HO_3.out) hb); have n1_ := aS_ (Kd.N_below (by (with_reducible repeat (first | apply Kd.N_alloc | apply Kd.N_drewN | apply Kd.N_drew)); exact HO_5.out) hb); have n2_ := aS_ (Kd.N_below (by (with_reducible repeat (first | apply Kd.N_alloc | apply Kd.N_drewN | apply Kd.N_drew)); exact HO314.out) hb); have n3_ := aS_ (below_step (by repeat (first | (with_reducible first | exact HB.out | apply bA_ | apply pN_ | apply bD_) | exact HB.out)) hb); clear HO_3; clear HO_5; clear HO314; clear HB; have HO_3 := n0_; have HO_5 := n1_; have HO314 := n2_; have HB := n3_; clear n0_ n1_ n2_ n3_; (try clear hb); (try clear hb2); (try clear hk); (try clear hi)))
        go_meet
        case rel => exact ⟨_, (true), (by first | rfl | (simp; done) | (simp [*]; done)), H', ⟨by have := HJ3.out; first | omega | exact Nat.le_refl _⟩, ⟨by (with_reducible repeat (first | apply Kd.N_alloc | apply Kd.N_drewN | apply Kd.N_drew)); exact Kd.N_mono HO_5.out (fun _ hk => trivial)⟩, ⟨by repeat (first | (with_reducible first | exact HB.out | apply bA_ | apply pN_ | apply bD_) | exact HB.out)⟩⟩
      case rest =>
       clear HC23
       try clear c1
       try clear c2
       try clear p2
       try clear c3
       try clear c4
       try clear c5
       try clear c6
       try clear c7
       try clear c8
       try clear c15
       try clear c18
       try clear c18b0
       try clear c21
       try clear c21b0
       try clear c21b1
       try clear c28
       try clear p2
       obtain ⟨kq, x54_22, rfl, HA, HJ22, HO_5, HB⟩ := hcut
       cases kq with
       | zero => exact absurd HA.out (by simp [laws_FnExactAllRegions.j1])
       | succ kj22 =>
        have H := HA.out
        clear HA
        simp only [laws_FnExactAllRegions.j1] at H
        by_cases c35 : x54_22 = true
        ·subst c35
         rw [if_pos rfl] at H
         obtain rfl := Option.some.inj H
         go_wp2
         go_ret
         exact ⟨by first | rfl | (simp [errW_none, errW_some] <;> rfl) | (simp [*, errW_none, errW_some] <;> rfl), by repeat (first | (with_reducible first | exact HB.out | apply bA_ | apply pN_ | apply bD_) | exact HB.out)⟩
        ·replace c35 := Bool.eq_false_iff.mpr c35
         subst c35
         rw [if_neg (show ¬ (false = true) by decide)] at H
         replace H := Option.bind_eq_some_iff.mp H
         obtain ⟨t316, A360, H⟩ := H
         have A36 := aS_ A360
         clear A360
         by_cases c37 : t316 < 0
         ·rw [if_pos c37] at H
          have c37b0 : decide (t316 < 0) = true := decide_eq_true c37
          clear c37
          obtain rfl := Option.some.inj H
          go_wp2_with (first | ((with_reducible refine gate_callee (f := 8) rfl ?_); refine goesL_ (some 57) rfl rfl Try.func8 (by kernel_rfl) rfl #[.slice Ao24 m304.length co24, .int .i64 1] rfl (by (try simp only [List.map_toArray, List.map_cons, List.map_nil]); first | done | rfl | (simp only [List.length_drop, List.length_take]; rfl)) ?_; (with_reducible refine (laws_heldRegionS.calls kj22 _ _ m304 1 t316 _ ?side1 ?side2 A36.out).mono ?_); (case side1 => repeat (first | exact (Kd.N_reads' HO_5.out).2.2 | (with_reducible refine Kd.C_alloc ?_ _) | (with_reducible refine Kd.C_drewN ?_ _) | (with_reducible refine Kd.C_drew ?_))); (case side2 => exact (Kd.N_reads' HO_5.out).2.1); rintro e w' ⟨rfl, ⟨nd, rfl⟩⟩; refine ⟨_, rfl, ?_⟩))
          go_ret
          exact ⟨by first | rfl | (simp [errW_none, errW_some] <;> rfl) | (simp [*, errW_none, errW_some] <;> rfl), by repeat (first | (with_reducible first | exact HB.out | apply bA_ | apply pN_ | apply bD_) | exact HB.out)⟩
         ·rw [if_neg c37] at H
          have c37b0 : decide (t316 < 0) = false := decide_eq_false c37
          clear c37
          by_cases c38 : t316 = t309
          ·rw [if_pos c38] at H
           have c38b0 : (t316 == t309) = true := beq_iff_eq.mpr c38
           have c38b1 : (t316 != t309) = false := bne_eq_false_iff_eq.mpr c38
           clear c38
           obtain rfl := Option.some.inj H
           go_wp2_with (first | ((with_reducible refine gate_callee (f := 8) rfl ?_); refine goesL_ (some 57) rfl rfl Try.func8 (by kernel_rfl) rfl #[.slice Ao24 m304.length co24, .int .i64 1] rfl (by (try simp only [List.map_toArray, List.map_cons, List.map_nil]); first | done | rfl | (simp only [List.length_drop, List.length_take]; rfl)) ?_; (with_reducible refine (laws_heldRegionS.calls kj22 _ _ m304 1 t316 _ ?side1 ?side2 A36.out).mono ?_); (case side1 => repeat (first | exact (Kd.N_reads' HO_5.out).2.2 | (with_reducible refine Kd.C_alloc ?_ _) | (with_reducible refine Kd.C_drewN ?_ _) | (with_reducible refine Kd.C_drew ?_))); (case side2 => exact (Kd.N_reads' HO_5.out).2.1); rintro e w' ⟨rfl, ⟨nd, rfl⟩⟩; refine ⟨_, rfl, ?_⟩))
           go_ret
           exact ⟨by first | rfl | (simp [errW_none, errW_some] <;> rfl) | (simp [*, errW_none, errW_some] <;> rfl), by repeat (first | (with_reducible first | exact HB.out | apply bA_ | apply pN_ | apply bD_) | exact HB.out)⟩
          ·rw [if_neg c38] at H
           have c38b0 : (t316 == t309) = false := beq_eq_false_iff_ne.mpr c38
           have c38b1 : (t316 != t309) = true := bne_iff_ne.mpr c38
           obtain rfl := Option.some.inj H
           go_wp2_with (first | ((with_reducible refine gate_callee (f := 8) rfl ?_); refine goesL_ (some 57) rfl rfl Try.func8 (by kernel_rfl) rfl #[.slice Ao24 m304.length co24, .int .i64 1] rfl (by (try simp only [List.map_toArray, List.map_cons, List.map_nil]); first | done | rfl | (simp only [List.length_drop, List.length_take]; rfl)) ?_; (with_reducible refine (laws_heldRegionS.calls kj22 _ _ m304 1 t316 _ ?side1 ?side2 A36.out).mono ?_); (case side1 => repeat (first | exact (Kd.N_reads' HO_5.out).2.2 | (with_reducible refine Kd.C_alloc ?_ _) | (with_reducible refine Kd.C_drewN ?_ _) | (with_reducible refine Kd.C_drew ?_))); (case side2 => exact (Kd.N_reads' HO_5.out).2.1); rintro e w' ⟨rfl, ⟨nd, rfl⟩⟩; refine ⟨_, rfl, ?_⟩))
           go_ret
           exact ⟨by first | rfl | (simp [errW_none, errW_some] <;> rfl) | (simp [*, errW_none, errW_some] <;> rfl), by repeat (first | (with_reducible first | exact HB.out | apply bA_ | apply pN_ | apply bD_) | exact HB.out)⟩
     ·rw [if_neg c21] at H
      have c21b0 : (t310 == t309) = false := beq_eq_false_iff_ne.mpr c21
      have c21b1 : (t310 != t309) = true := bne_iff_ne.mpr c21
      obtain rfl := Option.some.inj H
      obtain ⟨Ao39, co39, eo39⟩ := Kd.N_slice HO_5.out
      rw [← HL.out] at eo39
      subst eo39
      go_wp2_with (first | ((with_reducible refine gate_callee (f := 7) rfl ?_); refine goesL_ (some 32) rfl rfl Try.func7 (by kernel_rfl) rfl #[.slice Ao39 m304.length co39, .int .i64 1] rfl (by (try simp only [List.map_toArray, List.map_cons, List.map_nil]); first | done | rfl | (simp only [List.length_drop, List.length_take]; rfl)) ?_; obtain ⟨WX, hxN, hxw, hxb, hxs⟩ := HX.out; refine (laws_markRegionS.calls kj3 _ t304 1 t309 m304 WX _ (by repeat (first | (with_reducible first | exact hxb | apply bA_ | apply pN_ | apply bD_) | exact hxb)) (by (with_reducible repeat (first | apply Kd.S_alloc | apply Kd.S_drewN | apply Kd.S_drew)); exact hxs) A16.out).mono ?_; rintro e w40 ⟨rfl, hs2, hb⟩; refine ⟨_, rfl, ?_⟩; have n0_ := aS_ (Kd.N_mono (ok' := fun k_ => some k_ ≠ (.slice Ao39 m304.length co39 : Value).ownBlock) (Kd.N_elder' hxN (Kd.S_base hs2) hb) (fun _ h_ => h_.2)); have n1_ := aS_ (Kd.N_lower (Kd.N_mono (ok' := fun k_ => some k_ ≠ (v301 : Value).ownBlock) (Kd.S_N (Kd.S_bound hs2)) (fun k_ hk_ => (Kd.fresh' (Kd.N_lt hxN) k_ hk_.2.1))) (below_size hxw)); have n2_ := aS_ (below_step hxw hb); clear HO_3; clear HO_5; clear HB; have HO_3 := n0_; have HO_5 := n1_; have HB := n2_; clear n0_ n1_ n2_ hxN hxw hxb hxs hs2 hb) | ((with_reducible refine gate_callee (f := 8) rfl ?_); refine goesL_ (some 35) rfl rfl Try.func8 (by kernel_rfl) rfl #[.slice Ao39 m304.length co39, .int .i64 1] rfl (by (try simp only [List.map_toArray, List.map_cons, List.map_nil]); first | done | rfl | (simp only [List.length_drop, List.length_take]; rfl)) ?_; (with_reducible refine (laws_heldRegionS.calls kj3 _ _ m304 1 t310 _ ?side1 ?side2 A17.out).mono ?_); (case side1 => repeat (first | exact (Kd.N_reads' HO_5.out).2.2 | (with_reducible refine Kd.C_alloc ?_ _) | (with_reducible refine Kd.C_drewN ?_ _) | (with_reducible refine Kd.C_drew ?_))); (case side2 => exact (Kd.N_reads' HO_5.out).2.1); rintro e w' ⟨rfl, ⟨nd, rfl⟩⟩; refine ⟨_, rfl, ?_⟩))
      go_ret
      exact ⟨by first | rfl | (simp [errW_none, errW_some] <;> rfl) | (simp [*, errW_none, errW_some] <;> rfl), by repeat (first | (with_reducible first | exact HB.out | apply bA_ | apply pN_ | apply bD_) | exact HB.out)⟩

/-- THE ONE PURE STATEMENT of laws_FnExactAllRegions: yours. -/
def laws_FnExactAllRegions.Pure : Prop := ∀ (a0 : Int), (Lit.int .i64 a0).wf = true → ∃ k, laws_FnExactAllRegions.f k a0 = some true
theorem laws_FnExactAllRegions.walk (P : laws_FnExactAllRegions.Pure) (a0 : Int) (w : World) (w0 : (Lit.int .i64 a0).wf = true) :
  Calls Try.prog 3 #[.int .i64 a0] w fun e w' => e = .returned (.bool true) ∧ Below w.heap.size w w' := by
 obtain ⟨k, h⟩ := P a0 w0
 refine (laws_FnExactAllRegions.calls k a0 true w h).mono ?_
 rintro e w' ⟨rfl, hd⟩
 exact ⟨rfl, hd⟩
end Go.Proofs.Ytbfbgpopbcodcaa.G
namespace Go.Proofs.Ytbfbgpopbcodcaa.G
open Go.RowKit Go.Proofs.YtbfbgpopbcodcaaW.PrintWords Go.Proofs.YtbfbgpopbcodcaaW.PrintLast Go.Proofs.YtbfbgpopbcodcaaW.PrintMore
set_option linter.unusedVariables false
set_option linter.unusedSimpArgs false
theorem wrap_id {x : Int} (h1 : -9223372036854775808 ≤ x) (h2 : x ≤ 9223372036854775807) : wrap64 x = x := by unfold wrap64; omega
theorem wrap_next {i n : Nat} (h : i < n) (hn : n ≤ 4611686018427387904) : wrap64 ((i : Int) + 1) = ((i + 1 : Nat) : Int) := by rw [wrap_id (by omega) (by omega)]; rfl
theorem succ_of {d k : Nat} (h : d < k) : ∃ m, k = m + 1 := ⟨k - 1, by omega⟩
theorem rd_nat (l : List Int) (i : Nat) : rd l (i : Int) = l.getD i 0 := by unfold rd; rw [Int.toNat_natCast]
theorem take_succ_getD {l : List Int} {i : Nat} (h : i < l.length) : l.take (i + 1) = l.take i ++ [l.getD i 0] := by
  rw [List.take_succ_eq_append_getElem h, List.getD_eq_getElem?_getD, List.getElem?_eq_getElem h]; rfl
theorem drop_getD {l : List Int} {i : Nat} (h : i < l.length) : l.drop i = l.getD i 0 :: l.drop (i + 1) := by
  rw [List.drop_eq_getElem_cons h, List.getD_eq_getElem?_getD, List.getElem?_eq_getElem h]; rfl
theorem Ev.of_all {α : Type} {g : Nat → Option α} {r : α} (K : Nat) (h : ∀ k, K < k → g k = some r) : Ev g r := ⟨K + 1, fun k hk => h k (by omega)⟩
/-- A loop that counts up: its state at each count, what is left behind the last one. -/
theorem Ev.up {σ ρ : Type} (n : Nat) (S : Nat → σ) (L : Nat → σ → Int → Option ρ) (r : ρ)
    (hstep : ∀ i, i < n → Ev (fun k => L k (S (i + 1)) ((i + 1 : Nat) : Int)) r → Ev (fun k => L k (S i) (i : Int)) r)
    (hend : Ev (fun k => L k (S n) (n : Int)) r) : ∀ m, m ≤ n → Ev (fun k => L k (S m) (m : Int)) r := by
  intro m hm
  have key : ∀ d m, m + d = n → Ev (fun k => L k (S m) (m : Int)) r := by
    intro d
    induction d with
    | zero => intro m hd; obtain rfl : m = n := by omega
              exact hend
    | succ d ih => intro m hd; exact hstep m (by omega) (ih (m + 1) (by omega))
  exact key (n - m) m (by omega)
theorem Ev.up0 {σ ρ : Type} (n : Nat) (S : Nat → σ) (L : Nat → σ → Int → Option ρ) (r : ρ)
    (hstep : ∀ i, i < n → Ev (fun k => L k (S (i + 1)) ((i + 1 : Nat) : Int)) r → Ev (fun k => L k (S i) (i : Int)) r)
    (hend : Ev (fun k => L k (S n) (n : Int)) r) : Ev (fun k => L k (S 0) 0) r := Ev.up n S L r hstep hend 0 (Nat.zero_le _)
/-- A round that needs no rounds of others. -/
theorem Ev.one {α : Type} {g f : Nat → Option α} {r : α} (k : Ev f r) (h : ∀ k, g (k + 1) = f k) : Ev g r := Ev.step h k
theorem Ev.end_ {α : Type} {g : Nat → Option α} {r : α} (h : ∀ k, g (k + 1) = some r) : Ev g r := Ev.step h (Ev.now r)
theorem eqIntS_l0 (a b : List Int) (hl : a.length = b.length) (hn : a.length ≤ 4611686018427387904) : ∀ (d k i : Nat), i + d = a.length → d < k → laws_eqIntS.l0 k a b i = some (decide (a.drop i = b.drop i)) := by
  intro d
  induction d with
  | zero =>
    intro k i hd hk
    obtain ⟨k, rfl⟩ := succ_of hk
    rw [laws_eqIntS.l0, if_neg (by omega), List.drop_of_length_le (by omega), List.drop_of_length_le (by omega)]; simp
  | succ d ih =>
    intro k i hd hk
    obtain ⟨k, rfl⟩ := succ_of hk
    rw [laws_eqIntS.l0, if_pos (by omega), if_pos (by omega), if_pos (by omega), wrap_next (n := a.length) (by omega) hn, rd_nat, rd_nat, ih k (i + 1) (by omega) (by omega), drop_getD (l := a) (i := i) (by omega), drop_getD (l := b) (i := i) (by omega)]
    by_cases e : a.getD i 0 = b.getD i 0
    · rw [if_pos e, e]; simp
    · rw [if_neg e]; simp only [List.cons.injEq, e, false_and, decide_false]
theorem eqIntS_ev (a b : List Int) (hn : a.length ≤ 4611686018427387904) : Ev (fun k => laws_eqIntS.f k a b) (decide (a = b)) := by
  refine Ev.of_all a.length fun k hk => ?_
  unfold laws_eqIntS.f
  by_cases hl : a.length = b.length
  · rw [if_pos (by omega), show (0 : Int) = ((0 : Nat) : Int) from rfl, eqIntS_l0 a b hl hn a.length k 0 (by omega) hk]; rfl
  · rw [if_neg (by omega)]
    have : a ≠ b := fun e => hl (by rw [e])
    simp [this]
/-- Numbers that rise from m on. -/
def rise (n : Nat) (m : Int) : List Int := (List.range n).map fun (j : Nat) => m + j
theorem getD_rise (n : Nat) (m : Int) (j : Nat) (h : j < n) : (rise n m).getD j 0 = m + j := by
  simp [rise, List.getD_eq_getElem?_getD, List.getElem?_map, List.getElem?_range h]
theorem markIntS_l0 (n : Nat) (hn : n ≤ 1152921504606846976) (m : Int) (hm : 0 ≤ m ∧ m ≤ 1152921504606846976) : ∀ (d k i : Nat) (a : List Int), a.length = n → i + d = n → d < k → a.take i = rise i m → laws_markIntS.l0 k a (m + i) i = some (m + n, rise n m) := by
  intro d
  induction d with
  | zero =>
    intro k i a hl hd hk ht
    obtain ⟨k, rfl⟩ := succ_of hk
    obtain rfl : i = n := by omega
    rw [List.take_of_length_le (by omega)] at ht
    rw [laws_markIntS.l0, if_neg (by omega), ht]
  | succ d ih =>
    intro k i a hl hd hk ht
    obtain ⟨k, rfl⟩ := succ_of hk
    rw [laws_markIntS.l0, if_pos (by omega), if_pos (by omega), wrap_next (n := n) (by omega) (by omega), Int.toNat_natCast, wrap_id (x := m + i + 1) (by omega) (by omega)]
    have := ih k (i + 1) (a.set i (m + i)) (by simpa using hl) (by omega) (by omega) (by
      apply List.ext_getElem
      · simp [rise]; omega
      · intro j h1 h2
        simp only [List.length_take, List.length_set] at h1
        simp only [List.getElem_take, List.getElem_set, rise, List.getElem_map, List.getElem_range]
        by_cases e : i = j
        · subst e; simp
        · have hj : j < i := by omega
          have : (a.take i)[j]? = (rise i m)[j]? := by rw [ht]
          rw [List.getElem?_eq_getElem (by simp; omega), List.getElem?_eq_getElem (by simp [rise]; omega)] at this
          simp [rise] at this
          simp [e, this])
    rw [show m + (i : Int) + 1 = m + ((i + 1 : Nat) : Int) by push_cast; omega]
    exact this
theorem markIntS_ev (a : List Int) (m : Int) (hm : 0 ≤ m ∧ m ≤ 1152921504606846976) (hn : a.length ≤ 1152921504606846976) : Ev (fun k => laws_markIntS.f k a m) (m + a.length, rise a.length m) := by
  refine Ev.of_all a.length fun k hk => ?_
  unfold laws_markIntS.f
  have := markIntS_l0 a.length hn m hm a.length k 0 a rfl (by omega) hk (by simp [rise])
  simpa using this
theorem heldIntS_l0 (n : Nat) (hn : n ≤ 1152921504606846976) (m : Int) (hm : 0 ≤ m ∧ m ≤ 1152921504606846976) : ∀ (d k i : Nat), i + d = n → d < k → laws_heldIntS.l0 k (rise n m) (m + i) i = some (m + n) := by
  intro d
  have hl : (rise n m).length = n := by simp [rise]
  induction d with
  | zero =>
    intro k i hd hk
    obtain ⟨k, rfl⟩ := succ_of hk
    obtain rfl : i = n := by omega
    rw [laws_heldIntS.l0, if_neg (by omega)]
  | succ d ih =>
    intro k i hd hk
    obtain ⟨k, rfl⟩ := succ_of hk
    rw [laws_heldIntS.l0, if_pos (by omega), if_pos (by omega), rd_nat, getD_rise _ _ _ (by omega), if_pos rfl, wrap_next (n := n) (by omega) (by omega), wrap_id (x := m + i + 1) (by omega) (by omega)]
    rw [show m + (i : Int) + 1 = m + ((i + 1 : Nat) : Int) by push_cast; omega]
    exact ih k (i + 1) (by omega) (by omega)
theorem heldIntS_ev (n : Nat) (m : Int) (hm : 0 ≤ m ∧ m ≤ 1152921504606846976) (hn : n ≤ 1152921504606846976) : Ev (fun k => laws_heldIntS.f k (rise n m) m) (m + n) := by
  refine Ev.of_all n fun k hk => ?_
  unfold laws_heldIntS.f
  have := heldIntS_l0 n hn m hm n k 0 (by omega) hk
  simpa using this
end Go.Proofs.Ytbfbgpopbcodcaa.G
namespace Go.Proofs.Ytbfbgpopbcodcaa.G
open Go.RowKit Go.Proofs.YtbfbgpopbcodcaaW.PrintWords Go.Proofs.YtbfbgpopbcodcaaW.PrintLast Go.Proofs.YtbfbgpopbcodcaaW.PrintMore
set_option linter.unusedVariables false
set_option linter.unusedSimpArgs false
set_option linter.unusedSectionVars false
def ixF (l : List Int) (a : Int) : Nat → Nat → Int
  | 0, _ => -1
  | d + 1, i => if l.getD i 0 = a then (i : Int) else ixF l a d (i + 1)
theorem ixF_spec (l : List Int) (a : Int) : ∀ (d i : Nat), i + d = l.length → (ixF l a d i = -1 ∧ a ∉ l.drop i) ∨ (∃ j : Nat, ixF l a d i = j ∧ j < l.length ∧ l.getD j 0 = a ∧ a ∈ l.drop i)
  | 0, i, h => by left; rw [List.drop_of_length_le (by omega)]; exact ⟨rfl, by simp⟩
  | d + 1, i, h => by
    rw [ixF, drop_getD (by omega)]
    by_cases c : l.getD i 0 = a
    · right; rw [if_pos c]; exact ⟨i, rfl, by omega, c, by rw [c]; simp⟩
    · rw [if_neg c]
      rcases ixF_spec l a d (i + 1) (by omega) with ⟨h1, h2⟩ | ⟨j, h1, h2, h3, h4⟩
      · left; exact ⟨h1, by simp only [List.mem_cons, not_or]; exact ⟨fun e => c e.symm, h2⟩⟩
      · right; exact ⟨j, h1, h2, h3, by simp [h4]⟩
theorem index_l0 (l : List Int) (a : Int) (hn : l.length ≤ 4611686018427387904) : ∀ (d i : Nat), i + d = l.length → Ev (fun k => slices_Index_int_int.l0 k l a (l.length : Int) i) (ixF l a d i) := by
  intro d
  induction d with
  | zero =>
    intro i hd
    exact Ev.end_ fun k => by rw [slices_Index_int_int.l0, if_neg (by omega)]; rfl
  | succ d ih =>
    intro i hd
    rw [ixF]
    by_cases c : l.getD i 0 = a
    · rw [if_pos c]
      refine Ev.end_ fun k => ?_
      rw [slices_Index_int_int.l0, if_pos (by omega), if_pos (by omega), if_pos (by omega), rd_nat, if_pos c.symm]
    · rw [if_neg c]
      refine Ev.one (ih (i + 1) (by omega)) fun k => ?_
      rw [slices_Index_int_int.l0, if_pos (by omega), if_pos (by omega), if_pos (by omega), rd_nat, if_neg (fun e => c e.symm), wrap_next (n := l.length) (by omega) hn]
theorem index_ev (l : List Int) (a : Int) (hn : l.length ≤ 4611686018427387904) : Ev (fun k => slices_Index_int_int.f k l a) (ixF l a l.length 0) := by
  unfold slices_Index_int_int.f
  exact index_l0 l a hn l.length 0 (by omega)
theorem containsI_ev (l : List Int) (a : Int) (hn : l.length ≤ 4611686018427387904) : Ev (fun k => slices_Contains_int_int.f k l a) (decide (a ∈ l)) := by
  unfold slices_Contains_int_int.f
  refine Ev.bind (index_ev l a hn) ?_
  rcases ixF_spec l a l.length 0 (by omega) with ⟨h1, h2⟩ | ⟨j, h1, h2, h3, h4⟩
  · rw [List.drop_zero] at h2
    rw [h1, decide_eq_false h2]
    exact Ev.now _
  · rw [List.drop_zero] at h4
    rw [h1, decide_eq_true h4, show decide (((j : Nat) : Int) ≥ 0) = true from decide_eq_true (by omega)]
    exact Ev.now _
abbrev RV := List Int × List Int × Bool
/-- The label's number of an index behind others, the first f of which are far. -/
def lab (o : List Int) (f : Nat) (i : Int) : Int := ((o.countP (gtP i) : Nat) : Int) + (((o.take f).countP (ltP i) : Nat) : Int)
def farF (o : List Int) (want i : Int) : Nat → Nat → Nat
  | 0, f => f
  | e + 1, f => if lab o f i < want then farF o want i e (f + 1) else f
def lastF (f : List Int) (p : Nat) : Nat := if p = 0 then 0 else (f.getD (p - 1) 0).toNat
def atF (lb o f : List Int) (i : Nat) : Nat := farF o (lb.getD i 0) (i : Int) (o.length - lastF f o.length) (lastF f o.length)
def tryV (rec : List Int → List Int → RV) (lb o f : List Int) : Nat → Nat → RV
  | 0, _ => ([], [], false)
  | e + 1, i => if (i : Int) ∈ o then tryV rec lb o f e (i + 1) else
      if lab o (atF lb o f i) (i : Int) = lb.getD i 0 then (if (rec (o ++ [(i : Int)]) (f ++ [((atF lb o f i : Nat) : Int)])).2.2 = true then rec (o ++ [(i : Int)]) (f ++ [((atF lb o f i : Nat) : Int)]) else tryV rec lb o f e (i + 1)) else tryV rec lb o f e (i + 1)
def goV (lb : List Int) : Nat → List Int → List Int → RV
  | 0, o, f => (o, f, true)
  | d + 1, o, f => tryV (goV lb d) lb o f lb.length 0
theorem farF_spec (o : List Int) (want i : Int) : ∀ (e f : Nat), f ≤ farF o want i e f ∧ farF o want i e f ≤ f + e ∧ (∀ g, f ≤ g → g < farF o want i e f → lab o g i < want) ∧ (farF o want i e f < f + e → ¬ lab o (farF o want i e f) i < want)
  | 0, f => ⟨Nat.le_refl _, Nat.le_refl _, fun g h1 h2 => by rw [farF] at h2; omega, fun h => by rw [farF] at h; omega⟩
  | e + 1, f => by
    rw [farF]
    by_cases c : lab o f i < want
    · rw [if_pos c]
      have ih := farF_spec o want i e (f + 1)
      refine ⟨by omega, by omega, fun g h1 h2 => ?_, fun h => ih.2.2.2 (by omega)⟩
      by_cases q : g = f
      · rw [q]; exact c
      · exact ih.2.2.1 g (by omega) h2
    · rw [if_neg c]
      exact ⟨Nat.le_refl _, by omega, fun g h1 h2 => by omega, fun _ => c⟩
/-- The far numbers of a region that is begun. -/
def FarOk (f : List Int) : Prop := ∀ j, j < f.length → 0 ≤ f.getD j 0 ∧ f.getD j 0 ≤ (j : Int)
theorem FarOk.last {f : List Int} (h : FarOk f) {p : Nat} (hp : p = f.length) : lastF f p ≤ p ∧ (p ≠ 0 → f.getD (p - 1) 0 = ((lastF f p : Nat) : Int)) := by
  unfold lastF
  by_cases c : p = 0
  · rw [if_pos c]; exact ⟨by omega, fun q => absurd c q⟩
  · rw [if_neg c]
    have := h (p - 1) (by omega)
    exact ⟨by omega, fun _ => by omega⟩
theorem atF_le {lb o f : List Int} (hl : lastF f o.length ≤ o.length) (i : Nat) : lastF f o.length ≤ atF lb o f i ∧ atF lb o f i ≤ o.length := by
  have := farF_spec o (lb.getD i 0) (i : Int) (o.length - lastF f o.length) (lastF f o.length)
  unfold atF
  omega
theorem FarOk.snoc {f : List Int} (h : FarOk f) {x : Nat} (hx : x ≤ f.length) : FarOk (f ++ [(x : Int)]) := by
  intro j hj
  rw [List.length_append, List.length_singleton] at hj
  by_cases c : j < f.length
  · rw [List.getD_eq_getElem?_getD, List.getElem?_append_left c, ← List.getD_eq_getElem?_getD]
    exact h j c
  · rw [List.getD_eq_getElem?_getD, List.getElem?_append_right (by omega), show j - f.length = 0 by omega]
    simp only [List.getElem?_cons_zero, Option.getD_some]
    omega
theorem goV_len (lb : List Int) : ∀ (d : Nat) (o f : List Int), (goV lb d o f).1.length ≤ o.length + d ∧ (goV lb d o f).2.1.length ≤ f.length + d
  | 0, o, f => ⟨Nat.le_refl _, Nat.le_refl _⟩
  | d + 1, o, f => by
    rw [goV]
    have key : ∀ e i, (tryV (goV lb d) lb o f e i).1.length ≤ o.length + (d + 1) ∧ (tryV (goV lb d) lb o f e i).2.1.length ≤ f.length + (d + 1) := by
      intro e
      induction e with
      | zero => intro i; rw [tryV]; simp
      | succ e ih =>
        intro i
        have h := goV_len lb d (o ++ [(i : Int)]) (f ++ [((atF lb o f i : Nat) : Int)])
        simp only [List.length_append, List.length_singleton] at h
        rw [tryV]
        split
        · exact ih _
        · split
          · split
            · omega
            · exact ih _
          · exact ih _
    exact key _ _
theorem labelAt_eq (o : List Int) (g : Nat) (i : Int) (hg : g ≤ o.length) (hl : o.length ≤ 1000) : impl_labelAt.f o (g : Int) i = some (lab o g i) := by
  unfold impl_labelAt.f
  rw [if_pos ⟨by omega, by omega, by omega⟩, Int.toNat_natCast]
  rfl
theorem clone_eq (l : List Int) (h : l.length ≤ 1000) : slices_Clone_int_int.f l = some l := by
  unfold slices_Clone_int_int.f
  rw [if_pos (by omega)]
end Go.Proofs.Ytbfbgpopbcodcaa.G
namespace Go.Proofs.Ytbfbgpopbcodcaa.G
open Go.RowKit Go.Proofs.YtbfbgpopbcodcaaW.PrintWords Go.Proofs.YtbfbgpopbcodcaaW.PrintLast Go.Proofs.YtbfbgpopbcodcaaW.PrintMore
set_option linter.unusedVariables false
set_option linter.unusedSimpArgs false
set_option linter.unusedSectionVars false
section
variable (lb : List Int) (h8 : lb.length ≤ 8)
include h8
theorem regionOf_ev : ∀ (d : Nat) (o f : List Int), o.length + d = lb.length → f.length = o.length → FarOk f → Ev (fun k => impl_regionOf.f k lb o f) (goV lb d o f) := by
  intro d
  induction d with
  | zero =>
    intro o f hd hf hk
    exact Ev.end_ fun k => by rw [impl_regionOf.f, if_pos (by omega)]; rfl
  | succ d ihd =>
    intro o f hd hf hk
    have hlast := hk.last (p := o.length) hf.symm
    rw [goV]
    have loop : ∀ e i, i + e = lb.length → Ev (fun k => impl_regionOf.l0 k lb (o.length : Int) ((lastF f o.length : Nat) : Int) lb (lb.length : Int) (i : Int) o f) (tryV (goV lb d) lb o f e i) := by
      intro e
      induction e with
      | zero =>
        intro i hi
        exact Ev.end_ fun k => by rw [impl_regionOf.l0, if_neg (by omega)]; rfl
      | succ e ihe =>
        intro i hi
        have next := ihe (i + 1) (by omega)
        have hat := atF_le (lb := lb) (o := o) (f := f) hlast.1 i
        refine Ev.step (f := fun k => (slices_Contains_int_int.f k o (i : Int)).bind fun t117 => (if t117 = true then (impl_regionOf.l0 k lb (o.length : Int) ((lastF f o.length : Nat) : Int) lb (lb.length : Int) ((i + 1 : Nat) : Int) o f) else (impl_regionOf.l1 k lb (o.length : Int) ((lastF f o.length : Nat) : Int) (i : Int) (lb.getD i 0) ((lastF f o.length : Nat) : Int) lb (lb.length : Int) (i : Int) o f))) (fun k => by
          rw [impl_regionOf.l0, if_pos (by omega), if_pos (by omega), if_pos (by omega), rd_nat, wrap_next (n := lb.length) (by omega) (by omega)]) ?_
        refine Ev.bind (containsI_ev o (i : Int) (by omega)) ?_
        rw [tryV]
        by_cases hm : (i : Int) ∈ o
        · simp only [hm, decide_true, if_true]
          exact next
        · simp only [hm, decide_false, Bool.false_eq_true, if_false]
          have j3 : Ev (fun k => impl_regionOf.j3 k lb (o.length : Int) ((lastF f o.length : Nat) : Int) (i : Int) (lb.getD i 0) ((atF lb o f i : Nat) : Int) lb (lb.length : Int) (i : Int) o f)
              (if lab o (atF lb o f i) (i : Int) = lb.getD i 0 then (if (goV lb d (o ++ [(i : Int)]) (f ++ [((atF lb o f i : Nat) : Int)])).2.2 = true then goV lb d (o ++ [(i : Int)]) (f ++ [((atF lb o f i : Nat) : Int)]) else tryV (goV lb d) lb o f e (i + 1)) else tryV (goV lb d) lb o f e (i + 1)) := by
            have hw := wrap_next (i := i) (n := lb.length) (by omega) (by omega)
            by_cases c : lab o (atF lb o f i) (i : Int) = lb.getD i 0
            · rw [if_pos c]
              have rec_ := ihd (o ++ [(i : Int)]) (f ++ [((atF lb o f i : Nat) : Int)]) (by simp; omega) (by simp [hf]) (hk.snoc (by omega))
              refine Ev.step (f := fun k => (impl_regionOf.f k lb (o ++ [(i : Int)]) (f ++ [((atF lb o f i : Nat) : Int)])).bind fun bt139 => (if bt139.2.2 = true then (some (bt139.1, bt139.2.1, true)) else (impl_regionOf.l0 k lb (o.length : Int) ((lastF f o.length : Nat) : Int) lb (lb.length : Int) ((i + 1 : Nat) : Int) o f))) (fun k => by
                rw [impl_regionOf.j3, labelAt_eq o _ _ hat.2 (by omega), Option.bind_some, if_pos c, clone_eq o (by omega), clone_eq f (by omega), hw]
                simp only [Option.bind_some, List.length_singleton]
                rw [if_pos (by omega), if_pos (by omega)]) ?_
              refine Ev.bind rec_ ?_
              generalize goV lb d (o ++ [(i : Int)]) (f ++ [((atF lb o f i : Nat) : Int)]) = R at *
              obtain ⟨r1, r2, r3⟩ := R
              cases r3 with
              | true => simp only [if_true]; exact Ev.now _
              | false => simp only [Bool.false_eq_true, if_false]; exact next
            · rw [if_neg c]
              refine Ev.one next fun k => ?_
              rw [impl_regionOf.j3, labelAt_eq o _ _ hat.2 (by omega), Option.bind_some, if_neg c, hw]
          have walk : ∀ e' g, g + e' = o.length → farF o (lb.getD i 0) (i : Int) e' g = atF lb o f i → Ev (fun k => impl_regionOf.l1 k lb (o.length : Int) ((lastF f o.length : Nat) : Int) (i : Int) (lb.getD i 0) (g : Int) lb (lb.length : Int) (i : Int) o f)
              (if lab o (atF lb o f i) (i : Int) = lb.getD i 0 then (if (goV lb d (o ++ [(i : Int)]) (f ++ [((atF lb o f i : Nat) : Int)])).2.2 = true then goV lb d (o ++ [(i : Int)]) (f ++ [((atF lb o f i : Nat) : Int)]) else tryV (goV lb d) lb o f e (i + 1)) else tryV (goV lb d) lb o f e (i + 1)) := by
            intro e'
            induction e' with
            | zero =>
              intro g hg hfar
              rw [farF] at hfar
              refine Ev.one j3 fun k => ?_
              rw [impl_regionOf.l1, if_neg (by omega), hfar]
            | succ e' ihw =>
              intro g hg hfar
              rw [farF] at hfar
              by_cases c : lab o g (i : Int) < lb.getD i 0
              · rw [if_pos c] at hfar
                refine Ev.one (ihw (g + 1) (by omega) hfar) fun k => ?_
                rw [impl_regionOf.l1, if_pos (by omega), labelAt_eq o _ _ (by omega) (by omega), Option.bind_some, if_pos c, wrap_next (n := o.length) (by omega) (by omega)]
              · rw [if_neg c] at hfar
                refine Ev.one j3 fun k => ?_
                rw [impl_regionOf.l1, if_pos (by omega), labelAt_eq o _ _ (by omega) (by omega), Option.bind_some, if_neg c, hfar]
          exact walk _ (lastF f o.length) (by omega) rfl
    have start := loop lb.length 0 (by omega)
    by_cases hp : o.length = 0
    · refine Ev.step (f := fun k => impl_regionOf.j0 k lb (o.length : Int) 0 o f) (fun k => by rw [impl_regionOf.f, if_neg (by omega), if_neg (by omega)]) ?_
      refine Ev.one start fun k => ?_
      rw [impl_regionOf.j0]
      simp [lastF, hp]
    · have hw : wrap64 ((o.length : Int) - 1) = ((o.length - 1 : Nat) : Int) := by rw [wrap_id (by omega) (by omega)]; omega
      refine Ev.step (f := fun k => impl_regionOf.j0 k lb (o.length : Int) ((lastF f o.length : Nat) : Int) o f) (fun k => by rw [impl_regionOf.f, if_neg (by omega), if_pos (by omega), hw, if_pos (by omega), if_pos (by omega), rd_nat, hlast.2 hp]) ?_
      refine Ev.one start fun k => ?_
      rw [impl_regionOf.j0]
      simp
end
end Go.Proofs.Ytbfbgpopbcodcaa.G
namespace Go.Proofs.Ytbfbgpopbcodcaa.G
open Go.RowKit Go.Proofs.YtbfbgpopbcodcaaW.PrintWords Go.Proofs.YtbfbgpopbcodcaaW.PrintLast Go.Proofs.YtbfbgpopbcodcaaW.PrintMore
set_option linter.unusedVariables false
set_option linter.unusedSimpArgs false
set_option linter.unusedSectionVars false
theorem rl_eqRegion_ev (a b c d : List Int) (h1 : a.length ≤ 1000) (h2 : b.length ≤ 1000) (e1 : a = c) (e2 : b = d) : Ev (fun k => laws_eqRegion.f k a b c d) true := by
  subst e1 e2
  unfold laws_eqRegion.f
  refine Ev.bind (eqIntS_ev a a (by omega)) ?_
  simp only [decide_true, if_true]
  refine Ev.bind (eqIntS_ev b b (by omega)) ?_
  simp only [decide_true, if_true]
  exact Ev.now _
theorem rl_own_eq (q : List Int) (h : q.length < 17592186044416) : spec_l1Own.f q = some q := by
  unfold spec_l1Own.f
  simp only [Option.bind_some, List.length_nil, Nat.zero_add, h, if_true, List.nil_append]
theorem rl_has_l0 (x : List Int) (a : Int) (hn : x.length ≤ 4611686018427387904) : ∀ (d i : Nat), i + d = x.length → Ev (fun k => spec_l1Has.l0 k a x (x.length : Int) i) (decide (a ∈ x.drop i)) := by
  intro d
  induction d with
  | zero =>
    intro i hd
    refine Ev.end_ fun k => ?_
    rw [spec_l1Has.l0, if_neg (by omega), List.drop_of_length_le (by omega)]
    simp
  | succ d ih =>
    intro i hd
    rw [drop_getD (by omega)]
    by_cases c : x.getD i 0 = a
    · refine Ev.end_ fun k => ?_
      rw [spec_l1Has.l0, if_pos (by omega), if_pos (by omega), if_pos (by omega), rd_nat, if_pos c, c]
      simp
    · refine Ev.one (f := fun k => spec_l1Has.l0 k a x (x.length : Int) ((i + 1 : Nat) : Int)) ?_ fun k => ?_
      · have := ih (i + 1) (by omega)
        have e : decide (a ∈ x.getD i 0 :: x.drop (i + 1)) = decide (a ∈ x.drop (i + 1)) := by
          simp only [List.mem_cons, show ¬ a = x.getD i 0 from fun e => c e.symm, false_or]
        rw [e]; exact this
      · rw [spec_l1Has.l0, if_pos (by omega), if_pos (by omega), if_pos (by omega), rd_nat, if_neg c, wrap_next (n := x.length) (by omega) hn]
theorem rl_has_ev (x : List Int) (a : Int) (hn : x.length ≤ 4611686018427387904) : Ev (fun k => spec_l1Has.f k x a) (decide (a ∈ x)) := by
  unfold spec_l1Has.f
  have := rl_has_l0 x a hn x.length 0 (by omega)
  simpa using this
theorem getD_mem' {l : List Int} {i : Nat} (h : i < l.length) : l.getD i 0 ∈ l := by
  rw [List.getD_eq_getElem?_getD, List.getElem?_eq_getElem h]; exact List.getElem_mem h
theorem count_snoc (p : Int → Bool) (o : List Int) {q : Nat} (h : q < o.length) : (((o.take (q + 1)).countP p : Nat) : Int) = (((o.take q).countP p : Nat) : Int) + (if p (o.getD q 0) = true then 1 else 0) := by
  rw [take_succ_getD h, List.countP_append, List.countP_singleton]
  split <;> simp
/-- One index more is far. -/
theorem lab_far (o : List Int) (g : Nat) (i : Int) (h : g < o.length) : lab o (g + 1) i = lab o g i + (if o.getD g 0 < i then 1 else 0) := by
  unfold lab
  rw [count_snoc (ltP i) o h]
  unfold ltP
  simp only [decide_eq_true_eq]
  omega
theorem lab_mono (o : List Int) (i : Int) (g : Nat) : ∀ d, g + d ≤ o.length → lab o g i ≤ lab o (g + d) i
  | 0, _ => Int.le_refl _
  | d + 1, h => by
    have := lab_mono o i g d (by omega)
    have e := lab_far o (g + d) i (by omega)
    rw [show g + (d + 1) = g + d + 1 by omega, e]
    split <;> omega
theorem lab_range (o : List Int) (g : Nat) (i : Int) : 0 ≤ lab o g i ∧ lab o g i ≤ 2 * (o.length : Int) := by
  have h1 := List.countP_le_length (p := gtP i) (l := o)
  have h2 := List.countP_le_length (p := ltP i) (l := o.take g)
  rw [List.length_take] at h2
  unfold lab
  omega
/-- One index more stands there. -/
theorem lab_more (o : List Int) (g : Nat) (i : Int) {q : Nat} (h : q < o.length) (hi : i ∉ o) : lab (o.take (q + 1)) g i = lab (o.take q) g i + (if o.getD q 0 > i then 1 else if q < g then 1 else 0) := by
  have hne : o.getD q 0 ≠ i := fun e => hi (by rw [← e]; exact getD_mem' h)
  unfold lab
  rw [count_snoc (gtP i) o h, List.take_take, List.take_take]
  unfold gtP
  simp only [decide_eq_true_eq]
  by_cases c : q < g
  · rw [Nat.min_eq_right (by omega), Nat.min_eq_right (by omega), count_snoc (ltP i) o h]
    unfold ltP
    simp only [decide_eq_true_eq, c, if_true]
    by_cases c2 : o.getD q 0 > i
    · rw [if_pos (by omega), if_neg (by omega), if_pos c2]; omega
    · rw [if_neg (by omega), if_pos (by omega), if_neg c2]; omega
  · rw [Nat.min_eq_left (by omega), Nat.min_eq_left (by omega)]
    simp only [c, if_false]
    by_cases c2 : o.getD q 0 > i
    · rw [if_pos (by omega)]; omega
    · rw [if_neg (by omega)]; omega
theorem reCount_ev (o : List Int) (g : Nat) (i : Int) (hi : i ∉ o) (hl : o.length ≤ 1000) : Ev (fun k => spec_reCount.f k o (g : Int) i) (lab o g i) := by
  unfold spec_reCount.f
  have := Ev.up0 o.length (fun q => lab (o.take q) g i) (fun k s q => spec_reCount.l0 k (g : Int) i s o (o.length : Int) q) (lab o g i) (fun q hq h => ?_) (Ev.end_ fun k => ?_)
  · simpa [lab] using this
  · have hr := lab_range (o.take q) g i
    have hlt : (o.take q).length ≤ 1000 := by rw [List.length_take]; omega
    rw [lab_more o g i hq hi] at h
    by_cases c : o.getD q 0 > i
    · rw [if_pos c] at h
      refine Ev.one h fun k => ?_
      rw [spec_reCount.l0, if_pos (by omega), if_pos (by omega), if_pos (by omega), rd_nat, if_pos c, wrap_id (x := lab (o.take q) g i + 1) (by omega) (by omega), wrap_next (n := o.length) hq (by omega)]
    · rw [if_neg c] at h
      by_cases c2 : q < g
      · rw [if_pos c2] at h
        refine Ev.one h fun k => ?_
        rw [spec_reCount.l0, if_pos (by omega), if_pos (by omega), if_pos (by omega), rd_nat, if_neg c, if_pos (by omega), wrap_id (x := lab (o.take q) g i + 1) (by omega) (by omega), wrap_next (n := o.length) hq (by omega)]
      · rw [if_neg c2, Int.add_zero] at h
        refine Ev.one h fun k => ?_
        rw [spec_reCount.l0, if_pos (by omega), if_pos (by omega), if_pos (by omega), rd_nat, if_neg c, if_neg (by omega), wrap_next (n := o.length) hq (by omega)]
  · rw [spec_reCount.l0, if_neg (by omega), List.take_length]
end Go.Proofs.Ytbfbgpopbcodcaa.G
namespace Go.Proofs.Ytbfbgpopbcodcaa.G
open Go.RowKit Go.Proofs.YtbfbgpopbcodcaaW.PrintWords Go.Proofs.YtbfbgpopbcodcaaW.PrintLast Go.Proofs.YtbfbgpopbcodcaaW.PrintMore
set_option linter.unusedVariables false
set_option linter.unusedSimpArgs false
set_option linter.unusedSectionVars false
section
variable (lb : List Int) (h8 : lb.length ≤ 8)
include h8
theorem reGoOn_ev : ∀ (d : Nat) (o f : List Int), o.length + d = lb.length → f.length = o.length → FarOk f → Ev (fun k => spec_reGoOn.f k o f lb) (goV lb d o f) := by
  intro d
  induction d with
  | zero =>
    intro o f hd hf hk
    exact Ev.end_ fun k => by rw [spec_reGoOn.f, if_pos (by omega)]; rfl
  | succ d ihd =>
    intro o f hd hf hk
    have hlast := hk.last (p := o.length) hf.symm
    rw [goV]
    have loop : ∀ e i, i + e = lb.length → Ev (fun k => spec_reGoOn.l0 k lb (o.length : Int) ((lastF f o.length : Nat) : Int) lb (lb.length : Int) (i : Int) o f) (tryV (goV lb d) lb o f e i) := by
      intro e
      induction e with
      | zero =>
        intro i hi
        exact Ev.end_ fun k => by rw [spec_reGoOn.l0, if_neg (by omega)]; rfl
      | succ e ihe =>
        intro i hi
        have next := ihe (i + 1) (by omega)
        have hat := atF_le (lb := lb) (o := o) (f := f) hlast.1 i
        have hsp := farF_spec o (lb.getD i 0) (i : Int) (o.length - lastF f o.length) (lastF f o.length)
        rw [show farF o (lb.getD i 0) (i : Int) (o.length - lastF f o.length) (lastF f o.length) = atF lb o f i from rfl] at hsp
        refine Ev.step (f := fun k => (spec_l1Has.f k o (i : Int)).bind fun t240 => (if t240 = true then (spec_reGoOn.l0 k lb (o.length : Int) ((lastF f o.length : Nat) : Int) lb (lb.length : Int) ((i + 1 : Nat) : Int) o f) else (spec_reGoOn.l1 k lb (o.length : Int) ((lastF f o.length : Nat) : Int) (i : Int) (lb.getD i 0) ((lastF f o.length : Nat) : Int) lb (lb.length : Int) (i : Int) o f))) (fun k => by
          rw [spec_reGoOn.l0, if_pos (by omega), if_pos (by omega), if_pos (by omega), rd_nat, wrap_next (n := lb.length) (by omega) (by omega)]) ?_
        refine Ev.bind (rl_has_ev o (i : Int) (by omega)) ?_
        rw [tryV]
        by_cases hm : (i : Int) ∈ o
        · simp only [hm, decide_true, if_true]
          exact next
        · simp only [hm, decide_false, Bool.false_eq_true, if_false]
          -- one far number that is tried: past, or not
          have go : ∀ (g : Nat) (R : RV), lastF f o.length ≤ g → g ≤ o.length →
              (∀ b : Bool, (b = true ↔ (lastF f o.length < g ∧ o.getD (g - 1) 0 > (i : Int)) ∨ lab o g (i : Int) ≠ lb.getD i 0) → Ev (fun k => spec_reGoOn.j3 k lb (o.length : Int) ((lastF f o.length : Nat) : Int) (i : Int) (lb.getD i 0) (g : Int) lb (lb.length : Int) (i : Int) b o f) R) →
              Ev (fun k => spec_reGoOn.l1 k lb (o.length : Int) ((lastF f o.length : Nat) : Int) (i : Int) (lb.getD i 0) (g : Int) lb (lb.length : Int) (i : Int) o f) R := by
            intro g R hg1 hg2 h
            by_cases c : lastF f o.length < g
            · have hw : wrap64 ((g : Int) - 1) = ((g - 1 : Nat) : Int) := by rw [wrap_id (by omega) (by omega)]; omega
              by_cases c2 : o.getD (g - 1) 0 > (i : Int)
              · refine Ev.one (h true ⟨fun _ => .inl ⟨c, c2⟩, fun _ => rfl⟩) fun k => ?_
                rw [spec_reGoOn.l1, if_pos (by omega), if_pos (by omega), hw, if_pos (by omega), if_pos (by omega), rd_nat, if_pos c2]
              · refine Ev.step (f := fun k => (spec_reCount.f k o (g : Int) (i : Int)).bind fun t242 => (spec_reGoOn.j3 k lb (o.length : Int) ((lastF f o.length : Nat) : Int) (i : Int) (lb.getD i 0) (g : Int) lb (lb.length : Int) (i : Int) (t242 != lb.getD i 0) o f)) (fun k => by
                  rw [spec_reGoOn.l1, if_pos (by omega), if_pos (by omega), hw, if_pos (by omega), if_pos (by omega), rd_nat, if_neg c2]) ?_
                refine Ev.bind (reCount_ev o g (i : Int) hm (by omega)) ?_
                exact h _ ⟨fun e => .inr (bne_iff_ne.1 e), fun e => bne_iff_ne.2 (e.resolve_left fun q => c2 q.2)⟩
            · refine Ev.step (f := fun k => (spec_reCount.f k o (g : Int) (i : Int)).bind fun t243 => (spec_reGoOn.j3 k lb (o.length : Int) ((lastF f o.length : Nat) : Int) (i : Int) (lb.getD i 0) (g : Int) lb (lb.length : Int) (i : Int) (t243 != lb.getD i 0) o f)) (fun k => by
                rw [spec_reGoOn.l1, if_pos (by omega), if_neg (by omega)]) ?_
              refine Ev.bind (reCount_ev o g (i : Int) hm (by omega)) ?_
              exact h _ ⟨fun e => .inr (bne_iff_ne.1 e), fun e => bne_iff_ne.2 (e.resolve_left fun q => c q.1)⟩
          have past : ∀ (g : Nat) (R : RV), g ≤ o.length → Ev (fun k => spec_reGoOn.l1 k lb (o.length : Int) ((lastF f o.length : Nat) : Int) (i : Int) (lb.getD i 0) ((g + 1 : Nat) : Int) lb (lb.length : Int) (i : Int) o f) R →
              Ev (fun k => spec_reGoOn.j3 k lb (o.length : Int) ((lastF f o.length : Nat) : Int) (i : Int) (lb.getD i 0) (g : Int) lb (lb.length : Int) (i : Int) true o f) R := fun g R hg h =>
            Ev.one h fun k => by rw [spec_reGoOn.j3, if_pos rfl, wrap_next (n := g + 1) (by omega) (by omega)]
          -- behind the number that fits, none does
          have behind : ∀ e' g, g + e' = o.length + 1 → atF lb o f i < g → Ev (fun k => spec_reGoOn.l1 k lb (o.length : Int) ((lastF f o.length : Nat) : Int) (i : Int) (lb.getD i 0) (g : Int) lb (lb.length : Int) (i : Int) o f) (tryV (goV lb d) lb o f e (i + 1)) := by
            intro e'
            induction e' with
            | zero =>
              intro g hg hlt
              refine Ev.one next fun k => ?_
              rw [spec_reGoOn.l1, if_neg (by omega), wrap_next (n := lb.length) (by omega) (by omega)]
            | succ e' ihb =>
              intro g hg hlt
              refine go g _ (by omega) (by omega) (fun b hb => ?_)
              have hbt : b = true := by
                rw [hb]
                by_cases c2 : o.getD (g - 1) 0 > (i : Int)
                · exact .inl ⟨by omega, c2⟩
                · right
                  have hne : o.getD (g - 1) 0 ≠ (i : Int) := fun q => hm (by rw [← q]; exact getD_mem' (by omega))
                  have h1 := lab_far o (g - 1) (i : Int) (by omega)
                  rw [show g - 1 + 1 = g by omega, if_pos (by omega)] at h1
                  have h2 := lab_mono o (i : Int) (atF lb o f i) (g - 1 - atF lb o f i) (by omega)
                  rw [show atF lb o f i + (g - 1 - atF lb o f i) = g - 1 by omega] at h2
                  have h3 := hsp.2.2.2 (by omega)
                  omega
              subst hbt
              exact past g _ (by omega) (ihb (g + 1) (by omega) (by omega))
          have upto : ∀ e' g, g + e' = atF lb o f i → lastF f o.length ≤ g → Ev (fun k => spec_reGoOn.l1 k lb (o.length : Int) ((lastF f o.length : Nat) : Int) (i : Int) (lb.getD i 0) (g : Int) lb (lb.length : Int) (i : Int) o f)
              (if lab o (atF lb o f i) (i : Int) = lb.getD i 0 then (if (goV lb d (o ++ [(i : Int)]) (f ++ [((atF lb o f i : Nat) : Int)])).2.2 = true then goV lb d (o ++ [(i : Int)]) (f ++ [((atF lb o f i : Nat) : Int)]) else tryV (goV lb d) lb o f e (i + 1)) else tryV (goV lb d) lb o f e (i + 1)) := by
            intro e'
            induction e' with
            | zero =>
              intro g hg hlg
              obtain rfl : g = atF lb o f i := by omega
              refine go (atF lb o f i) _ (by omega) (by omega) (fun b hb => ?_)
              have bh := behind (o.length - atF lb o f i) (atF lb o f i + 1) (by omega) (by omega)
              by_cases c : lab o (atF lb o f i) (i : Int) = lb.getD i 0
              · rw [if_pos c]
                have hbf : b = false := by
                  cases b with
                  | false => rfl
                  | true =>
                    rcases hb.1 rfl with ⟨q1, q2⟩ | q
                    · have h1 := lab_far o (atF lb o f i - 1) (i : Int) (by omega)
                      rw [show atF lb o f i - 1 + 1 = atF lb o f i by omega, if_neg (by omega)] at h1
                      have h2 := hsp.2.2.1 (atF lb o f i - 1) (by omega) (by omega)
                      omega
                    · exact absurd c q
                subst hbf
                have rec_ := ihd (o ++ [(i : Int)]) (f ++ [((atF lb o f i : Nat) : Int)]) (by simp; omega) (by simp [hf]) (hk.snoc (by omega))
                have hw := wrap_next (i := atF lb o f i) (n := atF lb o f i + 1) (by omega) (by omega)
                refine Ev.step (f := fun k => (spec_reGoOn.f k (o ++ [(i : Int)]) (f ++ [((atF lb o f i : Nat) : Int)]) lb).bind fun bt263 => (if bt263.2.2 = true then (some (bt263.1, bt263.2.1, true)) else (spec_reGoOn.l1 k lb (o.length : Int) ((lastF f o.length : Nat) : Int) (i : Int) (lb.getD i 0) ((atF lb o f i + 1 : Nat) : Int) lb (lb.length : Int) (i : Int) o f))) (fun k => by
                  rw [spec_reGoOn.j3, if_neg (by decide), rl_own_eq o (by omega), rl_own_eq f (by omega), hw]
                  simp only [Option.bind_some, List.length_singleton]
                  rw [if_pos (by omega), if_pos (by omega)]) ?_
                refine Ev.bind rec_ ?_
                generalize goV lb d (o ++ [(i : Int)]) (f ++ [((atF lb o f i : Nat) : Int)]) = R at *
                obtain ⟨r1, r2, r3⟩ := R
                cases r3 with
                | true => simp only [if_true]; exact Ev.now _
                | false => simp only [Bool.false_eq_true, if_false]; exact bh
              · rw [if_neg c]
                obtain rfl : b = true := hb.2 (.inr c)
                exact past _ _ (by omega) bh
            | succ e' ihu =>
              intro g hg hlg
              have hlt := hsp.2.2.1 g hlg (by omega)
              refine go g _ (by omega) (by omega) (fun b hb => ?_)
              obtain rfl : b = true := hb.2 (.inr (by omega))
              exact past g _ (by omega) (ihu (g + 1) (by omega) (by omega))
          exact upto (atF lb o f i - lastF f o.length) (lastF f o.length) (by omega) (Nat.le_refl _)
    have start := loop lb.length 0 (by omega)
    by_cases hp : o.length = 0
    · refine Ev.step (f := fun k => spec_reGoOn.j0 k lb (o.length : Int) 0 o f) (fun k => by rw [spec_reGoOn.f, if_neg (by omega), if_neg (by omega)]) ?_
      refine Ev.one start fun k => ?_
      rw [spec_reGoOn.j0]
      simp [lastF, hp]
    · have hw : wrap64 ((o.length : Int) - 1) = ((o.length - 1 : Nat) : Int) := by rw [wrap_id (by omega) (by omega)]; omega
      refine Ev.step (f := fun k => spec_reGoOn.j0 k lb (o.length : Int) ((lastF f o.length : Nat) : Int) o f) (fun k => by rw [spec_reGoOn.f, if_neg (by omega), if_pos (by omega), hw, if_pos (by omega), if_pos (by omega), rd_nat, hlast.2 hp]) ?_
      refine Ev.one start fun k => ?_
      rw [spec_reGoOn.j0]
      simp
end
end Go.Proofs.Ytbfbgpopbcodcaa.G
namespace Go.Proofs.Ytbfbgpopbcodcaa.G
open Go.RowKit Go.Proofs.YtbfbgpopbcodcaaW.PrintWords Go.Proofs.YtbfbgpopbcodcaaW.PrintLast Go.Proofs.YtbfbgpopbcodcaaW.PrintMore
set_option linter.unusedVariables false
set_option linter.unusedSimpArgs false
theorem ev_mono {α : Type} {g : Nat → Option α} (hm : ∀ k, LeO (g k) (g (k + 1))) {K : Nat} {r : α} (h : g K = some r) : Ev g r := by
  refine ⟨K, fun k hk => ?_⟩
  induction k with
  | zero =>
    obtain rfl : K = 0 := by omega
    exact h
  | succ k ih =>
    rcases Nat.lt_or_ge k K with h1 | h1
    · obtain rfl : K = k + 1 := by omega
      exact h
    · exact hm k r (ih h1)
/-- The lists of favourites that park, as both sides list them: evaluated by the kernel, for the five numbers of cars. -/
def parkL (n : Int) : List (List Int) := (impl_allParking.f 400 n).getD []
def parkOk (n : Int) : Bool :=
  match impl_allParking.f 400 n with
  | none => false
  | some p => decide (spec_AllParking.f 400 n = some (p, true)) && decide (p.length ≤ 125) && p.all (fun l => decide (l.length ≤ 8))
theorem parkOk0 : parkOk 0 = true := by decide +kernel
theorem parkOk1 : parkOk 1 = true := by decide +kernel
theorem parkOk2 : parkOk 2 = true := by decide +kernel
theorem parkOk3 : parkOk 3 = true := by decide +kernel
theorem parkOk4 : parkOk 4 = true := by decide +kernel
theorem park_all (n : Int) (h0 : 0 ≤ n) (h4 : n ≤ 4) : impl_allParking.f 400 n = some (parkL n) ∧ spec_AllParking.f 400 n = some (parkL n, true) ∧ (parkL n).length ≤ 125 ∧ ∀ l ∈ parkL n, l.length ≤ 8 := by
  have hk : parkOk n = true := by
    have : n = 0 ∨ n = 1 ∨ n = 2 ∨ n = 3 ∨ n = 4 := by omega
    rcases this with rfl | rfl | rfl | rfl | rfl
    · exact parkOk0
    · exact parkOk1
    · exact parkOk2
    · exact parkOk3
    · exact parkOk4
  unfold parkOk at hk
  unfold parkL
  cases hp : impl_allParking.f 400 n with
  | none => rw [hp] at hk; cases hk
  | some p =>
    rw [hp] at hk
    simp only [Bool.and_eq_true, decide_eq_true_eq, List.all_eq_true] at hk
    exact ⟨rfl, hk.1.1, hk.1.2, hk.2⟩
theorem impl_park_ev (n : Int) (h0 : 0 ≤ n) (h4 : n ≤ 4) : Ev (fun k => impl_allParking.f k n) (parkL n) := ev_mono (fun k => impl_allParking.mono n k) (park_all n h0 h4).1
theorem spec_park_ev (n : Int) (h0 : 0 ≤ n) (h4 : n ≤ 4) : Ev (fun k => spec_AllParking.f k n) (parkL n, true) := ev_mono (fun k => spec_AllParking.mono n k) (park_all n h0 h4).2.1
def regS (l : List Int) : S34 := ⟨(goV l l.length [] []).1, (goV l l.length [] []).2.1⟩
theorem regS_len {l : List Int} (h : l.length ≤ 8) : (regS l).f0.length ≤ 8 ∧ (regS l).f1.length ≤ 8 := by
  have := goV_len l l.length [] []
  unfold regS
  simp only [List.length_nil, Nat.zero_add] at this
  exact ⟨Nat.le_trans this.1 h, Nat.le_trans this.2 h⟩
theorem drop_getL {P : List (List Int)} {i : Nat} (h : i < P.length) : P.drop i = P.getD i [] :: P.drop (i + 1) := by
  rw [List.drop_eq_getElem_cons h, List.getD_eq_getElem?_getD, List.getElem?_eq_getElem h]; rfl
theorem getL_mem {P : List (List Int)} {i : Nat} (h : i < P.length) : P.getD i [] ∈ P := by
  rw [List.getD_eq_getElem?_getD, List.getElem?_eq_getElem h]; exact List.getElem_mem h
theorem nilOk : FarOk [] := fun j hj => by simp at hj
end Go.Proofs.Ytbfbgpopbcodcaa.G
namespace Go.Proofs.Ytbfbgpopbcodcaa.G
open Go.RowKit Go.Proofs.YtbfbgpopbcodcaaW.PrintWords Go.Proofs.YtbfbgpopbcodcaaW.PrintLast Go.Proofs.YtbfbgpopbcodcaaW.PrintMore
set_option linter.unusedVariables false
set_option linter.unusedSimpArgs false
section
variable (P : List (List Int)) (hP : P.length ≤ 125) (hl : ∀ l ∈ P, l.length ≤ 8)
include hP hl
theorem impl_AR_l0 : ∀ (d i : Nat) (acc : List S34), i + d = P.length → acc.length = i → Ev (fun k => impl_AllRegions.l0 k acc P (P.length : Int) (i : Int)) (acc ++ (P.drop i).map regS, true) := by
  intro d
  induction d with
  | zero =>
    intro i acc hd ha
    refine Ev.end_ fun k => ?_
    rw [impl_AllRegions.l0, if_neg (by omega), List.drop_of_length_le (by omega), List.map_nil, List.append_nil]
  | succ d ih =>
    intro i acc hd ha
    have hi : i < P.length := by omega
    have h8 := hl _ (getL_mem hi)
    have h1 := ih (i + 1) (acc ++ [regS (P.getD i [])]) (by omega) (by rw [List.length_append, ha]; rfl)
    rw [drop_getL hi, List.map_cons]
    rw [List.append_assoc, List.singleton_append] at h1
    refine Ev.step (f := fun k => (impl_regionOf.f k (P.getD i []) [] []).bind fun bt => if acc.length < 2932031007402 then impl_AllRegions.l0 k (acc ++ [(⟨bt.1, bt.2.1⟩ : S34)]) P (P.length : Int) ((i + 1 : Nat) : Int) else none) (fun k => ?_) ?_
    · rw [impl_AllRegions.l0, if_pos (by omega), if_pos (by omega), if_pos (by omega), wrap_next (n := P.length) hi (by omega)]
      rfl
    · refine Ev.bind (regionOf_ev (P.getD i []) h8 (P.getD i []).length [] [] (by simp) rfl nilOk) ?_
      simp only [show acc.length < 2932031007402 by omega, if_true]
      exact h1
theorem spec_AR_l0 : ∀ (d i : Nat) (acc : List S34), i + d = P.length → acc.length = i → Ev (fun k => spec_AllRegions.l0 k acc P (P.length : Int) (i : Int)) (acc ++ (P.drop i).map regS, true) := by
  intro d
  induction d with
  | zero =>
    intro i acc hd ha
    refine Ev.end_ fun k => ?_
    rw [spec_AllRegions.l0, if_neg (by omega), List.drop_of_length_le (by omega), List.map_nil, List.append_nil]
  | succ d ih =>
    intro i acc hd ha
    have hi : i < P.length := by omega
    have h8 := hl _ (getL_mem hi)
    have h1 := ih (i + 1) (acc ++ [regS (P.getD i [])]) (by omega) (by rw [List.length_append, ha]; rfl)
    rw [drop_getL hi, List.map_cons]
    rw [List.append_assoc, List.singleton_append] at h1
    refine Ev.step (f := fun k => (spec_reGoOn.f k [] [] (P.getD i [])).bind fun bt => if acc.length < 2932031007402 then spec_AllRegions.l0 k (acc ++ [(⟨bt.1, bt.2.1⟩ : S34)]) P (P.length : Int) ((i + 1 : Nat) : Int) else none) (fun k => ?_) ?_
    · rw [spec_AllRegions.l0, if_pos (by omega), if_pos (by omega), if_pos (by omega), wrap_next (n := P.length) hi (by omega)]
      rfl
    · refine Ev.bind (reGoOn_ev (P.getD i []) h8 (P.getD i []).length [] [] (by simp) rfl nilOk) ?_
      simp only [show acc.length < 2932031007402 by omega, if_true]
      exact h1
end
end Go.Proofs.Ytbfbgpopbcodcaa.G
namespace Go.Proofs.Ytbfbgpopbcodcaa.G
open Go.RowKit Go.Proofs.YtbfbgpopbcodcaaW.PrintWords Go.Proofs.YtbfbgpopbcodcaaW.PrintLast Go.Proofs.YtbfbgpopbcodcaaW.PrintMore
set_option linter.unusedVariables false
set_option linter.unusedSimpArgs false
def arV (a : Int) : List S34 × Bool := if 0 ≤ a ∧ a ≤ 4 then ((parkL a).map regS, true) else ([], false)
theorem arV_len (a : Int) : (arV a).1.length ≤ 125 ∧ ∀ x ∈ (arV a).1, x.f0.length ≤ 8 ∧ x.f1.length ≤ 8 := by
  unfold arV
  by_cases h : 0 ≤ a ∧ a ≤ 4
  · rw [if_pos h]
    obtain ⟨_, _, h1, h2⟩ := park_all a h.1 h.2
    refine ⟨by rw [List.length_map]; exact h1, fun x hx => ?_⟩
    obtain ⟨l, hl, rfl⟩ := List.mem_map.1 hx
    exact regS_len (h2 l hl)
  · rw [if_neg h]
    exact ⟨by simp, fun x hx => by cases hx⟩
theorem between_eq (a : Int) : impl_between.f a 0 4 = some (decide (0 ≤ a ∧ a ≤ 4)) := by
  unfold impl_between.f
  by_cases h : 0 ≤ a
  · by_cases h2 : a ≤ 4 <;> simp [h, h2]
  · simp [h]
theorem l1In_eq4 (a : Int) : spec_l1In.f a 0 4 = some (decide (0 ≤ a ∧ a ≤ 4)) := by
  unfold spec_l1In.f
  by_cases h : 0 ≤ a
  · by_cases h2 : a ≤ 4 <;> simp [h, h2]
  · simp [h]
theorem impl_AR_ev (a : Int) : Ev (fun k => impl_AllRegions.f k a) (arV a) := by
  unfold impl_AllRegions.f arV
  simp only [between_eq, Option.bind_some]
  by_cases h : 0 ≤ a ∧ a ≤ 4
  · simp only [h, and_self, decide_true, if_true]
    obtain ⟨_, _, h1, h2⟩ := park_all a h.1 h.2
    refine Ev.bind (impl_park_ev a h.1 h.2) ?_
    have := impl_AR_l0 (parkL a) h1 h2 (parkL a).length 0 [] (by omega) rfl
    rw [List.nil_append, List.drop_zero] at this
    exact this
  · simp only [h, decide_false, Bool.false_eq_true, if_false]
    exact Ev.now _
theorem spec_AR_ev (a : Int) : Ev (fun k => spec_AllRegions.f k a) (arV a) := by
  unfold spec_AllRegions.f arV
  simp only [l1In_eq4, Option.bind_some]
  by_cases h : 0 ≤ a ∧ a ≤ 4
  · simp only [h, and_self, decide_true, if_true]
    obtain ⟨_, _, h1, h2⟩ := park_all a h.1 h.2
    refine Ev.bind (spec_park_ev a h.1 h.2) ?_
    have := spec_AR_l0 (parkL a) h1 h2 (parkL a).length 0 [] (by omega) rfl
    rw [List.nil_append, List.drop_zero] at this
    exact this
  · simp only [h, decide_false, Bool.false_eq_true, if_false]
    exact Ev.now _
theorem getZ_mem {l : List S34} {i : Nat} (h : i < l.length) : l.getD i z34 ∈ l := by
  rw [List.getD_eq_getElem?_getD, List.getElem?_eq_getElem h]; exact List.getElem_mem h
theorem rdT_nat (l : List S34) (i : Nat) : rd_T34 l (i : Int) = l.getD i z34 := by unfold rd_T34; rw [Int.toNat_natCast]
def totR : List S34 → Int
  | [] => 0
  | x :: xs => (x.f0.length : Int) + x.f1.length + totR xs
def mkL : List S34 → Int → List S34
  | [], _ => []
  | x :: xs, m => ⟨rise x.f0.length m, rise x.f1.length (m + x.f0.length)⟩ :: mkL xs (m + x.f0.length + x.f1.length)
theorem mkL_len : ∀ (l : List S34) (m : Int), (mkL l m).length = l.length
  | [], _ => rfl
  | x :: xs, m => by rw [mkL, List.length_cons, List.length_cons, mkL_len xs]
theorem tot_bound : ∀ (l : List S34), (∀ x ∈ l, x.f0.length ≤ 8 ∧ x.f1.length ≤ 8) → 0 ≤ totR l ∧ totR l ≤ 16 * (l.length : Int)
  | [], _ => by simp [totR]
  | x :: xs, h => by
    have h1 := tot_bound xs (fun y hy => h y (List.mem_cons_of_mem _ hy))
    have h2 := h x List.mem_cons_self
    rw [totR, List.length_cons]
    omega
theorem mkL_at : ∀ (l : List S34) (m : Int) (i : Nat), i < l.length →
    (mkL l m).getD i z34 = ⟨rise (l.getD i z34).f0.length (m + totR (l.take i)), rise (l.getD i z34).f1.length (m + totR (l.take i) + (l.getD i z34).f0.length)⟩
  | [], _, _, h => by simp at h
  | x :: xs, m, 0, _ => by simp only [mkL, List.getD_cons_zero, List.take_zero, totR, Int.add_zero]
  | x :: xs, m, i + 1, h => by
    have := mkL_at xs (m + x.f0.length + x.f1.length) i (by simpa using h)
    simp only [mkL, List.getD_cons_succ, List.take_succ_cons, totR]
    rw [this, show m + (x.f0.length : Int) + x.f1.length + totR (xs.take i) = m + ((x.f0.length : Int) + x.f1.length + totR (xs.take i)) by omega]
theorem tot_snoc : ∀ (l : List S34) (i : Nat), i < l.length → totR (l.take (i + 1)) = totR (l.take i) + (l.getD i z34).f0.length + (l.getD i z34).f1.length
  | [], _, h => by simp at h
  | x :: xs, 0, _ => by simp only [List.take_succ_cons, List.take_zero, totR, List.getD_cons_zero]; omega
  | x :: xs, i + 1, h => by
    have := tot_snoc xs i (by simpa using h)
    simp only [List.take_succ_cons, totR, List.getD_cons_succ] at this ⊢
    omega
theorem markR_ev : ∀ (l : List S34) (m : Int), (∀ x ∈ l, x.f0.length ≤ 8 ∧ x.f1.length ≤ 8) → 0 ≤ m → m + 16 * (l.length : Int) ≤ 1000000 → Ev (fun k => markRegs k l m) (m + totR l, mkL l m)
  | [], m, _, _, _ => by
    simp only [markRegs, totR, Int.add_zero]
    exact Ev.now _
  | x :: xs, m, h, h0, hm => by
    have hx := h x List.mem_cons_self
    rw [List.length_cons] at hm
    have ih := markR_ev xs (m + x.f0.length + x.f1.length) (fun y hy => h y (List.mem_cons_of_mem _ hy)) (by omega) (by omega)
    simp only [markRegs, totR, mkL]
    refine Ev.bind (markIntS_ev x.f0 m (by omega) (by omega)) ?_
    refine Ev.bind (markIntS_ev x.f1 (m + x.f0.length) (by omega) (by omega)) ?_
    refine Ev.bind ih ?_
    rw [show m + (x.f0.length : Int) + x.f1.length + totR xs = m + ((x.f0.length : Int) + x.f1.length + totR xs) by omega]
    exact Ev.now _
end Go.Proofs.Ytbfbgpopbcodcaa.G
namespace Go.Proofs.Ytbfbgpopbcodcaa.G
open Go.RowKit Go.Proofs.YtbfbgpopbcodcaaW.PrintWords Go.Proofs.YtbfbgpopbcodcaaW.PrintLast Go.Proofs.YtbfbgpopbcodcaaW.PrintMore
set_option linter.unusedVariables false
set_option linter.unusedSimpArgs false
section
variable (l : List S34) (hl : l.length ≤ 125) (h8 : ∀ x ∈ l, x.f0.length ≤ 8 ∧ x.f1.length ≤ 8)
include hl h8
theorem heldR_l0 : ∀ (d i : Nat), i + d = l.length → Ev (fun k => laws_heldRegionS.l0 k (mkL l 1) (1 + totR (l.take i)) (i : Int)) (1 + totR l) := by
  intro d
  induction d with
  | zero =>
    intro i hd
    refine Ev.end_ fun k => ?_
    rw [laws_heldRegionS.l0, if_neg (by rw [mkL_len]; omega), List.take_of_length_le (by omega)]
  | succ d ih =>
    intro i hd
    have hi : i < l.length := by omega
    have hx := h8 _ (getZ_mem hi)
    have hb := tot_bound (l.take i) (fun y hy => h8 y (List.mem_of_mem_take hy))
    have hlt : (l.take i).length ≤ 125 := by rw [List.length_take]; omega
    have h1 := ih (i + 1) (by omega)
    rw [tot_snoc l i hi] at h1
    refine Ev.step (f := fun k => (laws_heldIntS.f k (rise (l.getD i z34).f0.length (1 + totR (l.take i))) (1 + totR (l.take i))).bind fun t => if t < 0 then some (-1) else (laws_heldIntS.f k (rise (l.getD i z34).f1.length (1 + totR (l.take i) + (l.getD i z34).f0.length)) t).bind fun t2 => if t2 < 0 then some (-1) else laws_heldRegionS.l0 k (mkL l 1) t2 ((i + 1 : Nat) : Int)) (fun k => ?_) ?_
    · rw [laws_heldRegionS.l0, if_pos (by rw [mkL_len]; omega), if_pos (by omega), rdT_nat, mkL_at l 1 i hi, wrap_next (n := l.length) hi (by omega)]
    · refine Ev.bind (heldIntS_ev (l.getD i z34).f0.length (1 + totR (l.take i)) (by omega) (by omega)) ?_
      simp only [show ¬ ((1 : Int) + totR (l.take i) + ((l.getD i z34).f0.length : Int) < 0) by omega, if_false]
      refine Ev.bind (heldIntS_ev (l.getD i z34).f1.length (1 + totR (l.take i) + (l.getD i z34).f0.length) (by omega) (by omega)) ?_
      simp only [show ¬ ((1 : Int) + totR (l.take i) + ((l.getD i z34).f0.length : Int) + ((l.getD i z34).f1.length : Int) < 0) by omega, if_false]
      rw [show (1 : Int) + totR (l.take i) + ((l.getD i z34).f0.length : Int) + ((l.getD i z34).f1.length : Int) = 1 + (totR (l.take i) + ((l.getD i z34).f0.length : Int) + ((l.getD i z34).f1.length : Int)) by omega]
      exact h1
theorem heldR_ev : Ev (fun k => laws_heldRegionS.f k (mkL l 1) 1) (1 + totR l) := by
  have := heldR_l0 l hl h8 l.length 0 (by omega)
  simp only [List.take_zero, totR, Int.add_zero] at this
  exact this
theorem eqR_l0 : ∀ (d i : Nat), i + d = l.length → Ev (fun k => laws_eqRegionS.l0 k l l (i : Int)) true := by
  intro d
  induction d with
  | zero =>
    intro i hd
    refine Ev.end_ fun k => ?_
    rw [laws_eqRegionS.l0, if_neg (by omega)]
  | succ d ih =>
    intro i hd
    have hi : i < l.length := by omega
    have hx := h8 _ (getZ_mem hi)
    refine Ev.step (f := fun k => (laws_eqRegion.f k (l.getD i z34).f0 (l.getD i z34).f1 (l.getD i z34).f0 (l.getD i z34).f1).bind fun t => if t = true then laws_eqRegionS.l0 k l l ((i + 1 : Nat) : Int) else some false) (fun k => ?_) ?_
    · rw [laws_eqRegionS.l0, if_pos (by omega), if_pos (by omega), if_pos (by omega), rdT_nat, wrap_next (n := l.length) hi (by omega)]
    · refine Ev.bind (rl_eqRegion_ev _ _ _ _ (by omega) (by omega) rfl rfl) ?_
      simp only [if_true]
      exact ih (i + 1) (by omega)
theorem eqR_ev : Ev (fun k => laws_eqRegionS.f k l l) true := by
  unfold laws_eqRegionS.f
  simp only [if_true]
  exact eqR_l0 l hl h8 l.length 0 (by omega)
end
end Go.Proofs.Ytbfbgpopbcodcaa.G
namespace Go.Proofs.Ytbfbgpopbcodcaa.Pure
open Go.RowKit Go.Proofs.Ytbfbgpopbcodcaa.G Go.Proofs.YtbfbgpopbcodcaaW.PrintWords Go.Proofs.YtbfbgpopbcodcaaW.PrintLast
set_option linter.unusedVariables false
set_option linter.unusedSimpArgs false
theorem FnExactAllRegions : laws_FnExactAllRegions.Pure := by
  intro a0 w0
  refine Ev.rounds ?_
  unfold laws_FnExactAllRegions.f
  obtain ⟨hl, h8⟩ := arV_len a0
  have hb := tot_bound (arV a0).1 h8
  have hm : Ev (fun k => laws_markRegionS.f k (arV a0).1 1) (1 + totR (arV a0).1, mkL (arV a0).1 1) := markR_ev (arV a0).1 1 h8 (by omega) (by omega)
  refine Ev.bind (spec_AR_ev a0) ?_
  refine Ev.bind (impl_AR_ev a0) ?_
  refine Ev.bind (eqR_ev _ hl h8) ?_
  simp only [if_true, bne_self_eq_false]
  refine Ev.step (fun k => by rw [laws_FnExactAllRegions.j0, if_neg (by decide)]) ?_
  refine Ev.bind hm ?_
  refine Ev.bind (heldR_ev _ hl h8) ?_
  simp only [show ¬ ((1 : Int) + totR (arV a0).1 < 0) by omega, if_false, if_true]
  refine Ev.bind (impl_AR_ev a0) ?_
  refine Ev.bind (eqR_ev _ hl h8) ?_
  simp only [if_true, bne_self_eq_false]
  refine Ev.step (fun k => by rw [laws_FnExactAllRegions.j1, if_neg (by decide)]) ?_
  refine Ev.bind (heldR_ev _ hl h8) ?_
  simp only [show ¬ ((1 : Int) + totR (arV a0).1 < 0) by omega, if_false, if_true]
  exact Ev.now _
end Go.Proofs.Ytbfbgpopbcodcaa.Pure
namespace Go.Proofs.Ytbfbgpopbcodcaa.fnExactAllRegions
open Go.ChangeShapes Go.WideShapes Go.ChangeAt Go.RowKit
open Go.ChangeMaps (open_string shut_string)
set_option linter.unusedVariables false
theorem own : ownKnob Try.prog.godebug = none := by kernel_rfl
set_option maxRecDepth 100000 in
theorem lifted (os : Os) (started : os.Started) (H : Type) (enc : TypeId × Value → H) :
    ReturnsInHanded {} Try.checked os 3 .any (Rows.fnExactAllRegionsSpec.pre6 enc Try.prog Try.f3 Rows.fnExactAllRegionsRow.domain false) (Rows.fnExactAllRegionsSpec.post enc Try.prog Try.f3 false true false false) := by
  refine returnsInHanded_of_change_sized (C := Try.checked) own started (by kernel_rfl) Try.func3
    (ChangeSpec.witness6 (enc := enc) (C := Try.checked) false ⟨#[], #[.int .i64 0], []⟩ 8 (by kernel_rfl) (by kernel_rfl) (by kernel_rfl) (by kernel_rfl)) ?_
  intro W base args ds gs before hval0 hW hcnd hsz0 _
  have hsz : (DataW.weightsEach Try.prog (Try.f3.params.toList ++ Rows.fnExactAllRegionsSpec.plain.varTypes Try.prog) (ds ++ gs)).all (· ≤ reachBytes) = true := hsz0
  have hval : ∀ (j : Nat) t v, Try.f3.params[j]? = some t → args[j]? = some v → Value.okWide Try.prog W .any base t v := hval0
  have hW' := hW
  obtain ⟨p, q, hA0, hV, rfl, hfz, hnd⟩ := hW
  have hA : DataW.TrodAll enc Try.prog W 0 (fun _ => true) true Try.f3.params.toList args.toList ds p := hA0
  rw [Try.params3] at hA hval hsz
  obtain ⟨v0, vs0, d0, ds0, p0, q0, hargs, rfl, rfl, h0, r0⟩ := trodAll_cons hA
  obtain ⟨rfl, rfl, rfl⟩ := trodAll_nil r0
  obtain rfl : args = #[v0] := by cases args; simp_all
  obtain ⟨rfl, rfl⟩ := trodVars_none hV
  obtain ⟨a0, rfl, rfl, rfl, w0⟩ := open_int Try.underlying3 (hval 0 3 v0 rfl rfl) h0
  clear hA0 hval0 hsz0 hsz
  refine (G.laws_FnExactAllRegions.walk Pure.FnExactAllRegions a0 W w0).mono fun e W' ⟨he, bel⟩ => ?_
  subst he
  exact ⟨_, rfl, _, _, _, [], _, [], hW', trodAll_mk1 (shut_bool Try.underlying4 _), (trodAll_cons_mk (shut_int Try.underlying3 w0) trodAll_mk0), rfl, bel.frame _, fun h => by cases h⟩
theorem over : Rows.fnExactAllRegionsRow.holds Try.pinned (OpenSpec.ofChange Rows.fnExactAllRegionsSpec) :=
  OpenClaim.holds_of_wide 3 Try.f3 rfl rfl rfl rfl rfl rfl rfl ⟨rfl, rfl, rfl, rfl, rfl⟩ rfl rfl rfl rfl rfl (by kernel_rfl) Try.func3 (by kernel_rfl)
    (of_decide_eq_true (by kernel_rfl)) (by unfold Func.isWrapper; first | (rw [if_pos (by decide +kernel)]; kernel_rfl) | (rw [if_neg (by decide +kernel)]; exact ⟨rfl, rfl⟩))
    (fun os started H enc _ => lifted os started H enc)
theorem proved : Rows.FnExactAllRegionsSaid := over
#print axioms proved
end Go.Proofs.Ytbfbgpopbcodcaa.fnExactAllRegions
namespace Go.Proofs.Ytbfbgpopbcodcaa
/-- The row, under a short name, for the claim. -/
theorem fnExactAllRegions_holds : Rows.FnExactAllRegionsSaid := fnExactAllRegions.proved
end Go.Proofs.Ytbfbgpopbcodcaa
