/- The law FnTablesFill: part 5 of the printed functions and the facts on them that its row leans on (merged by this session's slim.py). -/
import Derived.Test.YtfblohigbdomjaaZFnTablesFill4
namespace Go.Proofs.Ytfblohigbdomjaa.G
open Go.RowKit Go.Proofs.YtfblohigbdomjaaW.PrintWords Go.Proofs.YtfblohigbdomjaaW.PrintLast Go.Proofs.YtfblohigbdomjaaW.PrintMore
attribute [local go_sem] max2_int min2_int max_two min_two max_three min_three max_four min_four   -- for this text's walks alone
set_option linter.unusedVariables false
set_option linter.unusedSimpArgs false
/-! ### laws_FnTablesFill.calls -/
set_option maxHeartbeats 80000000 in
set_option maxRecDepth 100000 in
theorem laws_FnTablesFill.calls (k : Nat) (A0 : Option Addr) (c0 : Nat) (l0 : List Int) (A1 : Option Addr) (c1 : Nat) (l1 : List Int) (r : Bool) (w : World) (hr0 : Kd.C (Kd.int .u8) w A0 l0.length l0) (hc0 : l0.length ≤ c0) (hr1 : Kd.C (Kd.int .u8) w A1 l1.length l1) (hc1 : l1.length ≤ c1) (h : laws_FnTablesFill.f k l0 l1 = some r) :
  Calls Try.prog 9 #[.slice A0 l0.length c0, .slice A1 l1.length c1] w fun e w' => e = .returned (.bool r) ∧ Below w.heap.size w w' := by
 have hu24 := Try.underlying24
 have HR0 := aS_ hr0
 have HC0 := aS_ hc0
 clear hr0 hc0
 have HR1 := aS_ hr1
 have HC1 := aS_ hc1
 clear hr1 hc1
 have HB := aS_ (Below.refl w.heap.size w)
 have H : ((laws_big.f l0 l1).bind fun t823 => (if t823 = true then (some true) else ((spec_DrawTableOf.f k l0).bind fun bt824 => ((impl_TableOf.f k bt824.1 bt824.2).bind fun bt828 => ((spec_TableOf.f k bt824.1 bt824.2).bind fun bt833 => (if (bt828.2 != bt833.2) = true then (laws_FnTablesFill.j0 k l1 bt824.1 bt824.2 bt828.2 true bt828.1) else ((laws_jTable.f k bt828.1 bt833.1).bind fun t838 => (laws_FnTablesFill.j0 k l1 bt824.1 bt824.2 bt828.2 (!t838) bt828.1)))))))) = some r := h
 clear h
 replace H := Option.bind_eq_some_iff.mp H
 obtain ⟨t823, A30, H⟩ := H
 have A3 := aS_ A30
 clear A30
 by_cases c4 : t823 = true
 ·subst c4
  rw [if_pos rfl] at H
  obtain rfl := Option.some.inj H
  go_enter Try.func9, Try.ntmps9
  go_wp2_with (first | ((with_reducible refine gate_callee (f := 29) rfl ?_); refine goesL_ (some 48) rfl rfl Try.func29 (by kernel_rfl) rfl #[.slice A0 l0.length c0, .slice A1 l1.length c1] rfl (by (try simp only [List.map_toArray, List.map_cons, List.map_nil]); first | done | rfl | (simp only [List.length_drop, List.length_take]; rfl)) ?_; (with_reducible refine (laws_big.calls _ _ l0 _ _ l1 true _ ?side1 ?side2 ?side3 ?side4 A3.out).mono ?_); (case side1 => repeat (first | exact HR0.out | (with_reducible refine Kd.C_alloc ?_ _) | (with_reducible refine Kd.C_drewN ?_ _) | (with_reducible refine Kd.C_drew ?_))); (case side2 => exact HC0.out); (case side3 => repeat (first | exact HR1.out | (with_reducible refine Kd.C_alloc ?_ _) | (with_reducible refine Kd.C_drewN ?_ _) | (with_reducible refine Kd.C_drew ?_))); (case side4 => exact HC1.out); rintro e w' ⟨rfl, ⟨nd, rfl⟩⟩; refine ⟨_, rfl, ?_⟩))
  go_ret
  exact ⟨by first | rfl | (simp [errW_none, errW_some] <;> rfl) | (simp [*, errW_none, errW_some] <;> rfl), by repeat (first | (with_reducible first | exact HB.out | apply bA_ | apply pN_ | apply bD_) | exact HB.out)⟩
 ·as_aux_lemma =>
  replace c4 := Bool.eq_false_iff.mpr c4
  subst c4
  rw [if_neg (show ¬ (false = true) by decide)] at H
  replace H := Option.bind_eq_some_iff.mp H
  obtain ⟨⟨t824, t825⟩, A50, H⟩ := H
  have A5 := aS_ A50
  clear A50
  replace H := Option.bind_eq_some_iff.mp H
  obtain ⟨⟨t828, t831⟩, A60, H⟩ := H
  have A6 := aS_ A60
  clear A60
  replace H := Option.bind_eq_some_iff.mp H
  obtain ⟨⟨t833, t836⟩, A70, H⟩ := H
  have A7 := aS_ A70
  clear A70
  have HC8 := aS_ H
  clear H
  go_enter Try.func9, Try.ntmps9
  go_upto_region 6 with (first | ((with_reducible refine gate_callee (f := 29) rfl ?_); refine goesL_ (some 48) rfl rfl Try.func29 (by kernel_rfl) rfl #[.slice A0 l0.length c0, .slice A1 l1.length c1] rfl (by (try simp only [List.map_toArray, List.map_cons, List.map_nil]); first | done | rfl | (simp only [List.length_drop, List.length_take]; rfl)) ?_; (with_reducible refine (laws_big.calls _ _ l0 _ _ l1 false _ ?side1 ?side2 ?side3 ?side4 A3.out).mono ?_); (case side1 => repeat (first | exact HR0.out | (with_reducible refine Kd.C_alloc ?_ _) | (with_reducible refine Kd.C_drewN ?_ _) | (with_reducible refine Kd.C_drew ?_))); (case side2 => exact HC0.out); (case side3 => repeat (first | exact HR1.out | (with_reducible refine Kd.C_alloc ?_ _) | (with_reducible refine Kd.C_drewN ?_ _) | (with_reducible refine Kd.C_drew ?_))); (case side4 => exact HC1.out); rintro e w' ⟨rfl, ⟨nd, rfl⟩⟩; refine ⟨_, rfl, ?_⟩) | ((with_reducible refine gate_callee (f := 40) rfl ?_); refine goesL_ (some 51) rfl rfl Try.func40 (by kernel_rfl) rfl #[.slice A0 l0.length c0] rfl (by (try simp only [List.map_toArray, List.map_cons, List.map_nil]); first | done | rfl | (simp only [List.length_drop, List.length_take]; rfl)) ?_; (with_reducible refine (spec_DrawTableOf.calls k _ _ l0 t824 t825 _ ?side1 ?side2 A5.out).mono ?_); (case side1 => repeat (first | exact HR0.out | (with_reducible refine Kd.C_alloc ?_ _) | (with_reducible refine Kd.C_drewN ?_ _) | (with_reducible refine Kd.C_drew ?_))); (case side2 => exact HC0.out); rintro e w9 ⟨v826, rfl, ho0, hb⟩; refine ⟨_, rfl, ?_⟩; have n0_ := aS_ (Kd.R_lower ho0 (below_size (by repeat (first | (with_reducible first | exact HB.out | apply bA_ | apply pN_ | apply bD_) | exact HB.out)))); have n1_ := aS_ (below_step (by repeat (first | (with_reducible first | exact HB.out | apply bA_ | apply pN_ | apply bD_) | exact HB.out)) hb); clear HB; have HO827 := n0_; have HB := n1_; clear n0_ n1_; (try clear hb); (try clear hb2); (try clear hk); (try clear hi); (try clear ho0); obtain ⟨Ao10, co10, eo10⟩ := Kd.R_slice HO827.out; subst eo10) | ((with_reducible refine gate_callee (f := 13) rfl ?_); refine goesL_ (some 57) rfl rfl Try.func13 (by kernel_rfl) rfl #[.int .i64 t824, .slice Ao10 t825.length co10] rfl (by (try simp only [List.map_toArray, List.map_cons, List.map_nil]); first | done | rfl | (simp only [List.length_drop, List.length_take]; rfl)) ?_; (with_reducible refine (impl_TableOf.calls k t824 _ _ t825 t828 t831 _ ?side1 ?side2 A6.out).mono ?_); (case side1 => repeat (first | exact (Kd.R_reads' HO827.out).2.2 | (with_reducible refine Kd.C_alloc ?_ _) | (with_reducible refine Kd.C_drewN ?_ _) | (with_reducible refine Kd.C_drew ?_))); (case side2 => exact (Kd.R_reads' HO827.out).2.1); rintro e w11 ⟨v829, rfl, ho0, hb⟩; refine ⟨_, rfl, ?_⟩; have n0_ := aS_ (Kd.R_elder' (by (with_reducible repeat (first | apply rA_ | apply rN_ | apply rD_)); exact HO827.out) (Kd.R_base ho0) hb); have n1_ := aS_ (Kd.R_lower (Kd.R_new' ho0 (Kd.R_lt (by (with_reducible repeat (first | apply rA_ | apply rN_ | apply rD_)); exact HO827.out))) (below_size (by repeat (first | (with_reducible first | exact HB.out | apply bA_ | apply pN_ | apply bD_) | exact HB.out)))); have n2_ := aS_ (below_step (by repeat (first | (with_reducible first | exact HB.out | apply bA_ | apply pN_ | apply bD_) | exact HB.out)) hb); clear HO827; clear HB; have HO827 := n0_; have HO830 := n1_; have HB := n2_; clear n0_ n1_ n2_; (try clear hb); (try clear hb2); (try clear hk); (try clear hi); (try clear ho0)) | ((with_reducible refine gate_dst (N := 7) rfl ?_); (try (refine gate_guard (by rfl) ?_; dsimp only)); refine box_event ?hg (N := 7) ?hd (cs := #[.slice none 0 0]) (t := 24) ?hr ?_; (case hd => rfl); (case hg => rfl); (case hr => first | (go_simp; done) | (go_simp; rfl)); intro gb832 hg w12 hbox hb; have n0_ := aS_ (Kd.R_below (by (with_reducible repeat (first | apply rA_ | apply rN_ | apply rD_)); exact HO827.out) hb); have n1_ := aS_ (Kd.R_below (by (with_reducible repeat (first | apply rA_ | apply rN_ | apply rD_)); exact HO830.out) hb); have n2_ := aS_ (below_step (by repeat (first | (with_reducible first | exact HB.out | apply bA_ | apply pN_ | apply bD_) | exact HB.out)) hb); have n3_ := aS_ (hbox); have n4_ := aS_ ((by rw [hg]; exact (below_size (by repeat (first | (with_reducible first | exact HB.out | apply bA_ | apply pN_ | apply bD_) | exact HB.out))) : w.heap.size ≤ gb832)); have n5_ := aS_ ((by rw [hg]; exact (below_size (by repeat (first | (with_reducible first | exact HB.out | apply bA_ | apply pN_ | apply bD_) | exact HB.out))) : w.heap.size ≤ gb832)); clear HO827; clear HO830; clear HB; have HO827 := n0_; have HO830 := n1_; have HB := n2_; have BK832 := n3_; have GW832 := n4_; have GE832 := n5_; clear n0_ n1_ n2_ n3_ n4_ n5_; clear hb hbox hg; obtain ⟨Ao13, co13, eo13⟩ := Kd.R_slice HO830.out; subst eo13; have hcz14_0 : w12.cell? ⟨gb832, 0, none⟩ = some (.slice none 0 0) := (blk_cell BK832.out 0).trans rfl; have hfz14_0 := blk_frozen BK832.out 0) | ((with_reducible refine gate_callee (f := 11) rfl ?_); refine goesL_ (some 63) rfl rfl Try.func11 (by kernel_rfl) rfl #[.int .i64 t824, .slice Ao10 t825.length co10] rfl (by (try simp only [List.map_toArray, List.map_cons, List.map_nil]); first | done | rfl | (simp only [List.length_drop, List.length_take]; rfl)) ?_; (with_reducible refine (spec_TableOf.calls k t824 _ _ t825 t833 t836 _ ?side1 ?side2 A7.out).mono ?_); (case side1 => refine (Kd.R_reads' (e := 3) (base := w.heap.size) (ok := fun k_ => (True ∧ some k_ ≠ (.slice Ao13 t828.length co13 : Value).ownBlock)) (n := t825.length) (c := co10) ?_).2.2; exact (by (with_reducible repeat (first | apply rA_ | apply rN_ | apply rD_)); exact (Kd.R_mono (Kd.R_far (p := ⟨gb832, 0, none⟩) (Kd.R_types HO827.out BK832.out (by decide)) (fun _ hk => hk.2) (.slice Ao13 t828.length co13)) (fun _ h_ => h_.1)))); (case side2 => exact (Kd.R_reads' HO827.out).2.1); rintro e w15 ⟨v834, rfl, ho0, hb⟩; refine ⟨_, rfl, ?_⟩; have n0_ := aS_ (Kd.R_elder' (by (with_reducible repeat (first | apply rA_ | apply rN_ | apply rD_)); exact (Kd.R_mono (Kd.R_far (p := ⟨gb832, 0, none⟩) (Kd.R_types HO827.out BK832.out (by decide)) (fun _ hk => hk.2) (.slice Ao13 t828.length co13)) (fun _ h_ => h_.1))) (Kd.R_base ho0) hb); have n1_ := aS_ (Kd.R_elder' (by (with_reducible repeat (first | apply rA_ | apply rN_ | apply rD_)); exact (Kd.R_mono (Kd.R_far (p := ⟨gb832, 0, none⟩) (Kd.R_types HO830.out BK832.out (by decide)) (fun _ hk => hk.2) (.slice Ao13 t828.length co13)) (fun _ h_ => h_.1))) (Kd.R_base ho0) hb); have n2_ := aS_ (Kd.R_lower (Kd.R_new' (Kd.R_new' ho0 (Kd.R_lt (by (with_reducible repeat (first | apply rA_ | apply rN_ | apply rD_)); exact (Kd.R_mono (Kd.R_far (p := ⟨gb832, 0, none⟩) (Kd.R_types HO827.out BK832.out (by decide)) (fun _ hk => hk.2) (.slice Ao13 t828.length co13)) (fun _ h_ => h_.1))))) (Kd.R_lt (by (with_reducible repeat (first | apply rA_ | apply rN_ | apply rD_)); exact (Kd.R_mono (Kd.R_far (p := ⟨gb832, 0, none⟩) (Kd.R_types HO830.out BK832.out (by decide)) (fun _ hk => hk.2) (.slice Ao13 t828.length co13)) (fun _ h_ => h_.1))))) (below_size (by repeat (first | (with_reducible first | exact HB.out | apply bA_ | apply pN_ | apply bD_ | refine bS_ ?_ GE832.out) | exact HB.out)))); have n3_ := aS_ (blk_below (g := gb832) (o := .cells #[.slice Ao13 t828.length co13] 24 (0, 0)) (by (with_reducible repeat (first | refine kN_ ?_ _ | refine kD_ ?_ | refine kA_ ?_ _)); refine blk_put (cs := #[.slice none 0 0]) ?_ 0 _ rfl; (with_reducible repeat (first | refine kN_ ?_ _ | refine kD_ ?_ | refine kA_ ?_ _)); exact BK832.out) hb); have n4_ := aS_ (below_step (by repeat (first | (with_reducible first | exact HB.out | apply bA_ | apply pN_ | apply bD_ | refine bS_ ?_ GE832.out) | exact HB.out)) hb); clear HO827; clear HO830; clear BK832; clear HB; have HO827 := n0_; have HO830 := n1_; have HO835 := n2_; have BK832 := n3_; have HB := n4_; clear n0_ n1_ n2_ n3_ n4_; (try clear hb); (try clear hb2); (try clear hk); (try clear hi); (try clear ho0)) | ((with_reducible refine gate_dst (N := 9) rfl ?_); (try (refine gate_guard (by rfl) ?_; dsimp only)); refine box_event ?hg (N := 9) ?hd (cs := #[.slice none 0 0]) (t := 24) ?hr ?_; (case hd => rfl); (case hg => rfl); (case hr => first | (go_simp; done) | (go_simp; rfl)); intro gb837 hg w16 hbox hb; have n0_ := aS_ (Kd.R_below (by (with_reducible repeat (first | apply rA_ | apply rN_ | apply rD_)); exact HO827.out) hb); have n1_ := aS_ (Kd.R_below (by (with_reducible repeat (first | apply rA_ | apply rN_ | apply rD_)); exact HO830.out) hb); have n2_ := aS_ (Kd.R_below (by (with_reducible repeat (first | apply rA_ | apply rN_ | apply rD_)); exact HO835.out) hb); have n3_ := aS_ (blk_below (g := gb832) (o := .cells #[.slice Ao13 t828.length co13] 24 (0, 0)) (by (with_reducible repeat (first | refine kN_ ?_ _ | refine kD_ ?_ | refine kA_ ?_ _)); exact BK832.out) hb); have n4_ := aS_ (below_step (by repeat (first | (with_reducible first | exact HB.out | apply bA_ | apply pN_ | apply bD_ | refine bS_ ?_ GE832.out) | exact HB.out)) hb); have n5_ := aS_ (hbox); have n6_ := aS_ ((by rw [hg]; exact (below_size (by repeat (first | (with_reducible first | exact HB.out | apply bA_ | apply pN_ | apply bD_ | refine bS_ ?_ GE832.out) | exact HB.out))) : w.heap.size ≤ gb837)); have n7_ := aS_ ((by rw [hg]; exact (below_size (by repeat (first | (with_reducible first | exact HB.out | apply bA_ | apply pN_ | apply bD_ | refine bS_ ?_ GE832.out) | exact HB.out))) : w.heap.size ≤ gb837)); have n8_ := aS_ ((by rw [hg]; exact Nat.ne_of_lt (blk_lt (g := gb832) (o := .cells #[.slice Ao13 t828.length co13] 24 (0, 0)) (by (with_reducible repeat (first | refine kN_ ?_ _ | refine kD_ ?_ | refine kA_ ?_ _)); exact BK832.out)) : gb832 ≠ gb837)); have n9_ := aS_ ((by rw [hg]; exact Nat.ne_of_gt (blk_lt (g := gb832) (o := .cells #[.slice Ao13 t828.length co13] 24 (0, 0)) (by (with_reducible repeat (first | refine kN_ ?_ _ | refine kD_ ?_ | refine kA_ ?_ _)); exact BK832.out)) : gb837 ≠ gb832)); clear HO827; clear HO830; clear HO835; clear BK832; clear HB; have HO827 := n0_; have HO830 := n1_; have HO835 := n2_; have BK832 := n3_; have HB := n4_; have BK837 := n5_; have GW837 := n6_; have GE837 := n7_; have NB832_837 := n8_; have NB837_832 := n9_; clear n0_ n1_ n2_ n3_ n4_ n5_ n6_ n7_ n8_ n9_; clear hb hbox hg; obtain ⟨Ao17, co17, eo17⟩ := Kd.R_slice HO835.out; subst eo17; have hnb18 := NB837_832.out; have hnc18 := NB832_837.out; have hcz19_0 : w16.cell? ⟨gb837, 0, none⟩ = some (.slice none 0 0) := (blk_cell BK837.out 0).trans rfl; have hfz19_0 := blk_frozen BK837.out 0))
  (try simp only [Act.put, List.setIfInBounds_toArray, List.set_cons_zero, List.set_cons_succ])
  go_cut [74] (fun v74 wc => ∃ (kq : Nat) (x74_7 : Bool), v74 = .bool x74_7 ∧ Aside0 (laws_FnTablesFill.j0 kq l1 t824 t825 t831 x74_7 t828 = some r) ∧ Aside0 (kq ≤ k) ∧ Aside0 (Kd.R (Kd.int .i64) 3 wc w.heap.size (fun k_ => some k_ ≠ ((.slice Ao13 t828.length co13) : Value).ownBlock ∧ some k_ ≠ ((.slice Ao17 t833.length co17) : Value).ownBlock) (.slice Ao10 t825.length co10) t825) ∧ Aside0 (Kd.R (Kd.int .i64) 3 wc w.heap.size (fun k_ => some k_ ≠ ((.slice Ao10 t825.length co10) : Value).ownBlock ∧ some k_ ≠ ((.slice Ao17 t833.length co17) : Value).ownBlock) (.slice Ao13 t828.length co13) t828) ∧ Aside0 (Kd.R (Kd.int .i64) 3 wc w.heap.size (fun k_ => some k_ ≠ ((.slice Ao10 t825.length co10) : Value).ownBlock ∧ some k_ ≠ ((.slice Ao13 t828.length co13) : Value).ownBlock) (.slice Ao17 t833.length co17) t833) ∧ Aside0 (wc.heap[gb832]? = some (.cells #[(.slice Ao13 t828.length co13)] 24 (0, 0))) ∧ Aside0 (wc.heap[gb837]? = some (.cells #[(.slice Ao17 t833.length co17)] 24 (0, 0))) ∧ Aside0 (Below w.heap.size w wc))
  case first =>
   have H := HC8.out
   clear HC8
   by_cases c20 : (t831 != t836) = true
   ·rw [if_pos c20] at H
    have c20b0 : (t831 != t836) = true := c20
    (try (have c20b1 : decide (t831 = t836) = false := by simpa using c20))
    (try (have c20b2 : (t831 == t836) = false := by simpa using c20))
    (try (have c20b3 : ¬ (t831 = t836) := by simpa using c20))
    clear c20
    (first | rw [c20b0] | (simp only [i64_w, i32_w]; rw [c20b0]) | skip)
    have H' := aS_ H
    clear H
    go_wp2
    go_meet
    case rel => exact ⟨_, (true), (by first | rfl | (simp; done) | (simp [*]; done)), H', ⟨by first | omega | exact Nat.le_refl _⟩, ⟨by (with_reducible repeat (first | apply rA_ | apply rN_ | apply rD_)); exact Kd.R_mono (Kd.R_far (p := ⟨gb837, 0, none⟩) (Kd.R_types HO827.out BK837.out (by decide)) (fun _ hk => hk.2) (.slice Ao17 t833.length co17)) (fun _ hk => by first | exact ⟨hk.1.1.2, hk.1.2⟩ | (repeat' first | exact hk.2 | exact hk.1.2 | exact hk.1.1.2 | exact hk.1.1.1.2 | exact hk.1.1.1.1 | exact hk.1.1.1 | exact hk.1.1 | exact hk.1 | refine And.intro ?_ ?_))⟩, ⟨by (with_reducible repeat (first | apply rA_ | apply rN_ | apply rD_)); exact Kd.R_mono (Kd.R_far (p := ⟨gb837, 0, none⟩) (Kd.R_types HO830.out BK837.out (by decide)) (fun _ hk => hk.2) (.slice Ao17 t833.length co17)) (fun _ hk => by first | exact ⟨hk.1.1.2, hk.1.2⟩ | (repeat' first | exact hk.2 | exact hk.1.2 | exact hk.1.1.2 | exact hk.1.1.1.2 | exact hk.1.1.1.1 | exact hk.1.1.1 | exact hk.1.1 | exact hk.1 | refine And.intro ?_ ?_))⟩, ⟨by (with_reducible repeat (first | apply rA_ | apply rN_ | apply rD_)); exact Kd.R_mono (Kd.R_far (p := ⟨gb837, 0, none⟩) (Kd.R_types HO835.out BK837.out (by decide)) (fun _ hk => hk.2) (.slice Ao17 t833.length co17)) (fun _ hk => by first | exact ⟨hk.1.1.2, hk.1.2⟩ | (repeat' first | exact hk.2 | exact hk.1.2 | exact hk.1.1.2 | exact hk.1.1.1.2 | exact hk.1.1.1.1 | exact hk.1.1.1 | exact hk.1.1 | exact hk.1 | refine And.intro ?_ ?_))⟩, ⟨by (with_reducible repeat (first | refine kN_ ?_ _ | refine kD_ ?_ | refine kA_ ?_ _)); refine blk_far ?_ NB832_837.out _; (with_reducible repeat (first | refine kN_ ?_ _ | refine kD_ ?_ | refine kA_ ?_ _)); exact BK832.out⟩, ⟨by (with_reducible repeat (first | refine kN_ ?_ _ | refine kD_ ?_ | refine kA_ ?_ _)); refine blk_put (cs := #[.slice none 0 0]) ?_ 0 _ rfl; (with_reducible repeat (first | refine kN_ ?_ _ | refine kD_ ?_ | refine kA_ ?_ _)); exact BK837.out⟩, ⟨by repeat (first | (with_reducible first | exact HB.out | apply bA_ | apply pN_ | apply bD_ | refine bS_ ?_ GE832.out | refine bS_ ?_ GE837.out) | exact HB.out)⟩⟩
   ·as_aux_lemma =>
    rw [if_neg c20] at H
    have c20b0 : (t831 != t836) = false := by simpa using c20
    (try (have c20b1 : decide (t831 = t836) = true := by simpa using c20))
    (try (have c20b2 : (t831 == t836) = true := by simpa using c20))
    clear c20
    (first | rw [c20b0] | (simp only [i64_w, i32_w]; rw [c20b0]) | skip)
    replace H := Option.bind_eq_some_iff.mp H
    obtain ⟨t838, A210, H⟩ := H
    have A21 := aS_ A210
    clear A210
    have H' := aS_ H
    clear H
    have hnb22 := NB832_837.out
    have hnc22 := NB837_832.out
    have hcz23_0 : w16.cell? ⟨gb832, 0, none⟩ = some (.slice Ao13 t828.length co13) := (blk_cell BK832.out 0).trans rfl
    have hfz23_0 := blk_frozen BK832.out 0
    have hcz24_0 : w16.cell? ⟨gb837, 0, none⟩ = some (.slice none 0 0) := (blk_cell BK837.out 0).trans rfl
    have hfz24_0 := blk_frozen BK837.out 0
    go_wp2_with (first | (go_at_call 31; (with_reducible refine (laws_jTable.calls k _ _ t828 _ _ t833 t838 _ ?side1 ?side2 ?side3 ?side4 A21.out).mono ?_); (case side1 => refine (Kd.R_reads' (e := 3) (base := w.heap.size) (ok := fun k_ => ((True ∧ some k_ ≠ (.slice Ao10 t825.length co10 : Value).ownBlock) ∧ some k_ ≠ (.slice Ao17 t833.length co17 : Value).ownBlock)) (n := t828.length) (c := co13) ?_).2.2; exact (by (with_reducible repeat (first | apply rA_ | apply rN_ | apply rD_)); exact (Kd.R_mono (Kd.R_far (p := ⟨gb837, 0, none⟩) (Kd.R_types HO830.out BK837.out (by decide)) (fun _ hk => hk.2) (.slice Ao17 t833.length co17)) (fun _ h_ => h_.1)))); (case side2 => exact (Kd.R_reads' HO830.out).2.1); (case side3 => refine (Kd.R_reads' (e := 3) (base := w.heap.size) (ok := fun k_ => ((True ∧ some k_ ≠ (.slice Ao10 t825.length co10 : Value).ownBlock) ∧ some k_ ≠ (.slice Ao13 t828.length co13 : Value).ownBlock)) (n := t833.length) (c := co17) ?_).2.2; exact (by (with_reducible repeat (first | apply rA_ | apply rN_ | apply rD_)); exact (Kd.R_mono (Kd.R_far (p := ⟨gb837, 0, none⟩) (Kd.R_types HO835.out BK837.out (by decide)) (fun _ hk => hk.2) (.slice Ao17 t833.length co17)) (fun _ h_ => h_.1)))); (case side4 => exact (Kd.R_reads' HO835.out).2.1); rintro e w25 ⟨rfl, hb⟩; have n0_ := aS_ (Kd.R_below (by (with_reducible repeat (first | apply rA_ | apply rN_ | apply rD_)); exact (Kd.R_mono (Kd.R_far (p := ⟨gb837, 0, none⟩) (Kd.R_types HO827.out BK837.out (by decide)) (fun _ hk => hk.2) (.slice Ao17 t833.length co17)) (fun _ h_ => h_.1))) hb); have n1_ := aS_ (Kd.R_below (by (with_reducible repeat (first | apply rA_ | apply rN_ | apply rD_)); exact (Kd.R_mono (Kd.R_far (p := ⟨gb837, 0, none⟩) (Kd.R_types HO830.out BK837.out (by decide)) (fun _ hk => hk.2) (.slice Ao17 t833.length co17)) (fun _ h_ => h_.1))) hb); have n2_ := aS_ (Kd.R_below (by (with_reducible repeat (first | apply rA_ | apply rN_ | apply rD_)); exact (Kd.R_mono (Kd.R_far (p := ⟨gb837, 0, none⟩) (Kd.R_types HO835.out BK837.out (by decide)) (fun _ hk => hk.2) (.slice Ao17 t833.length co17)) (fun _ h_ => h_.1))) hb); have n3_ := aS_ (blk_below (g := gb832) (o := .cells #[.slice Ao13 t828.length co13] 24 (0, 0)) (by (with_reducible repeat (first | refine kN_ ?_ _ | refine kD_ ?_ | refine kA_ ?_ _)); refine blk_far ?_ NB832_837.out _; (with_reducible repeat (first | refine kN_ ?_ _ | refine kD_ ?_ | refine kA_ ?_ _)); exact BK832.out) hb); have n4_ := aS_ (blk_below (g := gb837) (o := .cells #[.slice Ao17 t833.length co17] 24 (0, 0)) (by (with_reducible repeat (first | refine kN_ ?_ _ | refine kD_ ?_ | refine kA_ ?_ _)); refine blk_put (cs := #[.slice none 0 0]) ?_ 0 _ rfl; (with_reducible repeat (first | refine kN_ ?_ _ | refine kD_ ?_ | refine kA_ ?_ _)); exact BK837.out) hb); have n5_ := aS_ (below_step (by repeat (first | (with_reducible first | exact HB.out | apply bA_ | apply pN_ | apply bD_ | refine bS_ ?_ GE832.out | refine bS_ ?_ GE837.out) | exact HB.out)) hb); clear HO827; clear HO830; clear HO835; clear BK832; clear BK837; clear HB; have HO827 := n0_; have HO830 := n1_; have HO835 := n2_; have BK832 := n3_; have BK837 := n4_; have HB := n5_; clear n0_ n1_ n2_ n3_ n4_ n5_; (try clear hb); (try clear hb2); (try clear hk); (try clear hi)))
    go_meet
    case rel => exact ⟨_, (!t838), (by first | rfl | (simp; done) | (simp [*]; done)), H', ⟨by first | omega | exact Nat.le_refl _⟩, ⟨by (with_reducible repeat (first | apply rA_ | apply rN_ | apply rD_)); exact Kd.R_mono HO827.out (fun _ hk => by first | exact ⟨hk.1.2, hk.2⟩ | (repeat' first | exact hk.2 | exact hk.1.2 | exact hk.1.1.2 | exact hk.1.1.1.2 | exact hk.1.1.1.1 | exact hk.1.1.1 | exact hk.1.1 | exact hk.1 | refine And.intro ?_ ?_))⟩, ⟨by (with_reducible repeat (first | apply rA_ | apply rN_ | apply rD_)); exact Kd.R_mono HO830.out (fun _ hk => by first | exact ⟨hk.1.2, hk.2⟩ | (repeat' first | exact hk.2 | exact hk.1.2 | exact hk.1.1.2 | exact hk.1.1.1.2 | exact hk.1.1.1.1 | exact hk.1.1.1 | exact hk.1.1 | exact hk.1 | refine And.intro ?_ ?_))⟩, ⟨by (with_reducible repeat (first | apply rA_ | apply rN_ | apply rD_)); exact Kd.R_mono HO835.out (fun _ hk => by first | exact ⟨hk.1.2, hk.2⟩ | (repeat' first | exact hk.2 | exact hk.1.2 | exact hk.1.1.2 | exact hk.1.1.1.2 | exact hk.1.1.1.1 | exact hk.1.1.1 | exact hk.1.1 | exact hk.1 | refine And.intro ?_ ?_))⟩, ⟨by (with_reducible repeat (first | refine kN_ ?_ _ | refine kD_ ?_ | refine kA_ ?_ _)); exact BK832.out⟩, ⟨by (with_reducible repeat (first | refine kN_ ?_ _ | refine kD_ ?_ | refine kA_ ?_ _)); exact BK837.out⟩, ⟨by repeat (first | (with_reducible first | exact HB.out | apply bA_ | apply pN_ | apply bD_ | refine bS_ ?_ GE832.out | refine bS_ ?_ GE837.out) | exact HB.out)⟩⟩
  case rest =>
   clear HC8
   try clear c1
   try clear c2
   try clear p2
   try clear c4
   try clear c9
   try clear c11
   try clear c13
   try clear c18
   try clear c20
   try clear c20b0
   try clear c20b1
   try clear c20b2
   try clear c22
   try clear hcz14_0
   try clear hcz19_0
   try clear hcz23_0
   try clear hcz24_0
   try clear hfz14_0
   try clear hfz19_0
   try clear hfz23_0
   try clear hfz24_0
   obtain ⟨kq, x74_7, rfl, HA, HJ7, HO_6, HO_833000, HO_838000, BK832, BK837, HB⟩ := hcut
   cases kq with
   | zero => exact absurd HA.out (by simp [laws_FnTablesFill.j0])
   | succ kj7 =>
    have H := HA.out
    clear HA
    simp only [laws_FnTablesFill.j0] at H
    by_cases c26 : x74_7 = true
    ·subst c26
     rw [if_pos rfl] at H
     obtain rfl := Option.some.inj H
     go_wp2
     go_ret
     exact ⟨by first | rfl | (simp [errW_none, errW_some] <;> rfl) | (simp [*, errW_none, errW_some] <;> rfl), by repeat (first | (with_reducible first | exact HB.out | apply bA_ | apply pN_ | apply bD_ | refine bS_ ?_ GE832.out | refine bS_ ?_ GE837.out) | exact HB.out)⟩
    ·as_aux_lemma =>
     replace c26 := Bool.eq_false_iff.mpr c26
     subst c26
     rw [if_neg (show ¬ (false = true) by decide)] at H
     have HC27 := aS_ H
     clear H
     go_upto_if 75 with (fail)
     go_cut [] (fun wc => ∃ (kq : Nat), Aside0 (laws_FnTablesFill.j4 kq l1 = some r) ∧ Aside0 (kq ≤ kj7) ∧ Aside0 (Kd.R (Kd.int .i64) 3 wc w.heap.size (fun k_ => some k_ ≠ ((.slice Ao17 t833.length co17) : Value).ownBlock) (.slice Ao13 t828.length co13) t828) ∧ Aside0 (Kd.R (Kd.int .i64) 3 wc w.heap.size (fun k_ => some k_ ≠ ((.slice Ao13 t828.length co13) : Value).ownBlock) (.slice Ao17 t833.length co17) t833) ∧ Aside0 (wc.heap[gb832]? = some (.cells #[(.slice Ao13 t828.length co13)] 24 (0, 0))) ∧ Aside0 (wc.heap[gb837]? = some (.cells #[(.slice Ao17 t833.length co17)] 24 (0, 0))) ∧ Aside0 (Below w.heap.size w wc))
     case first =>
      have H := HC27.out
      clear HC27
      by_cases c28 : t831 = true
      ·as_aux_lemma =>
       subst c28
       rw [if_pos rfl] at H
       replace H := Option.bind_eq_some_iff.mp H
       obtain ⟨⟨t839, t842⟩, A290, H⟩ := H
       have A29 := aS_ A290
       clear A290
       replace H := Option.bind_eq_some_iff.mp H
       obtain ⟨⟨t843, t844⟩, A300, H⟩ := H
       have A30 := aS_ A300
       clear A300
       have HC31 := aS_ H
       clear H
       have hnb32 := NB832_837.out
       have hnc32 := NB837_832.out
       have hcz33_0 : wc.cell? ⟨gb832, 0, none⟩ = some (.slice Ao13 t828.length co13) := (blk_cell BK832.out 0).trans rfl
       have hfz33_0 := blk_frozen BK832.out 0
       go_upto_if 89 with (first | ((with_reducible refine gate_callee (f := 34) rfl ?_); refine goesL_ (some 78) rfl rfl Try.func34 (by kernel_rfl) rfl #[.agg #[.slice Ao13 t828.length co13]] rfl (by (try simp only [List.map_toArray, List.map_cons, List.map_nil]); first | done | rfl | (simp only [List.length_drop, List.length_take]; rfl)) ?_; (with_reducible refine (impl_UsedCells.calls kj7 _ _ t828 t839 t842 _ ?side1 ?side2 A29.out).mono ?_); (case side1 => repeat (first | exact (Kd.R_reads' HO_833000.out).2.2 | (with_reducible refine Kd.C_alloc ?_ _) | (with_reducible refine Kd.C_drewN ?_ _) | (with_reducible refine Kd.C_drew ?_))); (case side2 => exact (Kd.R_reads' HO_833000.out).2.1); rintro e w34 ⟨v840, rfl, ho0, hb⟩; refine ⟨_, rfl, ?_⟩; have n0_ := aS_ (Kd.R_elder' (by (with_reducible repeat (first | apply rA_ | apply rN_ | apply rD_)); exact HO_6.out) (Kd.R_base ho0) hb); have n1_ := aS_ (Kd.R_elder' (by (with_reducible repeat (first | apply rA_ | apply rN_ | apply rD_)); exact HO_833000.out) (Kd.R_base ho0) hb); have n2_ := aS_ (Kd.R_elder' (by (with_reducible repeat (first | apply rA_ | apply rN_ | apply rD_)); exact HO_838000.out) (Kd.R_base ho0) hb); have n3_ := aS_ (Kd.R_lower (Kd.R_new' (Kd.R_new' (Kd.R_new' ho0 (Kd.R_lt (by (with_reducible repeat (first | apply rA_ | apply rN_ | apply rD_)); exact HO_6.out))) (Kd.R_lt (by (with_reducible repeat (first | apply rA_ | apply rN_ | apply rD_)); exact HO_833000.out))) (Kd.R_lt (by (with_reducible repeat (first | apply rA_ | apply rN_ | apply rD_)); exact HO_838000.out))) (below_size (by repeat (first | (with_reducible first | exact HB.out | apply bA_ | apply pN_ | apply bD_ | refine bS_ ?_ GE832.out | refine bS_ ?_ GE837.out) | exact HB.out)))); have n4_ := aS_ (blk_below (g := gb832) (o := .cells #[.slice Ao13 t828.length co13] 24 (0, 0)) (by (with_reducible repeat (first | refine kN_ ?_ _ | refine kD_ ?_ | refine kA_ ?_ _)); exact BK832.out) hb); have n5_ := aS_ (blk_below (g := gb837) (o := .cells #[.slice Ao17 t833.length co17] 24 (0, 0)) (by (with_reducible repeat (first | refine kN_ ?_ _ | refine kD_ ?_ | refine kA_ ?_ _)); exact BK837.out) hb); have n6_ := aS_ (below_step (by repeat (first | (with_reducible first | exact HB.out | apply bA_ | apply pN_ | apply bD_ | refine bS_ ?_ GE832.out | refine bS_ ?_ GE837.out) | exact HB.out)) hb); clear HO_6; clear HO_833000; clear HO_838000; clear BK832; clear BK837; clear HB; have HO_6 := n0_; have HO_833000 := n1_; have HO_838000 := n2_; have HO841 := n3_; have BK832 := n4_; have BK837 := n5_; have HB := n6_; clear n0_ n1_ n2_ n3_ n4_ n5_ n6_; (try clear hb); (try clear hb2); (try clear hk); (try clear hi); (try clear ho0); have hcz35_0 : w34.cell? ⟨gb832, 0, none⟩ = some (.slice Ao13 t828.length co13) := (blk_cell BK832.out 0).trans rfl; have hfz35_0 := blk_frozen BK832.out 0) | ((with_reducible refine gate_callee (f := 35) rfl ?_); refine goesL_ (some 83) rfl rfl Try.func35 (by kernel_rfl) rfl #[.agg #[.slice Ao13 t828.length co13]] rfl (by (try simp only [List.map_toArray, List.map_cons, List.map_nil]); first | done | rfl | (simp only [List.length_drop, List.length_take]; rfl)) ?_; (with_reducible refine (impl_CostOf.calls kj7 _ _ t828 t843 t844 _ ?side1 ?side2 A30.out).mono ?_); (case side1 => repeat (first | exact (Kd.R_reads' HO_833000.out).2.2 | (with_reducible refine Kd.C_alloc ?_ _) | (with_reducible refine Kd.C_drewN ?_ _) | (with_reducible refine Kd.C_drew ?_))); (case side2 => exact (Kd.R_reads' HO_833000.out).2.1); rintro e w36 ⟨rfl, hb⟩; refine ⟨_, rfl, ?_⟩; have n0_ := aS_ (Kd.R_below (by (with_reducible repeat (first | apply rA_ | apply rN_ | apply rD_)); exact HO_6.out) hb); have n1_ := aS_ (Kd.R_below (by (with_reducible repeat (first | apply rA_ | apply rN_ | apply rD_)); exact HO_833000.out) hb); have n2_ := aS_ (Kd.R_below (by (with_reducible repeat (first | apply rA_ | apply rN_ | apply rD_)); exact HO_838000.out) hb); have n3_ := aS_ (Kd.R_below (by (with_reducible repeat (first | apply rA_ | apply rN_ | apply rD_)); exact HO841.out) hb); have n4_ := aS_ (blk_below (g := gb832) (o := .cells #[.slice Ao13 t828.length co13] 24 (0, 0)) (by (with_reducible repeat (first | refine kN_ ?_ _ | refine kD_ ?_ | refine kA_ ?_ _)); exact BK832.out) hb); have n5_ := aS_ (blk_below (g := gb837) (o := .cells #[.slice Ao17 t833.length co17] 24 (0, 0)) (by (with_reducible repeat (first | refine kN_ ?_ _ | refine kD_ ?_ | refine kA_ ?_ _)); exact BK837.out) hb); have n6_ := aS_ (below_step (by repeat (first | (with_reducible first | exact HB.out | apply bA_ | apply pN_ | apply bD_ | refine bS_ ?_ GE832.out | refine bS_ ?_ GE837.out) | exact HB.out)) hb); clear HO_6; clear HO_833000; clear HO_838000; clear HO841; clear BK832; clear BK837; clear HB; have HO_6 := n0_; have HO_833000 := n1_; have HO_838000 := n2_; have HO841 := n3_; have BK832 := n4_; have BK837 := n5_; have HB := n6_; clear n0_ n1_ n2_ n3_ n4_ n5_ n6_; (try clear hb); (try clear hb2); (try clear hk); (try clear hi)))
       (try simp only [Act.put, List.setIfInBounds_toArray, List.set_cons_zero, List.set_cons_succ])
       go_cut [15] (fun v15 wc => ∃ (kq : Nat) (x15_30 : List Int), Aside0 (laws_FnTablesFill.j1 kq l1 t824 t825 t839 t842 t843 t844 x15_30 t828 = some r) ∧ Aside0 (kq ≤ kj7) ∧ Aside0 (Kd.R (Kd.int .i64) 3 wc w.heap.size (fun k_ => some k_ ≠ (v840 : Value).ownBlock ∧ some k_ ≠ ((.slice Ao13 t828.length co13) : Value).ownBlock ∧ some k_ ≠ ((.slice Ao17 t833.length co17) : Value).ownBlock) (.slice Ao10 t825.length co10) t825) ∧ Aside0 (Kd.R (Kd.int .i64) 3 wc w.heap.size (fun k_ => some k_ ≠ ((.slice Ao10 t825.length co10) : Value).ownBlock ∧ some k_ ≠ (v15 : Value).ownBlock ∧ some k_ ≠ ((.slice Ao13 t828.length co13) : Value).ownBlock ∧ some k_ ≠ ((.slice Ao17 t833.length co17) : Value).ownBlock) v840 t839) ∧ Aside0 (Kd.R (Kd.int .i64) 3 wc w.heap.size (fun k_ => some k_ ≠ (v840 : Value).ownBlock ∧ some k_ ≠ ((.slice Ao13 t828.length co13) : Value).ownBlock ∧ some k_ ≠ ((.slice Ao17 t833.length co17) : Value).ownBlock) v15 x15_30) ∧ Aside0 (Kd.R (Kd.int .i64) 3 wc w.heap.size (fun k_ => some k_ ≠ ((.slice Ao10 t825.length co10) : Value).ownBlock ∧ some k_ ≠ (v840 : Value).ownBlock ∧ some k_ ≠ (v15 : Value).ownBlock ∧ some k_ ≠ ((.slice Ao17 t833.length co17) : Value).ownBlock) (.slice Ao13 t828.length co13) t828) ∧ Aside0 (Kd.R (Kd.int .i64) 3 wc w.heap.size (fun k_ => some k_ ≠ ((.slice Ao10 t825.length co10) : Value).ownBlock ∧ some k_ ≠ (v840 : Value).ownBlock ∧ some k_ ≠ (v15 : Value).ownBlock ∧ some k_ ≠ ((.slice Ao13 t828.length co13) : Value).ownBlock) (.slice Ao17 t833.length co17) t833) ∧ Aside0 (wc.heap[gb832]? = some (.cells #[(.slice Ao13 t828.length co13)] 24 (0, 0))) ∧ Aside0 (wc.heap[gb837]? = some (.cells #[(.slice Ao17 t833.length co17)] 24 (0, 0))) ∧ Aside0 (Below w.heap.size w wc))
       case first =>
        have H := HC31.out
        clear HC31
        by_cases c37 : (t825.length : Int) > 1
        ·as_aux_lemma =>
         rw [if_pos c37] at H
         have c37b0 : decide (1 < (t825.length : Int)) = true := decide_eq_true c37
         have c37b1 : decide (1 < t825.length) = true := decide_eq_true (by omega)
         clear c37
         (first | rw [c37b0] | (simp only [i64_w, i32_w]; rw [c37b0]) | rw [c37b1] | skip)
         replace H := Option.bind_eq_some_iff.mp H
         obtain ⟨t845, A380, H⟩ := H
         have A38 := aS_ A380
         clear A380
         by_cases c39 : (wrap64 ((t825.length : Int) - 1)) = 0
         ·rw [if_pos c39] at H
          exact absurd H (by simp)
         ·as_aux_lemma =>
          rw [if_neg c39] at H
          have c39b0 : ((wrap64 ((t825.length : Int) - 1)) == 0) = false := beq_eq_false_iff_ne.mpr c39
          have c39b1 : ((wrap64 ((t825.length : Int) - 1)) != 0) = true := bne_iff_ne.mpr c39
          replace H := Option.bind_eq_some_iff.mp H
          obtain ⟨t846, A400, H⟩ := H
          have A40 := aS_ A400
          clear A400
          have H' := aS_ H
          clear H
          go_wp2_with (first | ((with_reducible refine gate_callee (f := 33) rfl ?_); refine goesL_ (some 92) rfl rfl Try.func33 (by kernel_rfl) rfl #[.slice A1 l1.length c1] rfl (by (try simp only [List.map_toArray, List.map_cons, List.map_nil]); first | done | rfl | (simp only [List.length_drop, List.length_take]; rfl)) ?_; (with_reducible refine (laws_numberOf.calls kj7 _ _ l1 t845 _ ?side1 ?side2 A38.out).mono ?_); (case side1 => repeat (first | exact (Kd.C_below HR1.out HB.out) | (with_reducible refine Kd.C_alloc ?_ _) | (with_reducible refine Kd.C_drewN ?_ _) | (with_reducible refine Kd.C_drew ?_))); (case side2 => exact HC1.out); rintro e w' ⟨rfl, ⟨nd, rfl⟩⟩; refine ⟨_, rfl, ?_⟩) | ((with_reducible refine gate_callee (f := 32) rfl ?_); refine goesL_ (some 97) rfl rfl Try.func32 (by kernel_rfl) rfl #[.slice Ao10 t825.length co10, .int .i64 (Int.tmod t845 (wrap64 ((t825.length : Int) - 1)))] rfl (by (try simp only [List.map_toArray, List.map_cons, List.map_nil]); first | done | rfl | (simp only [List.length_drop, List.length_take]; rfl)) ?_; (with_reducible refine (laws_jSwapped.calls _ _ t825 (Int.tmod t845 (wrap64 ((t825.length : Int) - 1))) t846 _ ?side1 ?side2 A40.out).mono ?_); (case side1 => repeat (first | exact (Kd.R_reads' HO_6.out).2.2 | (with_reducible refine Kd.C_alloc ?_ _) | (with_reducible refine Kd.C_drewN ?_ _) | (with_reducible refine Kd.C_drew ?_))); (case side2 => exact (Kd.R_reads' HO_6.out).2.1); rintro e w41 ⟨v847, rfl, ho0, hb⟩; refine ⟨_, rfl, ?_⟩; have n0_ := aS_ (Kd.R_elder' (by (with_reducible repeat (first | apply rA_ | apply rN_ | apply rD_)); exact HO_6.out) (Kd.R_base ho0) hb); have n1_ := aS_ (Kd.R_elder' (by (with_reducible repeat (first | apply rA_ | apply rN_ | apply rD_)); exact HO_833000.out) (Kd.R_base ho0) hb); have n2_ := aS_ (Kd.R_elder' (by (with_reducible repeat (first | apply rA_ | apply rN_ | apply rD_)); exact HO_838000.out) (Kd.R_base ho0) hb); have n3_ := aS_ (Kd.R_elder' (by (with_reducible repeat (first | apply rA_ | apply rN_ | apply rD_)); exact HO841.out) (Kd.R_base ho0) hb); have n4_ := aS_ (Kd.R_lower (Kd.R_new' (Kd.R_new' (Kd.R_new' (Kd.R_new' ho0 (Kd.R_lt (by (with_reducible repeat (first | apply rA_ | apply rN_ | apply rD_)); exact HO_6.out))) (Kd.R_lt (by (with_reducible repeat (first | apply rA_ | apply rN_ | apply rD_)); exact HO_833000.out))) (Kd.R_lt (by (with_reducible repeat (first | apply rA_ | apply rN_ | apply rD_)); exact HO_838000.out))) (Kd.R_lt (by (with_reducible repeat (first | apply rA_ | apply rN_ | apply rD_)); exact HO841.out))) (below_size (by repeat (first | (with_reducible first | exact HB.out | apply bA_ | apply pN_ | apply bD_ | refine bS_ ?_ GE832.out | refine bS_ ?_ GE837.out) | exact HB.out)))); have n5_ := aS_ (blk_below (g := gb832) (o := .cells #[.slice Ao13 t828.length co13] 24 (0, 0)) (by (with_reducible repeat (first | refine kN_ ?_ _ | refine kD_ ?_ | refine kA_ ?_ _)); exact BK832.out) hb); have n6_ := aS_ (blk_below (g := gb837) (o := .cells #[.slice Ao17 t833.length co17] 24 (0, 0)) (by (with_reducible repeat (first | refine kN_ ?_ _ | refine kD_ ?_ | refine kA_ ?_ _)); exact BK837.out) hb); have n7_ := aS_ (below_step (by repeat (first | (with_reducible first | exact HB.out | apply bA_ | apply pN_ | apply bD_ | refine bS_ ?_ GE832.out | refine bS_ ?_ GE837.out) | exact HB.out)) hb); clear HO_6; clear HO_833000; clear HO_838000; clear HO841; clear BK832; clear BK837; clear HB; have HO_6 := n0_; have HO_833000 := n1_; have HO_838000 := n2_; have HO841 := n3_; have HO848 := n4_; have BK832 := n5_; have BK837 := n6_; have HB := n7_; clear n0_ n1_ n2_ n3_ n4_ n5_ n6_ n7_; (try clear hb); (try clear hb2); (try clear hk); (try clear hi); (try clear ho0)))
          go_meet
          case rel => exact ⟨_, (t846), H', ⟨by have := HJ7.out; first | omega | exact Nat.le_refl _⟩, ⟨by (with_reducible repeat (first | apply rA_ | apply rN_ | apply rD_)); exact Kd.R_mono HO_6.out (fun _ hk => by first | exact ⟨hk.1.2, ⟨hk.2, ⟨hk.1.1.1, hk.1.1.2⟩⟩⟩ | (repeat' first | exact hk.2 | exact hk.1.2 | exact hk.1.1.2 | exact hk.1.1.1.2 | exact hk.1.1.1.1 | exact hk.1.1.1 | exact hk.1.1 | exact hk.1 | refine And.intro ?_ ?_))⟩, ⟨by (with_reducible repeat (first | apply rA_ | apply rN_ | apply rD_)); exact Kd.R_mono HO841.out (fun _ hk => by first | exact ⟨hk.1.1.1.2, ⟨hk.2, ⟨hk.1.1.2, hk.1.2⟩⟩⟩ | (repeat' first | exact hk.2 | exact hk.1.2 | exact hk.1.1.2 | exact hk.1.1.1.2 | exact hk.1.1.1.1 | exact hk.1.1.1 | exact hk.1.1 | exact hk.1 | refine And.intro ?_ ?_))⟩, ⟨by (with_reducible repeat (first | apply rA_ | apply rN_ | apply rD_)); exact Kd.R_mono HO848.out (fun _ hk => by first | exact ⟨hk.1.1.1.2, ⟨hk.2, ⟨hk.1.1.2, hk.1.2⟩⟩⟩ | (repeat' first | exact hk.2 | exact hk.1.2 | exact hk.1.1.2 | exact hk.1.1.1.2 | exact hk.1.1.1.1 | exact hk.1.1.1 | exact hk.1.1 | exact hk.1 | refine And.intro ?_ ?_))⟩, ⟨by (with_reducible repeat (first | apply rA_ | apply rN_ | apply rD_)); exact Kd.R_mono HO_833000.out (fun _ hk => by first | exact ⟨hk.1.1.1, ⟨hk.1.2, ⟨hk.2, hk.1.1.2⟩⟩⟩ | (repeat' first | exact hk.2 | exact hk.1.2 | exact hk.1.1.2 | exact hk.1.1.1.2 | exact hk.1.1.1.1 | exact hk.1.1.1 | exact hk.1.1 | exact hk.1 | refine And.intro ?_ ?_))⟩, ⟨by (with_reducible repeat (first | apply rA_ | apply rN_ | apply rD_)); exact Kd.R_mono HO_838000.out (fun _ hk => by first | exact ⟨hk.1.1.1, ⟨hk.1.2, ⟨hk.2, hk.1.1.2⟩⟩⟩ | (repeat' first | exact hk.2 | exact hk.1.2 | exact hk.1.1.2 | exact hk.1.1.1.2 | exact hk.1.1.1.1 | exact hk.1.1.1 | exact hk.1.1 | exact hk.1 | refine And.intro ?_ ?_))⟩, ⟨by (with_reducible repeat (first | refine kN_ ?_ _ | refine kD_ ?_ | refine kA_ ?_ _)); exact BK832.out⟩, ⟨by (with_reducible repeat (first | refine kN_ ?_ _ | refine kD_ ?_ | refine kA_ ?_ _)); exact BK837.out⟩, ⟨by repeat (first | (with_reducible first | exact HB.out | apply bA_ | apply pN_ | apply bD_ | refine bS_ ?_ GE832.out | refine bS_ ?_ GE837.out) | exact HB.out)⟩⟩
        ·rw [if_neg c37] at H
         have c37b0 : decide (1 < (t825.length : Int)) = false := decide_eq_false c37
         have c37b1 : decide (1 < t825.length) = false := decide_eq_false (by omega)
         clear c37
         (first | rw [c37b0] | (simp only [i64_w, i32_w]; rw [c37b0]) | rw [c37b1] | skip)
         have H' := aS_ H
         clear H
         go_wp2
         go_meet
         case rel => exact ⟨_, (t825), H', ⟨by have := HJ7.out; first | omega | exact Nat.le_refl _⟩, ⟨by (with_reducible repeat (first | apply rA_ | apply rN_ | apply rD_)); exact Kd.R_mono HO_6.out (fun _ hk => by first | exact ⟨hk.2, ⟨hk.1.1, hk.1.2⟩⟩ | (repeat' first | exact hk.2 | exact hk.1.2 | exact hk.1.1.2 | exact hk.1.1.1.2 | exact hk.1.1.1.1 | exact hk.1.1.1 | exact hk.1.1 | exact hk.1 | refine And.intro ?_ ?_))⟩, ⟨by (with_reducible repeat (first | apply rA_ | apply rN_ | apply rD_)); exact Kd.R_mono HO841.out (fun _ hk => by first | exact ⟨hk.1.1.2, ⟨hk.1.1.2, ⟨hk.1.2, hk.2⟩⟩⟩ | (repeat' first | exact hk.2 | exact hk.1.2 | exact hk.1.1.2 | exact hk.1.1.1.2 | exact hk.1.1.1.1 | exact hk.1.1.1 | exact hk.1.1 | exact hk.1 | refine And.intro ?_ ?_))⟩, ⟨by (with_reducible repeat (first | apply rA_ | apply rN_ | apply rD_)); exact Kd.R_mono HO_6.out (fun _ hk => by first | exact ⟨hk.2, ⟨hk.1.1, hk.1.2⟩⟩ | (repeat' first | exact hk.2 | exact hk.1.2 | exact hk.1.1.2 | exact hk.1.1.1.2 | exact hk.1.1.1.1 | exact hk.1.1.1 | exact hk.1.1 | exact hk.1 | refine And.intro ?_ ?_))⟩, ⟨by (with_reducible repeat (first | apply rA_ | apply rN_ | apply rD_)); exact Kd.R_mono HO_833000.out (fun _ hk => by first | exact ⟨hk.1.1, ⟨hk.2, ⟨hk.1.1, hk.1.2⟩⟩⟩ | (repeat' first | exact hk.2 | exact hk.1.2 | exact hk.1.1.2 | exact hk.1.1.1.2 | exact hk.1.1.1.1 | exact hk.1.1.1 | exact hk.1.1 | exact hk.1 | refine And.intro ?_ ?_))⟩, ⟨by (with_reducible repeat (first | apply rA_ | apply rN_ | apply rD_)); exact Kd.R_mono HO_838000.out (fun _ hk => by first | exact ⟨hk.1.1, ⟨hk.2, ⟨hk.1.1, hk.1.2⟩⟩⟩ | (repeat' first | exact hk.2 | exact hk.1.2 | exact hk.1.1.2 | exact hk.1.1.1.2 | exact hk.1.1.1.1 | exact hk.1.1.1 | exact hk.1.1 | exact hk.1 | refine And.intro ?_ ?_))⟩, ⟨by (with_reducible repeat (first | refine kN_ ?_ _ | refine kD_ ?_ | refine kA_ ?_ _)); exact BK832.out⟩, ⟨by (with_reducible repeat (first | refine kN_ ?_ _ | refine kD_ ?_ | refine kA_ ?_ _)); exact BK837.out⟩, ⟨by repeat (first | (with_reducible first | exact HB.out | apply bA_ | apply pN_ | apply bD_ | refine bS_ ?_ GE832.out | refine bS_ ?_ GE837.out) | exact HB.out)⟩⟩
       case rest =>
        clear HC31
        try clear c1
        try clear c2
        try clear p2
        try clear c3
        try clear c4
        try clear p6
        try clear c9
        try clear c11
        try clear c13
        try clear c18
        try clear c20
        try clear c20b0
        try clear c20b1
        try clear c20b2
        try clear c22
        try clear c26
        try clear c28
        try clear c29
        try clear c32
        try clear c33
        try clear c34
        try clear c35
        try clear c37
        try clear c37b0
        try clear c37b1
        try clear c39
        try clear c39b0
        try clear c39b1
        try clear c40
        try clear hcz14_0
        try clear hcz19_0
        try clear hcz23_0
        try clear hcz24_0
        try clear hcz33_0
        try clear hcz35_0
        try clear hfz14_0
        try clear hfz19_0
        try clear hfz23_0
        try clear hfz24_0
        try clear hfz33_0
        try clear hfz35_0
        try clear p2
        obtain ⟨kq, x15_30, HA, HJ30, HO_6, HO_11, HO_15, HO_833000, HO_838000, BK832, BK837, HB⟩ := hcut
        cases kq with
        | zero => exact absurd HA.out (by simp [laws_FnTablesFill.j1])
        | succ kj30 =>
         have H := HA.out
         clear HA
         simp only [laws_FnTablesFill.j1] at H
         replace H := Option.bind_eq_some_iff.mp H
         obtain ⟨⟨t849, t852⟩, A420, H⟩ := H
         have A42 := aS_ A420
         clear A420
         replace H := Option.bind_eq_some_iff.mp H
         obtain ⟨⟨t854, t857⟩, A430, H⟩ := H
         have A43 := aS_ A430
         clear A430
         replace H := Option.bind_eq_some_iff.mp H
         obtain ⟨⟨t858, t859⟩, A440, H⟩ := H
         have A44 := aS_ A440
         clear A440
         have HC45 := aS_ H
         clear H
         obtain ⟨Ao46, co46, eo46⟩ := Kd.R_slice HO_15.out
         subst eo46
         go_upto_region 17 with (first | ((with_reducible refine gate_callee (f := 13) rfl ?_); refine goesL_ (some 101) rfl rfl Try.func13 (by kernel_rfl) rfl #[.int .i64 t824, .slice Ao46 x15_30.length co46] rfl (by (try simp only [List.map_toArray, List.map_cons, List.map_nil]); first | done | rfl | (simp only [List.length_drop, List.length_take]; rfl)) ?_; (with_reducible refine (impl_TableOf.calls kj30 t824 _ _ x15_30 t849 t852 _ ?side1 ?side2 A42.out).mono ?_); (case side1 => repeat (first | exact (Kd.R_reads' HO_15.out).2.2 | (with_reducible refine Kd.C_alloc ?_ _) | (with_reducible refine Kd.C_drewN ?_ _) | (with_reducible refine Kd.C_drew ?_))); (case side2 => exact (Kd.R_reads' HO_15.out).2.1); rintro e w47 ⟨v850, rfl, ho0, hb⟩; refine ⟨_, rfl, ?_⟩; have n0_ := aS_ (Kd.R_elder' (by (with_reducible repeat (first | apply rA_ | apply rN_ | apply rD_)); exact HO_6.out) (Kd.R_base ho0) hb); have n1_ := aS_ (Kd.R_elder' (by (with_reducible repeat (first | apply rA_ | apply rN_ | apply rD_)); exact HO_11.out) (Kd.R_base ho0) hb); have n2_ := aS_ (Kd.R_elder' (by (with_reducible repeat (first | apply rA_ | apply rN_ | apply rD_)); exact HO_15.out) (Kd.R_base ho0) hb); have n3_ := aS_ (Kd.R_elder' (by (with_reducible repeat (first | apply rA_ | apply rN_ | apply rD_)); exact HO_833000.out) (Kd.R_base ho0) hb); have n4_ := aS_ (Kd.R_elder' (by (with_reducible repeat (first | apply rA_ | apply rN_ | apply rD_)); exact HO_838000.out) (Kd.R_base ho0) hb); have n5_ := aS_ (Kd.R_lower (Kd.R_new' (Kd.R_new' (Kd.R_new' (Kd.R_new' (Kd.R_new' ho0 (Kd.R_lt (by (with_reducible repeat (first | apply rA_ | apply rN_ | apply rD_)); exact HO_6.out))) (Kd.R_lt (by (with_reducible repeat (first | apply rA_ | apply rN_ | apply rD_)); exact HO_11.out))) (Kd.R_lt (by (with_reducible repeat (first | apply rA_ | apply rN_ | apply rD_)); exact HO_15.out))) (Kd.R_lt (by (with_reducible repeat (first | apply rA_ | apply rN_ | apply rD_)); exact HO_833000.out))) (Kd.R_lt (by (with_reducible repeat (first | apply rA_ | apply rN_ | apply rD_)); exact HO_838000.out))) (below_size (by repeat (first | (with_reducible first | exact HB.out | apply bA_ | apply pN_ | apply bD_ | refine bS_ ?_ GE832.out | refine bS_ ?_ GE837.out) | exact HB.out)))); have n6_ := aS_ (blk_below (g := gb832) (o := .cells #[.slice Ao13 t828.length co13] 24 (0, 0)) (by (with_reducible repeat (first | refine kN_ ?_ _ | refine kD_ ?_ | refine kA_ ?_ _)); exact BK832.out) hb); have n7_ := aS_ (blk_below (g := gb837) (o := .cells #[.slice Ao17 t833.length co17] 24 (0, 0)) (by (with_reducible repeat (first | refine kN_ ?_ _ | refine kD_ ?_ | refine kA_ ?_ _)); exact BK837.out) hb); have n8_ := aS_ (below_step (by repeat (first | (with_reducible first | exact HB.out | apply bA_ | apply pN_ | apply bD_ | refine bS_ ?_ GE832.out | refine bS_ ?_ GE837.out) | exact HB.out)) hb); clear HO_6; clear HO_11; clear HO_15; clear HO_833000; clear HO_838000; clear BK832; clear BK837; clear HB; have HO_6 := n0_; have HO_11 := n1_; have HO_15 := n2_; have HO_833000 := n3_; have HO_838000 := n4_; have HO851 := n5_; have BK832 := n6_; have BK837 := n7_; have HB := n8_; clear n0_ n1_ n2_ n3_ n4_ n5_ n6_ n7_ n8_; (try clear hb); (try clear hb2); (try clear hk); (try clear hi); (try clear ho0)) | ((with_reducible refine gate_dst (N := 16) rfl ?_); (try (refine gate_guard (by rfl) ?_; dsimp only)); refine box_event ?hg (N := 16) ?hd (cs := #[.slice none 0 0]) (t := 24) ?hr ?_; (case hd => rfl); (case hg => rfl); (case hr => first | (go_simp; done) | (go_simp; rfl)); intro gb853 hg w48 hbox hb; have n0_ := aS_ (Kd.R_below (by (with_reducible repeat (first | apply rA_ | apply rN_ | apply rD_)); exact HO_6.out) hb); have n1_ := aS_ (Kd.R_below (by (with_reducible repeat (first | apply rA_ | apply rN_ | apply rD_)); exact HO_11.out) hb); have n2_ := aS_ (Kd.R_below (by (with_reducible repeat (first | apply rA_ | apply rN_ | apply rD_)); exact HO_15.out) hb); have n3_ := aS_ (Kd.R_below (by (with_reducible repeat (first | apply rA_ | apply rN_ | apply rD_)); exact HO_833000.out) hb); have n4_ := aS_ (Kd.R_below (by (with_reducible repeat (first | apply rA_ | apply rN_ | apply rD_)); exact HO_838000.out) hb); have n5_ := aS_ (Kd.R_below (by (with_reducible repeat (first | apply rA_ | apply rN_ | apply rD_)); exact HO851.out) hb); have n6_ := aS_ (blk_below (g := gb832) (o := .cells #[.slice Ao13 t828.length co13] 24 (0, 0)) (by (with_reducible repeat (first | refine kN_ ?_ _ | refine kD_ ?_ | refine kA_ ?_ _)); exact BK832.out) hb); have n7_ := aS_ (blk_below (g := gb837) (o := .cells #[.slice Ao17 t833.length co17] 24 (0, 0)) (by (with_reducible repeat (first | refine kN_ ?_ _ | refine kD_ ?_ | refine kA_ ?_ _)); exact BK837.out) hb); have n8_ := aS_ (below_step (by repeat (first | (with_reducible first | exact HB.out | apply bA_ | apply pN_ | apply bD_ | refine bS_ ?_ GE832.out | refine bS_ ?_ GE837.out) | exact HB.out)) hb); have n9_ := aS_ (hbox); have n10_ := aS_ ((by rw [hg]; exact (below_size (by repeat (first | (with_reducible first | exact HB.out | apply bA_ | apply pN_ | apply bD_ | refine bS_ ?_ GE832.out | refine bS_ ?_ GE837.out) | exact HB.out))) : w.heap.size ≤ gb853)); have n11_ := aS_ ((by rw [hg]; exact (below_size (by repeat (first | (with_reducible first | exact HB.out | apply bA_ | apply pN_ | apply bD_ | refine bS_ ?_ GE832.out | refine bS_ ?_ GE837.out) | exact HB.out))) : w.heap.size ≤ gb853)); have n12_ := aS_ ((by rw [hg]; exact Nat.ne_of_lt (blk_lt (g := gb832) (o := .cells #[.slice Ao13 t828.length co13] 24 (0, 0)) (by (with_reducible repeat (first | refine kN_ ?_ _ | refine kD_ ?_ | refine kA_ ?_ _)); exact BK832.out)) : gb832 ≠ gb853)); have n13_ := aS_ ((by rw [hg]; exact Nat.ne_of_gt (blk_lt (g := gb832) (o := .cells #[.slice Ao13 t828.length co13] 24 (0, 0)) (by (with_reducible repeat (first | refine kN_ ?_ _ | refine kD_ ?_ | refine kA_ ?_ _)); exact BK832.out)) : gb853 ≠ gb832)); have n14_ := aS_ ((by rw [hg]; exact Nat.ne_of_lt (blk_lt (g := gb837) (o := .cells #[.slice Ao17 t833.length co17] 24 (0, 0)) (by (with_reducible repeat (first | refine kN_ ?_ _ | refine kD_ ?_ | refine kA_ ?_ _)); exact BK837.out)) : gb837 ≠ gb853)); have n15_ := aS_ ((by rw [hg]; exact Nat.ne_of_gt (blk_lt (g := gb837) (o := .cells #[.slice Ao17 t833.length co17] 24 (0, 0)) (by (with_reducible repeat (first | refine kN_ ?_ _ | refine kD_ ?_ | refine kA_ ?_ _)); exact BK837.out)) : gb853 ≠ gb837)); clear HO_6; clear HO_11; clear HO_15; clear HO_833000; clear HO_838000; clear HO851; clear BK832; clear BK837; clear HB; have HO_6 := n0_; have HO_11 := n1_; have HO_15 := n2_; have HO_833000 := n3_; have HO_838000 := n4_; have HO851 := n5_; have BK832 := n6_; have BK837 := n7_; have HB := n8_; have BK853 := n9_; have GW853 := n10_; have GE853 := n11_; have NB832_853 := n12_; have NB853_832 := n13_; have NB837_853 := n14_; have NB853_837 := n15_; clear n0_ n1_ n2_ n3_ n4_ n5_ n6_ n7_ n8_ n9_ n10_ n11_ n12_ n13_ n14_ n15_; clear hb hbox hg; obtain ⟨Ao49, co49, eo49⟩ := Kd.R_slice HO851.out; subst eo49; have hnb50 := NB853_832.out; have hnc50 := NB832_853.out; have hnb51 := NB853_837.out; have hnc51 := NB837_853.out; have hcz52_0 : w48.cell? ⟨gb853, 0, none⟩ = some (.slice none 0 0) := (blk_cell BK853.out 0).trans rfl; have hfz52_0 := blk_frozen BK853.out 0) | ((with_reducible refine gate_callee (f := 34) rfl ?_); refine goesL_ (some 106) rfl rfl Try.func34 (by kernel_rfl) rfl #[.agg #[.slice Ao49 t849.length co49]] rfl (by (try simp only [List.map_toArray, List.map_cons, List.map_nil]); first | done | rfl | (simp only [List.length_drop, List.length_take]; rfl)) ?_; (with_reducible refine (impl_UsedCells.calls kj30 _ _ t849 t854 t857 _ ?side1 ?side2 A43.out).mono ?_); (case side1 => refine (Kd.R_reads' (e := 3) (base := w.heap.size) (ok := fun k_ => (((((True ∧ some k_ ≠ (.slice Ao10 t825.length co10 : Value).ownBlock) ∧ some k_ ≠ (v840 : Value).ownBlock) ∧ some k_ ≠ (.slice Ao46 x15_30.length co46 : Value).ownBlock) ∧ some k_ ≠ (.slice Ao13 t828.length co13 : Value).ownBlock) ∧ some k_ ≠ (.slice Ao17 t833.length co17 : Value).ownBlock)) (n := t849.length) (c := co49) ?_).2.2; exact (by (with_reducible repeat (first | apply rA_ | apply rN_ | apply rD_)); exact (Kd.R_mono (Kd.R_far (p := ⟨gb853, 0, none⟩) (Kd.R_types HO851.out BK853.out (by decide)) (fun _ hk => hk.2) (.slice Ao49 t849.length co49)) (fun _ h_ => h_.1)))); (case side2 => exact (Kd.R_reads' HO851.out).2.1); rintro e w53 ⟨v855, rfl, ho0, hb⟩; refine ⟨_, rfl, ?_⟩; have n0_ := aS_ (Kd.R_elder' (by (with_reducible repeat (first | apply rA_ | apply rN_ | apply rD_)); exact (Kd.R_mono (Kd.R_far (p := ⟨gb853, 0, none⟩) (Kd.R_types HO_6.out BK853.out (by decide)) (fun _ hk => hk.2) (.slice Ao49 t849.length co49)) (fun _ h_ => h_.1))) (Kd.R_base ho0) hb); have n1_ := aS_ (Kd.R_elder' (by (with_reducible repeat (first | apply rA_ | apply rN_ | apply rD_)); exact (Kd.R_mono (Kd.R_far (p := ⟨gb853, 0, none⟩) (Kd.R_types HO_11.out BK853.out (by decide)) (fun _ hk => hk.2) (.slice Ao49 t849.length co49)) (fun _ h_ => h_.1))) (Kd.R_base ho0) hb); have n2_ := aS_ (Kd.R_elder' (by (with_reducible repeat (first | apply rA_ | apply rN_ | apply rD_)); exact (Kd.R_mono (Kd.R_far (p := ⟨gb853, 0, none⟩) (Kd.R_types HO_15.out BK853.out (by decide)) (fun _ hk => hk.2) (.slice Ao49 t849.length co49)) (fun _ h_ => h_.1))) (Kd.R_base ho0) hb); have n3_ := aS_ (Kd.R_elder' (by (with_reducible repeat (first | apply rA_ | apply rN_ | apply rD_)); exact (Kd.R_mono (Kd.R_far (p := ⟨gb853, 0, none⟩) (Kd.R_types HO_833000.out BK853.out (by decide)) (fun _ hk => hk.2) (.slice Ao49 t849.length co49)) (fun _ h_ => h_.1))) (Kd.R_base ho0) hb); have n4_ := aS_ (Kd.R_elder' (by (with_reducible repeat (first | apply rA_ | apply rN_ | apply rD_)); exact (Kd.R_mono (Kd.R_far (p := ⟨gb853, 0, none⟩) (Kd.R_types HO_838000.out BK853.out (by decide)) (fun _ hk => hk.2) (.slice Ao49 t849.length co49)) (fun _ h_ => h_.1))) (Kd.R_base ho0) hb); have n5_ := aS_ (Kd.R_elder' (by (with_reducible repeat (first | apply rA_ | apply rN_ | apply rD_)); exact (Kd.R_mono (Kd.R_far (p := ⟨gb853, 0, none⟩) (Kd.R_types HO851.out BK853.out (by decide)) (fun _ hk => hk.2) (.slice Ao49 t849.length co49)) (fun _ h_ => h_.1))) (Kd.R_base ho0) hb); have n6_ := aS_ (Kd.R_lower (Kd.R_new' (Kd.R_new' (Kd.R_new' (Kd.R_new' (Kd.R_new' (Kd.R_new' ho0 (Kd.R_lt (by (with_reducible repeat (first | apply rA_ | apply rN_ | apply rD_)); exact (Kd.R_mono (Kd.R_far (p := ⟨gb853, 0, none⟩) (Kd.R_types HO_6.out BK853.out (by decide)) (fun _ hk => hk.2) (.slice Ao49 t849.length co49)) (fun _ h_ => h_.1))))) (Kd.R_lt (by (with_reducible repeat (first | apply rA_ | apply rN_ | apply rD_)); exact (Kd.R_mono (Kd.R_far (p := ⟨gb853, 0, none⟩) (Kd.R_types HO_11.out BK853.out (by decide)) (fun _ hk => hk.2) (.slice Ao49 t849.length co49)) (fun _ h_ => h_.1))))) (Kd.R_lt (by (with_reducible repeat (first | apply rA_ | apply rN_ | apply rD_)); exact (Kd.R_mono (Kd.R_far (p := ⟨gb853, 0, none⟩) (Kd.R_types HO_15.out BK853.out (by decide)) (fun _ hk => hk.2) (.slice Ao49 t849.length co49)) (fun _ h_ => h_.1))))) (Kd.R_lt (by (with_reducible repeat (first | apply rA_ | apply rN_ | apply rD_)); exact (Kd.R_mono (Kd.R_far (p := ⟨gb853, 0, none⟩) (Kd.R_types HO_833000.out BK853.out (by decide)) (fun _ hk => hk.2) (.slice Ao49 t849.length co49)) (fun _ h_ => h_.1))))) (Kd.R_lt (by (with_reducible repeat (first | apply rA_ | apply rN_ | apply rD_)); exact (Kd.R_mono (Kd.R_far (p := ⟨gb853, 0, none⟩) (Kd.R_types HO_838000.out BK853.out (by decide)) (fun _ hk => hk.2) (.slice Ao49 t849.length co49)) (fun _ h_ => h_.1))))) (Kd.R_lt (by (with_reducible repeat (first | apply rA_ | apply rN_ | apply rD_)); exact (Kd.R_mono (Kd.R_far (p := ⟨gb853, 0, none⟩) (Kd.R_types HO851.out BK853.out (by decide)) (fun _ hk => hk.2) (.slice Ao49 t849.length co49)) (fun _ h_ => h_.1))))) (below_size (by repeat (first | (with_reducible first | exact HB.out | apply bA_ | apply pN_ | apply bD_ | refine bS_ ?_ GE832.out | refine bS_ ?_ GE837.out | refine bS_ ?_ GE853.out) | exact HB.out)))); have n7_ := aS_ (blk_below (g := gb832) (o := .cells #[.slice Ao13 t828.length co13] 24 (0, 0)) (by (with_reducible repeat (first | refine kN_ ?_ _ | refine kD_ ?_ | refine kA_ ?_ _)); refine blk_far ?_ NB832_853.out _; (with_reducible repeat (first | refine kN_ ?_ _ | refine kD_ ?_ | refine kA_ ?_ _)); exact BK832.out) hb); have n8_ := aS_ (blk_below (g := gb837) (o := .cells #[.slice Ao17 t833.length co17] 24 (0, 0)) (by (with_reducible repeat (first | refine kN_ ?_ _ | refine kD_ ?_ | refine kA_ ?_ _)); refine blk_far ?_ NB837_853.out _; (with_reducible repeat (first | refine kN_ ?_ _ | refine kD_ ?_ | refine kA_ ?_ _)); exact BK837.out) hb); have n9_ := aS_ (blk_below (g := gb853) (o := .cells #[.slice Ao49 t849.length co49] 24 (0, 0)) (by (with_reducible repeat (first | refine kN_ ?_ _ | refine kD_ ?_ | refine kA_ ?_ _)); refine blk_put (cs := #[.slice none 0 0]) ?_ 0 _ rfl; (with_reducible repeat (first | refine kN_ ?_ _ | refine kD_ ?_ | refine kA_ ?_ _)); exact BK853.out) hb); have n10_ := aS_ (below_step (by repeat (first | (with_reducible first | exact HB.out | apply bA_ | apply pN_ | apply bD_ | refine bS_ ?_ GE832.out | refine bS_ ?_ GE837.out | refine bS_ ?_ GE853.out) | exact HB.out)) hb); clear HO_6; clear HO_11; clear HO_15; clear HO_833000; clear HO_838000; clear HO851; clear BK832; clear BK837; clear BK853; clear HB; have HO_6 := n0_; have HO_11 := n1_; have HO_15 := n2_; have HO_833000 := n3_; have HO_838000 := n4_; have HO851 := n5_; have HO856 := n6_; have BK832 := n7_; have BK837 := n8_; have BK853 := n9_; have HB := n10_; clear n0_ n1_ n2_ n3_ n4_ n5_ n6_ n7_ n8_ n9_ n10_; (try clear hb); (try clear hb2); (try clear hk); (try clear hi); (try clear ho0); have hcz54_0 : w53.cell? ⟨gb853, 0, none⟩ = some (.slice Ao49 t849.length co49) := (blk_cell BK853.out 0).trans rfl; have hfz54_0 := blk_frozen BK853.out 0) | ((with_reducible refine gate_callee (f := 35) rfl ?_); refine goesL_ (some 111) rfl rfl Try.func35 (by kernel_rfl) rfl #[.agg #[.slice Ao49 t849.length co49]] rfl (by (try simp only [List.map_toArray, List.map_cons, List.map_nil]); first | done | rfl | (simp only [List.length_drop, List.length_take]; rfl)) ?_; (with_reducible refine (impl_CostOf.calls kj30 _ _ t849 t858 t859 _ ?side1 ?side2 A44.out).mono ?_); (case side1 => repeat (first | exact (Kd.R_reads' HO851.out).2.2 | (with_reducible refine Kd.C_alloc ?_ _) | (with_reducible refine Kd.C_drewN ?_ _) | (with_reducible refine Kd.C_drew ?_))); (case side2 => exact (Kd.R_reads' HO851.out).2.1); rintro e w55 ⟨rfl, hb⟩; refine ⟨_, rfl, ?_⟩; have n0_ := aS_ (Kd.R_below (by (with_reducible repeat (first | apply rA_ | apply rN_ | apply rD_)); exact HO_6.out) hb); have n1_ := aS_ (Kd.R_below (by (with_reducible repeat (first | apply rA_ | apply rN_ | apply rD_)); exact HO_11.out) hb); have n2_ := aS_ (Kd.R_below (by (with_reducible repeat (first | apply rA_ | apply rN_ | apply rD_)); exact HO_15.out) hb); have n3_ := aS_ (Kd.R_below (by (with_reducible repeat (first | apply rA_ | apply rN_ | apply rD_)); exact HO_833000.out) hb); have n4_ := aS_ (Kd.R_below (by (with_reducible repeat (first | apply rA_ | apply rN_ | apply rD_)); exact HO_838000.out) hb); have n5_ := aS_ (Kd.R_below (by (with_reducible repeat (first | apply rA_ | apply rN_ | apply rD_)); exact HO851.out) hb); have n6_ := aS_ (Kd.R_below (by (with_reducible repeat (first | apply rA_ | apply rN_ | apply rD_)); exact HO856.out) hb); have n7_ := aS_ (blk_below (g := gb832) (o := .cells #[.slice Ao13 t828.length co13] 24 (0, 0)) (by (with_reducible repeat (first | refine kN_ ?_ _ | refine kD_ ?_ | refine kA_ ?_ _)); exact BK832.out) hb); have n8_ := aS_ (blk_below (g := gb837) (o := .cells #[.slice Ao17 t833.length co17] 24 (0, 0)) (by (with_reducible repeat (first | refine kN_ ?_ _ | refine kD_ ?_ | refine kA_ ?_ _)); exact BK837.out) hb); have n9_ := aS_ (blk_below (g := gb853) (o := .cells #[.slice Ao49 t849.length co49] 24 (0, 0)) (by (with_reducible repeat (first | refine kN_ ?_ _ | refine kD_ ?_ | refine kA_ ?_ _)); exact BK853.out) hb); have n10_ := aS_ (below_step (by repeat (first | (with_reducible first | exact HB.out | apply bA_ | apply pN_ | apply bD_ | refine bS_ ?_ GE832.out | refine bS_ ?_ GE837.out | refine bS_ ?_ GE853.out) | exact HB.out)) hb); clear HO_6; clear HO_11; clear HO_15; clear HO_833000; clear HO_838000; clear HO851; clear HO856; clear BK832; clear BK837; clear BK853; clear HB; have HO_6 := n0_; have HO_11 := n1_; have HO_15 := n2_; have HO_833000 := n3_; have HO_838000 := n4_; have HO851 := n5_; have HO856 := n6_; have BK832 := n7_; have BK837 := n8_; have BK853 := n9_; have HB := n10_; clear n0_ n1_ n2_ n3_ n4_ n5_ n6_ n7_ n8_ n9_ n10_; (try clear hb); (try clear hb2); (try clear hk); (try clear hi)))
         (try simp only [Act.put, List.setIfInBounds_toArray, List.set_cons_zero, List.set_cons_succ])
         go_cut [154] (fun v154 wc => ∃ (kq : Nat) (x154_44 : Bool), v154 = .bool x154_44 ∧ Aside0 (laws_FnTablesFill.j2 kq l1 t824 t825 t843 x154_44 t828 = some r) ∧ Aside0 (kq ≤ kj30) ∧ Aside0 (Kd.R (Kd.int .i64) 3 wc w.heap.size (fun k_ => some k_ ≠ ((.slice Ao13 t828.length co13) : Value).ownBlock ∧ some k_ ≠ ((.slice Ao17 t833.length co17) : Value).ownBlock ∧ some k_ ≠ ((.slice Ao49 t849.length co49) : Value).ownBlock) (.slice Ao10 t825.length co10) t825) ∧ Aside0 (Kd.R (Kd.int .i64) 3 wc w.heap.size (fun k_ => some k_ ≠ ((.slice Ao10 t825.length co10) : Value).ownBlock ∧ some k_ ≠ ((.slice Ao17 t833.length co17) : Value).ownBlock ∧ some k_ ≠ ((.slice Ao49 t849.length co49) : Value).ownBlock) (.slice Ao13 t828.length co13) t828) ∧ Aside0 (Kd.R (Kd.int .i64) 3 wc w.heap.size (fun k_ => some k_ ≠ ((.slice Ao10 t825.length co10) : Value).ownBlock ∧ some k_ ≠ ((.slice Ao13 t828.length co13) : Value).ownBlock ∧ some k_ ≠ ((.slice Ao49 t849.length co49) : Value).ownBlock) (.slice Ao17 t833.length co17) t833) ∧ Aside0 (Kd.R (Kd.int .i64) 3 wc w.heap.size (fun k_ => some k_ ≠ ((.slice Ao10 t825.length co10) : Value).ownBlock ∧ some k_ ≠ ((.slice Ao13 t828.length co13) : Value).ownBlock ∧ some k_ ≠ ((.slice Ao17 t833.length co17) : Value).ownBlock) (.slice Ao49 t849.length co49) t849) ∧ Aside0 (wc.heap[gb832]? = some (.cells #[(.slice Ao13 t828.length co13)] 24 (0, 0))) ∧ Aside0 (wc.heap[gb837]? = some (.cells #[(.slice Ao17 t833.length co17)] 24 (0, 0))) ∧ Aside0 (wc.heap[gb853]? = some (.cells #[(.slice Ao49 t849.length co49)] 24 (0, 0))) ∧ Aside0 (Below w.heap.size w wc))
         case first =>
          have H := HC45.out
          clear HC45
          by_cases c56 : t842 = true
          ·as_aux_lemma =>
           subst c56
           rw [if_pos rfl] at H
           by_cases c57 : t844 = true
           ·as_aux_lemma =>
            subst c57
            rw [if_pos rfl] at H
            by_cases c58 : t852 = true
            ·as_aux_lemma =>
             subst c58
             rw [if_pos rfl] at H
             by_cases c59 : t857 = true
             ·as_aux_lemma =>
              subst c59
              rw [if_pos rfl] at H
              by_cases c60 : t859 = true
              ·as_aux_lemma =>
               subst c60
               rw [if_pos rfl] at H
               replace H := Option.bind_eq_some_iff.mp H
               obtain ⟨t860, A610, H⟩ := H
               have A61 := aS_ A610
               clear A610
               by_cases c62 : t860 = true
               ·as_aux_lemma =>
                subst c62
                rw [if_pos rfl] at H
                by_cases c63 : t843 = t858
                ·as_aux_lemma =>
                 rw [if_pos c63] at H
                 have c63b0 : (t843 == t858) = true := beq_iff_eq.mpr c63
                 have c63b1 : (t843 != t858) = false := bne_eq_false_iff_eq.mpr c63
                 clear c63
                 (first | rw [c63b0] | (simp only [i64_w, i32_w]; rw [c63b0]) | skip)
                 replace H := Option.bind_eq_some_iff.mp H
                 obtain ⟨t861, A640, H⟩ := H
                 have A64 := aS_ A640
                 clear A640
                 by_cases c65 : t861 = true
                 ·as_aux_lemma =>
                  subst c65
                  rw [if_pos rfl] at H
                  have H' := aS_ H
                  clear H
                  obtain ⟨Ao66, co66, eo66⟩ := Kd.R_slice HO_11.out
                  subst eo66
                  obtain ⟨Ao67, co67, eo67⟩ := Kd.R_slice HO856.out
                  subst eo67
                  go_wp2_with (first | (go_at_call 37; (with_reducible refine (laws_jSame.calls kj30 _ _ t839 _ _ t854 true _ ?side1 ?side2 ?side3 ?side4 A61.out).mono ?_); (case side1 => repeat (first | exact (Kd.R_reads' HO_11.out).2.2 | (with_reducible refine Kd.C_alloc ?_ _) | (with_reducible refine Kd.C_drewN ?_ _) | (with_reducible refine Kd.C_drew ?_))); (case side2 => exact (Kd.R_reads' HO_11.out).2.1); (case side3 => repeat (first | exact (Kd.R_reads' HO856.out).2.2 | (with_reducible refine Kd.C_alloc ?_ _) | (with_reducible refine Kd.C_drewN ?_ _) | (with_reducible refine Kd.C_drew ?_))); (case side4 => exact (Kd.R_reads' HO856.out).2.1); rintro e w' ⟨rfl, ⟨nd, rfl⟩⟩; have hnb68 := NB832_837.out; have hnc68 := NB837_832.out; have hnb69 := NB832_853.out; have hnc69 := NB853_832.out; have hcz70_0 : w55.cell? ⟨gb832, 0, none⟩ = some (.slice Ao13 t828.length co13) := (blk_cell BK832.out 0).trans rfl; have hfz70_0 := blk_frozen BK832.out 0) | (go_at_call 38; (with_reducible refine (impl_IsTable.calls kj30 _ _ t828 true _ ?side1 ?side2 A64.out).mono ?_); (case side1 => repeat (first | exact (Kd.R_reads' HO_833000.out).2.2 | (with_reducible refine Kd.C_alloc ?_ _) | (with_reducible refine Kd.C_drewN ?_ _) | (with_reducible refine Kd.C_drew ?_))); (case side2 => exact (Kd.R_reads' HO_833000.out).2.1); rintro e w71 ⟨rfl, hb⟩; have n0_ := aS_ (Kd.R_below (by (with_reducible repeat (first | apply rA_ | apply rN_ | apply rD_)); exact HO_6.out) hb); have n1_ := aS_ (Kd.R_below (by (with_reducible repeat (first | apply rA_ | apply rN_ | apply rD_)); exact HO_11.out) hb); have n2_ := aS_ (Kd.R_below (by (with_reducible repeat (first | apply rA_ | apply rN_ | apply rD_)); exact HO_15.out) hb); have n3_ := aS_ (Kd.R_below (by (with_reducible repeat (first | apply rA_ | apply rN_ | apply rD_)); exact HO_833000.out) hb); have n4_ := aS_ (Kd.R_below (by (with_reducible repeat (first | apply rA_ | apply rN_ | apply rD_)); exact HO_838000.out) hb); have n5_ := aS_ (Kd.R_below (by (with_reducible repeat (first | apply rA_ | apply rN_ | apply rD_)); exact HO851.out) hb); have n6_ := aS_ (Kd.R_below (by (with_reducible repeat (first | apply rA_ | apply rN_ | apply rD_)); exact HO856.out) hb); have n7_ := aS_ (blk_below (g := gb832) (o := .cells #[.slice Ao13 t828.length co13] 24 (0, 0)) (by (with_reducible repeat (first | refine kN_ ?_ _ | refine kD_ ?_ | refine kA_ ?_ _)); exact BK832.out) hb); have n8_ := aS_ (blk_below (g := gb837) (o := .cells #[.slice Ao17 t833.length co17] 24 (0, 0)) (by (with_reducible repeat (first | refine kN_ ?_ _ | refine kD_ ?_ | refine kA_ ?_ _)); exact BK837.out) hb); have n9_ := aS_ (blk_below (g := gb853) (o := .cells #[.slice Ao49 t849.length co49] 24 (0, 0)) (by (with_reducible repeat (first | refine kN_ ?_ _ | refine kD_ ?_ | refine kA_ ?_ _)); exact BK853.out) hb); have n10_ := aS_ (below_step (by repeat (first | (with_reducible first | exact HB.out | apply bA_ | apply pN_ | apply bD_ | refine bS_ ?_ GE832.out | refine bS_ ?_ GE837.out | refine bS_ ?_ GE853.out) | exact HB.out)) hb); clear HO_6; clear HO_11; clear HO_15; clear HO_833000; clear HO_838000; clear HO851; clear HO856; clear BK832; clear BK837; clear BK853; clear HB; have HO_6 := n0_; have HO_11 := n1_; have HO_15 := n2_; have HO_833000 := n3_; have HO_838000 := n4_; have HO851 := n5_; have HO856 := n6_; have BK832 := n7_; have BK837 := n8_; have BK853 := n9_; have HB := n10_; clear n0_ n1_ n2_ n3_ n4_ n5_ n6_ n7_ n8_ n9_ n10_; (try clear hb); (try clear hb2); (try clear hk); (try clear hi)))
                  go_meet
                  case rel => exact ⟨_, (((t839.length : Int) != (t825.length : Int))), (by first | rfl | (simp; done) | (simp [*]; done)), H', ⟨by have := HJ7.out; have := HJ30.out; first | omega | exact Nat.le_refl _⟩, ⟨by (with_reducible repeat (first | apply rA_ | apply rN_ | apply rD_)); exact Kd.R_mono HO_6.out (fun _ hk => by first | exact ⟨hk.1.1.2.1, ⟨hk.1.1.2.2, hk.1.2⟩⟩ | (repeat' first | exact hk.2 | exact hk.1.2 | exact hk.1.1.2 | exact hk.1.1.1.2 | exact hk.1.1.1.1 | exact hk.1.1.1 | exact hk.1.1 | exact hk.1 | refine And.intro ?_ ?_))⟩, ⟨by (with_reducible repeat (first | apply rA_ | apply rN_ | apply rD_)); exact Kd.R_mono HO_833000.out (fun _ hk => by first | exact ⟨hk.1.1.1, ⟨hk.1.1.2.2.2, hk.1.2⟩⟩ | (repeat' first | exact hk.2 | exact hk.1.2 | exact hk.1.1.2 | exact hk.1.1.1.2 | exact hk.1.1.1.1 | exact hk.1.1.1 | exact hk.1.1 | exact hk.1 | refine And.intro ?_ ?_))⟩, ⟨by (with_reducible repeat (first | apply rA_ | apply rN_ | apply rD_)); exact Kd.R_mono HO_838000.out (fun _ hk => by first | exact ⟨hk.1.1.1, ⟨hk.1.1.2.2.2, hk.1.2⟩⟩ | (repeat' first | exact hk.2 | exact hk.1.2 | exact hk.1.1.2 | exact hk.1.1.1.2 | exact hk.1.1.1.1 | exact hk.1.1.1 | exact hk.1.1 | exact hk.1 | refine And.intro ?_ ?_))⟩, ⟨by (with_reducible repeat (first | apply rA_ | apply rN_ | apply rD_)); exact Kd.R_mono HO851.out (fun _ hk => by first | exact ⟨hk.1.1.1.1.1.2, ⟨hk.1.1.2, hk.1.2⟩⟩ | (repeat' first | exact hk.2 | exact hk.1.2 | exact hk.1.1.2 | exact hk.1.1.1.2 | exact hk.1.1.1.1 | exact hk.1.1.1 | exact hk.1.1 | exact hk.1 | refine And.intro ?_ ?_))⟩, ⟨by (with_reducible repeat (first | refine kN_ ?_ _ | refine kD_ ?_ | refine kA_ ?_ _)); exact BK832.out⟩, ⟨by (with_reducible repeat (first | refine kN_ ?_ _ | refine kD_ ?_ | refine kA_ ?_ _)); exact BK837.out⟩, ⟨by (with_reducible repeat (first | refine kN_ ?_ _ | refine kD_ ?_ | refine kA_ ?_ _)); exact BK853.out⟩, ⟨by repeat (first | (with_reducible first | exact HB.out | apply bA_ | apply pN_ | apply bD_ | refine bS_ ?_ GE832.out | refine bS_ ?_ GE837.out | refine bS_ ?_ GE853.out) | exact HB.out)⟩⟩
                 ·as_aux_lemma =>
                  replace c65 := Bool.eq_false_iff.mpr c65
                  subst c65
                  rw [if_neg (show ¬ (false = true) by decide)] at H
                  have H' := aS_ H
                  clear H
                  obtain ⟨Ao72, co72, eo72⟩ := Kd.R_slice HO_11.out
                  subst eo72
                  obtain ⟨Ao73, co73, eo73⟩ := Kd.R_slice HO856.out
                  subst eo73
                  go_wp2_with (first | (go_at_call 37; (with_reducible refine (laws_jSame.calls kj30 _ _ t839 _ _ t854 true _ ?side1 ?side2 ?side3 ?side4 A61.out).mono ?_); (case side1 => repeat (first | exact (Kd.R_reads' HO_11.out).2.2 | (with_reducible refine Kd.C_alloc ?_ _) | (with_reducible refine Kd.C_drewN ?_ _) | (with_reducible refine Kd.C_drew ?_))); (case side2 => exact (Kd.R_reads' HO_11.out).2.1); (case side3 => repeat (first | exact (Kd.R_reads' HO856.out).2.2 | (with_reducible refine Kd.C_alloc ?_ _) | (with_reducible refine Kd.C_drewN ?_ _) | (with_reducible refine Kd.C_drew ?_))); (case side4 => exact (Kd.R_reads' HO856.out).2.1); rintro e w' ⟨rfl, ⟨nd, rfl⟩⟩; have hnb74 := NB832_837.out; have hnc74 := NB837_832.out; have hnb75 := NB832_853.out; have hnc75 := NB853_832.out; have hcz76_0 : w55.cell? ⟨gb832, 0, none⟩ = some (.slice Ao13 t828.length co13) := (blk_cell BK832.out 0).trans rfl; have hfz76_0 := blk_frozen BK832.out 0) | (go_at_call 38; (with_reducible refine (impl_IsTable.calls kj30 _ _ t828 false _ ?side1 ?side2 A64.out).mono ?_); (case side1 => repeat (first | exact (Kd.R_reads' HO_833000.out).2.2 | (with_reducible refine Kd.C_alloc ?_ _) | (with_reducible refine Kd.C_drewN ?_ _) | (with_reducible refine Kd.C_drew ?_))); (case side2 => exact (Kd.R_reads' HO_833000.out).2.1); rintro e w77 ⟨rfl, hb⟩; have n0_ := aS_ (Kd.R_below (by (with_reducible repeat (first | apply rA_ | apply rN_ | apply rD_)); exact HO_6.out) hb); have n1_ := aS_ (Kd.R_below (by (with_reducible repeat (first | apply rA_ | apply rN_ | apply rD_)); exact HO_11.out) hb); have n2_ := aS_ (Kd.R_below (by (with_reducible repeat (first | apply rA_ | apply rN_ | apply rD_)); exact HO_15.out) hb); have n3_ := aS_ (Kd.R_below (by (with_reducible repeat (first | apply rA_ | apply rN_ | apply rD_)); exact HO_833000.out) hb); have n4_ := aS_ (Kd.R_below (by (with_reducible repeat (first | apply rA_ | apply rN_ | apply rD_)); exact HO_838000.out) hb); have n5_ := aS_ (Kd.R_below (by (with_reducible repeat (first | apply rA_ | apply rN_ | apply rD_)); exact HO851.out) hb); have n6_ := aS_ (Kd.R_below (by (with_reducible repeat (first | apply rA_ | apply rN_ | apply rD_)); exact HO856.out) hb); have n7_ := aS_ (blk_below (g := gb832) (o := .cells #[.slice Ao13 t828.length co13] 24 (0, 0)) (by (with_reducible repeat (first | refine kN_ ?_ _ | refine kD_ ?_ | refine kA_ ?_ _)); exact BK832.out) hb); have n8_ := aS_ (blk_below (g := gb837) (o := .cells #[.slice Ao17 t833.length co17] 24 (0, 0)) (by (with_reducible repeat (first | refine kN_ ?_ _ | refine kD_ ?_ | refine kA_ ?_ _)); exact BK837.out) hb); have n9_ := aS_ (blk_below (g := gb853) (o := .cells #[.slice Ao49 t849.length co49] 24 (0, 0)) (by (with_reducible repeat (first | refine kN_ ?_ _ | refine kD_ ?_ | refine kA_ ?_ _)); exact BK853.out) hb); have n10_ := aS_ (below_step (by repeat (first | (with_reducible first | exact HB.out | apply bA_ | apply pN_ | apply bD_ | refine bS_ ?_ GE832.out | refine bS_ ?_ GE837.out | refine bS_ ?_ GE853.out) | exact HB.out)) hb); clear HO_6; clear HO_11; clear HO_15; clear HO_833000; clear HO_838000; clear HO851; clear HO856; clear BK832; clear BK837; clear BK853; clear HB; have HO_6 := n0_; have HO_11 := n1_; have HO_15 := n2_; have HO_833000 := n3_; have HO_838000 := n4_; have HO851 := n5_; have HO856 := n6_; have BK832 := n7_; have BK837 := n8_; have BK853 := n9_; have HB := n10_; clear n0_ n1_ n2_ n3_ n4_ n5_ n6_ n7_ n8_ n9_ n10_; (try clear hb); (try clear hb2); (try clear hk); (try clear hi)))
                  go_meet
                  case rel => exact ⟨_, (true), (by first | rfl | (simp; done) | (simp [*]; done)), H', ⟨by have := HJ7.out; have := HJ30.out; first | omega | exact Nat.le_refl _⟩, ⟨by (with_reducible repeat (first | apply rA_ | apply rN_ | apply rD_)); exact Kd.R_mono HO_6.out (fun _ hk => by first | exact ⟨hk.1.1.2.1, ⟨hk.1.1.2.2, hk.1.2⟩⟩ | (repeat' first | exact hk.2 | exact hk.1.2 | exact hk.1.1.2 | exact hk.1.1.1.2 | exact hk.1.1.1.1 | exact hk.1.1.1 | exact hk.1.1 | exact hk.1 | refine And.intro ?_ ?_))⟩, ⟨by (with_reducible repeat (first | apply rA_ | apply rN_ | apply rD_)); exact Kd.R_mono HO_833000.out (fun _ hk => by first | exact ⟨hk.1.1.1, ⟨hk.1.1.2.2.2, hk.1.2⟩⟩ | (repeat' first | exact hk.2 | exact hk.1.2 | exact hk.1.1.2 | exact hk.1.1.1.2 | exact hk.1.1.1.1 | exact hk.1.1.1 | exact hk.1.1 | exact hk.1 | refine And.intro ?_ ?_))⟩, ⟨by (with_reducible repeat (first | apply rA_ | apply rN_ | apply rD_)); exact Kd.R_mono HO_838000.out (fun _ hk => by first | exact ⟨hk.1.1.1, ⟨hk.1.1.2.2.2, hk.1.2⟩⟩ | (repeat' first | exact hk.2 | exact hk.1.2 | exact hk.1.1.2 | exact hk.1.1.1.2 | exact hk.1.1.1.1 | exact hk.1.1.1 | exact hk.1.1 | exact hk.1 | refine And.intro ?_ ?_))⟩, ⟨by (with_reducible repeat (first | apply rA_ | apply rN_ | apply rD_)); exact Kd.R_mono HO851.out (fun _ hk => by first | exact ⟨hk.1.1.1.1.1.2, ⟨hk.1.1.2, hk.1.2⟩⟩ | (repeat' first | exact hk.2 | exact hk.1.2 | exact hk.1.1.2 | exact hk.1.1.1.2 | exact hk.1.1.1.1 | exact hk.1.1.1 | exact hk.1.1 | exact hk.1 | refine And.intro ?_ ?_))⟩, ⟨by (with_reducible repeat (first | refine kN_ ?_ _ | refine kD_ ?_ | refine kA_ ?_ _)); exact BK832.out⟩, ⟨by (with_reducible repeat (first | refine kN_ ?_ _ | refine kD_ ?_ | refine kA_ ?_ _)); exact BK837.out⟩, ⟨by (with_reducible repeat (first | refine kN_ ?_ _ | refine kD_ ?_ | refine kA_ ?_ _)); exact BK853.out⟩, ⟨by repeat (first | (with_reducible first | exact HB.out | apply bA_ | apply pN_ | apply bD_ | refine bS_ ?_ GE832.out | refine bS_ ?_ GE837.out | refine bS_ ?_ GE853.out) | exact HB.out)⟩⟩
                ·rw [if_neg c63] at H
                 have c63b0 : (t843 == t858) = false := beq_eq_false_iff_ne.mpr c63
                 have c63b1 : (t843 != t858) = true := bne_iff_ne.mpr c63
                 (first | rw [c63b0] | (simp only [i64_w, i32_w]; rw [c63b0]) | skip)
                 have H' := aS_ H
                 clear H
                 obtain ⟨Ao78, co78, eo78⟩ := Kd.R_slice HO_11.out
                 subst eo78
                 obtain ⟨Ao79, co79, eo79⟩ := Kd.R_slice HO856.out
                 subst eo79
                 go_wp2_with (first | (go_at_call 37; (with_reducible refine (laws_jSame.calls kj30 _ _ t839 _ _ t854 true _ ?side1 ?side2 ?side3 ?side4 A61.out).mono ?_); (case side1 => repeat (first | exact (Kd.R_reads' HO_11.out).2.2 | (with_reducible refine Kd.C_alloc ?_ _) | (with_reducible refine Kd.C_drewN ?_ _) | (with_reducible refine Kd.C_drew ?_))); (case side2 => exact (Kd.R_reads' HO_11.out).2.1); (case side3 => repeat (first | exact (Kd.R_reads' HO856.out).2.2 | (with_reducible refine Kd.C_alloc ?_ _) | (with_reducible refine Kd.C_drewN ?_ _) | (with_reducible refine Kd.C_drew ?_))); (case side4 => exact (Kd.R_reads' HO856.out).2.1); rintro e w' ⟨rfl, ⟨nd, rfl⟩⟩))
                 go_meet
                 case rel => exact ⟨_, (true), (by first | rfl | (simp; done) | (simp [*]; done)), H', ⟨by have := HJ7.out; have := HJ30.out; first | omega | exact Nat.le_refl _⟩, ⟨by (with_reducible repeat (first | apply rA_ | apply rN_ | apply rD_)); exact Kd.R_mono HO_6.out (fun _ hk => by first | exact ⟨hk.1.1.2.1, ⟨hk.1.1.2.2, hk.1.2⟩⟩ | (repeat' first | exact hk.2 | exact hk.1.2 | exact hk.1.1.2 | exact hk.1.1.1.2 | exact hk.1.1.1.1 | exact hk.1.1.1 | exact hk.1.1 | exact hk.1 | refine And.intro ?_ ?_))⟩, ⟨by (with_reducible repeat (first | apply rA_ | apply rN_ | apply rD_)); exact Kd.R_mono HO_833000.out (fun _ hk => by first | exact ⟨hk.1.1.1, ⟨hk.1.1.2.2.2, hk.1.2⟩⟩ | (repeat' first | exact hk.2 | exact hk.1.2 | exact hk.1.1.2 | exact hk.1.1.1.2 | exact hk.1.1.1.1 | exact hk.1.1.1 | exact hk.1.1 | exact hk.1 | refine And.intro ?_ ?_))⟩, ⟨by (with_reducible repeat (first | apply rA_ | apply rN_ | apply rD_)); exact Kd.R_mono HO_838000.out (fun _ hk => by first | exact ⟨hk.1.1.1, ⟨hk.1.1.2.2.2, hk.1.2⟩⟩ | (repeat' first | exact hk.2 | exact hk.1.2 | exact hk.1.1.2 | exact hk.1.1.1.2 | exact hk.1.1.1.1 | exact hk.1.1.1 | exact hk.1.1 | exact hk.1 | refine And.intro ?_ ?_))⟩, ⟨by (with_reducible repeat (first | apply rA_ | apply rN_ | apply rD_)); exact Kd.R_mono HO851.out (fun _ hk => by first | exact ⟨hk.1.1.1.1.1.2, ⟨hk.1.1.2, hk.1.2⟩⟩ | (repeat' first | exact hk.2 | exact hk.1.2 | exact hk.1.1.2 | exact hk.1.1.1.2 | exact hk.1.1.1.1 | exact hk.1.1.1 | exact hk.1.1 | exact hk.1 | refine And.intro ?_ ?_))⟩, ⟨by (with_reducible repeat (first | refine kN_ ?_ _ | refine kD_ ?_ | refine kA_ ?_ _)); exact BK832.out⟩, ⟨by (with_reducible repeat (first | refine kN_ ?_ _ | refine kD_ ?_ | refine kA_ ?_ _)); exact BK837.out⟩, ⟨by (with_reducible repeat (first | refine kN_ ?_ _ | refine kD_ ?_ | refine kA_ ?_ _)); exact BK853.out⟩, ⟨by repeat (first | (with_reducible first | exact HB.out | apply bA_ | apply pN_ | apply bD_ | refine bS_ ?_ GE832.out | refine bS_ ?_ GE837.out | refine bS_ ?_ GE853.out) | exact HB.out)⟩⟩
               ·replace c62 := Bool.eq_false_iff.mpr c62
                subst c62
                rw [if_neg (show ¬ (false = true) by decide)] at H
                have H' := aS_ H
                clear H
                obtain ⟨Ao80, co80, eo80⟩ := Kd.R_slice HO_11.out
                subst eo80
                obtain ⟨Ao81, co81, eo81⟩ := Kd.R_slice HO856.out
                subst eo81
                go_wp2_with (first | (go_at_call 37; (with_reducible refine (laws_jSame.calls kj30 _ _ t839 _ _ t854 false _ ?side1 ?side2 ?side3 ?side4 A61.out).mono ?_); (case side1 => repeat (first | exact (Kd.R_reads' HO_11.out).2.2 | (with_reducible refine Kd.C_alloc ?_ _) | (with_reducible refine Kd.C_drewN ?_ _) | (with_reducible refine Kd.C_drew ?_))); (case side2 => exact (Kd.R_reads' HO_11.out).2.1); (case side3 => repeat (first | exact (Kd.R_reads' HO856.out).2.2 | (with_reducible refine Kd.C_alloc ?_ _) | (with_reducible refine Kd.C_drewN ?_ _) | (with_reducible refine Kd.C_drew ?_))); (case side4 => exact (Kd.R_reads' HO856.out).2.1); rintro e w' ⟨rfl, ⟨nd, rfl⟩⟩))
                go_meet
                case rel => exact ⟨_, (true), (by first | rfl | (simp; done) | (simp [*]; done)), H', ⟨by have := HJ7.out; have := HJ30.out; first | omega | exact Nat.le_refl _⟩, ⟨by (with_reducible repeat (first | apply rA_ | apply rN_ | apply rD_)); exact Kd.R_mono HO_6.out (fun _ hk => by first | exact ⟨hk.1.1.2.1, ⟨hk.1.1.2.2, hk.1.2⟩⟩ | (repeat' first | exact hk.2 | exact hk.1.2 | exact hk.1.1.2 | exact hk.1.1.1.2 | exact hk.1.1.1.1 | exact hk.1.1.1 | exact hk.1.1 | exact hk.1 | refine And.intro ?_ ?_))⟩, ⟨by (with_reducible repeat (first | apply rA_ | apply rN_ | apply rD_)); exact Kd.R_mono HO_833000.out (fun _ hk => by first | exact ⟨hk.1.1.1, ⟨hk.1.1.2.2.2, hk.1.2⟩⟩ | (repeat' first | exact hk.2 | exact hk.1.2 | exact hk.1.1.2 | exact hk.1.1.1.2 | exact hk.1.1.1.1 | exact hk.1.1.1 | exact hk.1.1 | exact hk.1 | refine And.intro ?_ ?_))⟩, ⟨by (with_reducible repeat (first | apply rA_ | apply rN_ | apply rD_)); exact Kd.R_mono HO_838000.out (fun _ hk => by first | exact ⟨hk.1.1.1, ⟨hk.1.1.2.2.2, hk.1.2⟩⟩ | (repeat' first | exact hk.2 | exact hk.1.2 | exact hk.1.1.2 | exact hk.1.1.1.2 | exact hk.1.1.1.1 | exact hk.1.1.1 | exact hk.1.1 | exact hk.1 | refine And.intro ?_ ?_))⟩, ⟨by (with_reducible repeat (first | apply rA_ | apply rN_ | apply rD_)); exact Kd.R_mono HO851.out (fun _ hk => by first | exact ⟨hk.1.1.1.1.1.2, ⟨hk.1.1.2, hk.1.2⟩⟩ | (repeat' first | exact hk.2 | exact hk.1.2 | exact hk.1.1.2 | exact hk.1.1.1.2 | exact hk.1.1.1.1 | exact hk.1.1.1 | exact hk.1.1 | exact hk.1 | refine And.intro ?_ ?_))⟩, ⟨by (with_reducible repeat (first | refine kN_ ?_ _ | refine kD_ ?_ | refine kA_ ?_ _)); exact BK832.out⟩, ⟨by (with_reducible repeat (first | refine kN_ ?_ _ | refine kD_ ?_ | refine kA_ ?_ _)); exact BK837.out⟩, ⟨by (with_reducible repeat (first | refine kN_ ?_ _ | refine kD_ ?_ | refine kA_ ?_ _)); exact BK853.out⟩, ⟨by repeat (first | (with_reducible first | exact HB.out | apply bA_ | apply pN_ | apply bD_ | refine bS_ ?_ GE832.out | refine bS_ ?_ GE837.out | refine bS_ ?_ GE853.out) | exact HB.out)⟩⟩
              ·replace c60 := Bool.eq_false_iff.mpr c60
               subst c60
               rw [if_neg (show ¬ (false = true) by decide)] at H
               have H' := aS_ H
               clear H
               go_wp2
               go_meet
               case rel => exact ⟨_, (true), (by first | rfl | (simp; done) | (simp [*]; done)), H', ⟨by have := HJ7.out; have := HJ30.out; first | omega | exact Nat.le_refl _⟩, ⟨by (with_reducible repeat (first | apply rA_ | apply rN_ | apply rD_)); exact Kd.R_mono HO_6.out (fun _ hk => by first | exact ⟨hk.1.1.2.1, ⟨hk.1.1.2.2, hk.1.2⟩⟩ | (repeat' first | exact hk.2 | exact hk.1.2 | exact hk.1.1.2 | exact hk.1.1.1.2 | exact hk.1.1.1.1 | exact hk.1.1.1 | exact hk.1.1 | exact hk.1 | refine And.intro ?_ ?_))⟩, ⟨by (with_reducible repeat (first | apply rA_ | apply rN_ | apply rD_)); exact Kd.R_mono HO_833000.out (fun _ hk => by first | exact ⟨hk.1.1.1, ⟨hk.1.1.2.2.2, hk.1.2⟩⟩ | (repeat' first | exact hk.2 | exact hk.1.2 | exact hk.1.1.2 | exact hk.1.1.1.2 | exact hk.1.1.1.1 | exact hk.1.1.1 | exact hk.1.1 | exact hk.1 | refine And.intro ?_ ?_))⟩, ⟨by (with_reducible repeat (first | apply rA_ | apply rN_ | apply rD_)); exact Kd.R_mono HO_838000.out (fun _ hk => by first | exact ⟨hk.1.1.1, ⟨hk.1.1.2.2.2, hk.1.2⟩⟩ | (repeat' first | exact hk.2 | exact hk.1.2 | exact hk.1.1.2 | exact hk.1.1.1.2 | exact hk.1.1.1.1 | exact hk.1.1.1 | exact hk.1.1 | exact hk.1 | refine And.intro ?_ ?_))⟩, ⟨by (with_reducible repeat (first | apply rA_ | apply rN_ | apply rD_)); exact Kd.R_mono HO851.out (fun _ hk => by first | exact ⟨hk.1.1.1.1.1.2, ⟨hk.1.1.2, hk.1.2⟩⟩ | (repeat' first | exact hk.2 | exact hk.1.2 | exact hk.1.1.2 | exact hk.1.1.1.2 | exact hk.1.1.1.1 | exact hk.1.1.1 | exact hk.1.1 | exact hk.1 | refine And.intro ?_ ?_))⟩, ⟨by (with_reducible repeat (first | refine kN_ ?_ _ | refine kD_ ?_ | refine kA_ ?_ _)); exact BK832.out⟩, ⟨by (with_reducible repeat (first | refine kN_ ?_ _ | refine kD_ ?_ | refine kA_ ?_ _)); exact BK837.out⟩, ⟨by (with_reducible repeat (first | refine kN_ ?_ _ | refine kD_ ?_ | refine kA_ ?_ _)); exact BK853.out⟩, ⟨by repeat (first | (with_reducible first | exact HB.out | apply bA_ | apply pN_ | apply bD_ | refine bS_ ?_ GE832.out | refine bS_ ?_ GE837.out | refine bS_ ?_ GE853.out) | exact HB.out)⟩⟩
             ·replace c59 := Bool.eq_false_iff.mpr c59
              subst c59
              rw [if_neg (show ¬ (false = true) by decide)] at H
              have H' := aS_ H
              clear H
              go_wp2
              go_meet
              case rel => exact ⟨_, (true), (by first | rfl | (simp; done) | (simp [*]; done)), H', ⟨by have := HJ7.out; have := HJ30.out; first | omega | exact Nat.le_refl _⟩, ⟨by (with_reducible repeat (first | apply rA_ | apply rN_ | apply rD_)); exact Kd.R_mono HO_6.out (fun _ hk => by first | exact ⟨hk.1.1.2.1, ⟨hk.1.1.2.2, hk.1.2⟩⟩ | (repeat' first | exact hk.2 | exact hk.1.2 | exact hk.1.1.2 | exact hk.1.1.1.2 | exact hk.1.1.1.1 | exact hk.1.1.1 | exact hk.1.1 | exact hk.1 | refine And.intro ?_ ?_))⟩, ⟨by (with_reducible repeat (first | apply rA_ | apply rN_ | apply rD_)); exact Kd.R_mono HO_833000.out (fun _ hk => by first | exact ⟨hk.1.1.1, ⟨hk.1.1.2.2.2, hk.1.2⟩⟩ | (repeat' first | exact hk.2 | exact hk.1.2 | exact hk.1.1.2 | exact hk.1.1.1.2 | exact hk.1.1.1.1 | exact hk.1.1.1 | exact hk.1.1 | exact hk.1 | refine And.intro ?_ ?_))⟩, ⟨by (with_reducible repeat (first | apply rA_ | apply rN_ | apply rD_)); exact Kd.R_mono HO_838000.out (fun _ hk => by first | exact ⟨hk.1.1.1, ⟨hk.1.1.2.2.2, hk.1.2⟩⟩ | (repeat' first | exact hk.2 | exact hk.1.2 | exact hk.1.1.2 | exact hk.1.1.1.2 | exact hk.1.1.1.1 | exact hk.1.1.1 | exact hk.1.1 | exact hk.1 | refine And.intro ?_ ?_))⟩, ⟨by (with_reducible repeat (first | apply rA_ | apply rN_ | apply rD_)); exact Kd.R_mono HO851.out (fun _ hk => by first | exact ⟨hk.1.1.1.1.1.2, ⟨hk.1.1.2, hk.1.2⟩⟩ | (repeat' first | exact hk.2 | exact hk.1.2 | exact hk.1.1.2 | exact hk.1.1.1.2 | exact hk.1.1.1.1 | exact hk.1.1.1 | exact hk.1.1 | exact hk.1 | refine And.intro ?_ ?_))⟩, ⟨by (with_reducible repeat (first | refine kN_ ?_ _ | refine kD_ ?_ | refine kA_ ?_ _)); exact BK832.out⟩, ⟨by (with_reducible repeat (first | refine kN_ ?_ _ | refine kD_ ?_ | refine kA_ ?_ _)); exact BK837.out⟩, ⟨by (with_reducible repeat (first | refine kN_ ?_ _ | refine kD_ ?_ | refine kA_ ?_ _)); exact BK853.out⟩, ⟨by repeat (first | (with_reducible first | exact HB.out | apply bA_ | apply pN_ | apply bD_ | refine bS_ ?_ GE832.out | refine bS_ ?_ GE837.out | refine bS_ ?_ GE853.out) | exact HB.out)⟩⟩
            ·replace c58 := Bool.eq_false_iff.mpr c58
             subst c58
             rw [if_neg (show ¬ (false = true) by decide)] at H
             have H' := aS_ H
             clear H
             go_wp2
             go_meet
             case rel => exact ⟨_, (true), (by first | rfl | (simp; done) | (simp [*]; done)), H', ⟨by have := HJ7.out; have := HJ30.out; first | omega | exact Nat.le_refl _⟩, ⟨by (with_reducible repeat (first | apply rA_ | apply rN_ | apply rD_)); exact Kd.R_mono HO_6.out (fun _ hk => by first | exact ⟨hk.1.1.2.1, ⟨hk.1.1.2.2, hk.1.2⟩⟩ | (repeat' first | exact hk.2 | exact hk.1.2 | exact hk.1.1.2 | exact hk.1.1.1.2 | exact hk.1.1.1.1 | exact hk.1.1.1 | exact hk.1.1 | exact hk.1 | refine And.intro ?_ ?_))⟩, ⟨by (with_reducible repeat (first | apply rA_ | apply rN_ | apply rD_)); exact Kd.R_mono HO_833000.out (fun _ hk => by first | exact ⟨hk.1.1.1, ⟨hk.1.1.2.2.2, hk.1.2⟩⟩ | (repeat' first | exact hk.2 | exact hk.1.2 | exact hk.1.1.2 | exact hk.1.1.1.2 | exact hk.1.1.1.1 | exact hk.1.1.1 | exact hk.1.1 | exact hk.1 | refine And.intro ?_ ?_))⟩, ⟨by (with_reducible repeat (first | apply rA_ | apply rN_ | apply rD_)); exact Kd.R_mono HO_838000.out (fun _ hk => by first | exact ⟨hk.1.1.1, ⟨hk.1.1.2.2.2, hk.1.2⟩⟩ | (repeat' first | exact hk.2 | exact hk.1.2 | exact hk.1.1.2 | exact hk.1.1.1.2 | exact hk.1.1.1.1 | exact hk.1.1.1 | exact hk.1.1 | exact hk.1 | refine And.intro ?_ ?_))⟩, ⟨by (with_reducible repeat (first | apply rA_ | apply rN_ | apply rD_)); exact Kd.R_mono HO851.out (fun _ hk => by first | exact ⟨hk.1.1.1.1.1.2, ⟨hk.1.1.2, hk.1.2⟩⟩ | (repeat' first | exact hk.2 | exact hk.1.2 | exact hk.1.1.2 | exact hk.1.1.1.2 | exact hk.1.1.1.1 | exact hk.1.1.1 | exact hk.1.1 | exact hk.1 | refine And.intro ?_ ?_))⟩, ⟨by (with_reducible repeat (first | refine kN_ ?_ _ | refine kD_ ?_ | refine kA_ ?_ _)); exact BK832.out⟩, ⟨by (with_reducible repeat (first | refine kN_ ?_ _ | refine kD_ ?_ | refine kA_ ?_ _)); exact BK837.out⟩, ⟨by (with_reducible repeat (first | refine kN_ ?_ _ | refine kD_ ?_ | refine kA_ ?_ _)); exact BK853.out⟩, ⟨by repeat (first | (with_reducible first | exact HB.out | apply bA_ | apply pN_ | apply bD_ | refine bS_ ?_ GE832.out | refine bS_ ?_ GE837.out | refine bS_ ?_ GE853.out) | exact HB.out)⟩⟩
           ·replace c57 := Bool.eq_false_iff.mpr c57
            subst c57
            rw [if_neg (show ¬ (false = true) by decide)] at H
            have H' := aS_ H
            clear H
            go_wp2
            go_meet
            case rel => exact ⟨_, (true), (by first | rfl | (simp; done) | (simp [*]; done)), H', ⟨by have := HJ7.out; have := HJ30.out; first | omega | exact Nat.le_refl _⟩, ⟨by (with_reducible repeat (first | apply rA_ | apply rN_ | apply rD_)); exact Kd.R_mono HO_6.out (fun _ hk => by first | exact ⟨hk.1.1.2.1, ⟨hk.1.1.2.2, hk.1.2⟩⟩ | (repeat' first | exact hk.2 | exact hk.1.2 | exact hk.1.1.2 | exact hk.1.1.1.2 | exact hk.1.1.1.1 | exact hk.1.1.1 | exact hk.1.1 | exact hk.1 | refine And.intro ?_ ?_))⟩, ⟨by (with_reducible repeat (first | apply rA_ | apply rN_ | apply rD_)); exact Kd.R_mono HO_833000.out (fun _ hk => by first | exact ⟨hk.1.1.1, ⟨hk.1.1.2.2.2, hk.1.2⟩⟩ | (repeat' first | exact hk.2 | exact hk.1.2 | exact hk.1.1.2 | exact hk.1.1.1.2 | exact hk.1.1.1.1 | exact hk.1.1.1 | exact hk.1.1 | exact hk.1 | refine And.intro ?_ ?_))⟩, ⟨by (with_reducible repeat (first | apply rA_ | apply rN_ | apply rD_)); exact Kd.R_mono HO_838000.out (fun _ hk => by first | exact ⟨hk.1.1.1, ⟨hk.1.1.2.2.2, hk.1.2⟩⟩ | (repeat' first | exact hk.2 | exact hk.1.2 | exact hk.1.1.2 | exact hk.1.1.1.2 | exact hk.1.1.1.1 | exact hk.1.1.1 | exact hk.1.1 | exact hk.1 | refine And.intro ?_ ?_))⟩, ⟨by (with_reducible repeat (first | apply rA_ | apply rN_ | apply rD_)); exact Kd.R_mono HO851.out (fun _ hk => by first | exact ⟨hk.1.1.1.1.1.2, ⟨hk.1.1.2, hk.1.2⟩⟩ | (repeat' first | exact hk.2 | exact hk.1.2 | exact hk.1.1.2 | exact hk.1.1.1.2 | exact hk.1.1.1.1 | exact hk.1.1.1 | exact hk.1.1 | exact hk.1 | refine And.intro ?_ ?_))⟩, ⟨by (with_reducible repeat (first | refine kN_ ?_ _ | refine kD_ ?_ | refine kA_ ?_ _)); exact BK832.out⟩, ⟨by (with_reducible repeat (first | refine kN_ ?_ _ | refine kD_ ?_ | refine kA_ ?_ _)); exact BK837.out⟩, ⟨by (with_reducible repeat (first | refine kN_ ?_ _ | refine kD_ ?_ | refine kA_ ?_ _)); exact BK853.out⟩, ⟨by repeat (first | (with_reducible first | exact HB.out | apply bA_ | apply pN_ | apply bD_ | refine bS_ ?_ GE832.out | refine bS_ ?_ GE837.out | refine bS_ ?_ GE853.out) | exact HB.out)⟩⟩
          ·replace c56 := Bool.eq_false_iff.mpr c56
           subst c56
           rw [if_neg (show ¬ (false = true) by decide)] at H
           have H' := aS_ H
           clear H
           go_wp2
           go_meet
           case rel => exact ⟨_, (true), (by first | rfl | (simp; done) | (simp [*]; done)), H', ⟨by have := HJ7.out; have := HJ30.out; first | omega | exact Nat.le_refl _⟩, ⟨by (with_reducible repeat (first | apply rA_ | apply rN_ | apply rD_)); exact Kd.R_mono HO_6.out (fun _ hk => by first | exact ⟨hk.1.1.2.1, ⟨hk.1.1.2.2, hk.1.2⟩⟩ | (repeat' first | exact hk.2 | exact hk.1.2 | exact hk.1.1.2 | exact hk.1.1.1.2 | exact hk.1.1.1.1 | exact hk.1.1.1 | exact hk.1.1 | exact hk.1 | refine And.intro ?_ ?_))⟩, ⟨by (with_reducible repeat (first | apply rA_ | apply rN_ | apply rD_)); exact Kd.R_mono HO_833000.out (fun _ hk => by first | exact ⟨hk.1.1.1, ⟨hk.1.1.2.2.2, hk.1.2⟩⟩ | (repeat' first | exact hk.2 | exact hk.1.2 | exact hk.1.1.2 | exact hk.1.1.1.2 | exact hk.1.1.1.1 | exact hk.1.1.1 | exact hk.1.1 | exact hk.1 | refine And.intro ?_ ?_))⟩, ⟨by (with_reducible repeat (first | apply rA_ | apply rN_ | apply rD_)); exact Kd.R_mono HO_838000.out (fun _ hk => by first | exact ⟨hk.1.1.1, ⟨hk.1.1.2.2.2, hk.1.2⟩⟩ | (repeat' first | exact hk.2 | exact hk.1.2 | exact hk.1.1.2 | exact hk.1.1.1.2 | exact hk.1.1.1.1 | exact hk.1.1.1 | exact hk.1.1 | exact hk.1 | refine And.intro ?_ ?_))⟩, ⟨by (with_reducible repeat (first | apply rA_ | apply rN_ | apply rD_)); exact Kd.R_mono HO851.out (fun _ hk => by first | exact ⟨hk.1.1.1.1.1.2, ⟨hk.1.1.2, hk.1.2⟩⟩ | (repeat' first | exact hk.2 | exact hk.1.2 | exact hk.1.1.2 | exact hk.1.1.1.2 | exact hk.1.1.1.1 | exact hk.1.1.1 | exact hk.1.1 | exact hk.1 | refine And.intro ?_ ?_))⟩, ⟨by (with_reducible repeat (first | refine kN_ ?_ _ | refine kD_ ?_ | refine kA_ ?_ _)); exact BK832.out⟩, ⟨by (with_reducible repeat (first | refine kN_ ?_ _ | refine kD_ ?_ | refine kA_ ?_ _)); exact BK837.out⟩, ⟨by (with_reducible repeat (first | refine kN_ ?_ _ | refine kD_ ?_ | refine kA_ ?_ _)); exact BK853.out⟩, ⟨by repeat (first | (with_reducible first | exact HB.out | apply bA_ | apply pN_ | apply bD_ | refine bS_ ?_ GE832.out | refine bS_ ?_ GE837.out | refine bS_ ?_ GE853.out) | exact HB.out)⟩⟩
         case rest =>
          clear HC45
          try clear c1
          try clear c2
          try clear p2
          try clear c3
          try clear c4
          try clear c5
          try clear c6
          try clear p6
          try clear c7
          try clear c9
          try clear c11
          try clear c13
          try clear c18
          try clear c20
          try clear c20b0
          try clear c20b1
          try clear c20b2
          try clear c22
          try clear c26
          try clear c28
          try clear c29
          try clear c32
          try clear c33
          try clear c34
          try clear c35
          try clear c37
          try clear c37b0
          try clear c37b1
          try clear c39
          try clear c39b0
          try clear c39b1
          try clear c40
          try clear c50
          try clear c51
          try clear c56
          try clear c57
          try clear c58
          try clear c59
          try clear c60
          try clear c62
          try clear c63
          try clear c63b0
          try clear c63b1
          try clear p64
          try clear c65
          try clear c68
          try clear c69
          try clear c74
          try clear c75
          try clear hcz14_0
          try clear hcz19_0
          try clear hcz23_0
          try clear hcz24_0
          try clear hcz33_0
          try clear hcz35_0
          try clear hcz52_0
          try clear hcz54_0
          try clear hcz70_0
          try clear hcz76_0
          try clear hfz14_0
          try clear hfz19_0
          try clear hfz23_0
          try clear hfz24_0
          try clear hfz33_0
          try clear hfz35_0
          try clear hfz52_0
          try clear hfz54_0
          try clear hfz70_0
          try clear hfz76_0
          try clear p2
          try clear p6
          obtain ⟨kq, x154_44, rfl, HA, HJ44, HO_6, HO_833000, HO_838000, HO_854000, BK832, BK837, BK853, HB⟩ := hcut
          cases kq with
          | zero => exact absurd HA.out (by simp [laws_FnTablesFill.j2])
          | succ kj44 =>
           have H := HA.out
           clear HA
           simp only [laws_FnTablesFill.j2] at H
           by_cases c82 : x154_44 = true
           ·subst c82
            rw [if_pos rfl] at H
            obtain rfl := Option.some.inj H
            go_wp2
            go_ret
            exact ⟨by first | rfl | (simp [errW_none, errW_some] <;> rfl) | (simp [*, errW_none, errW_some] <;> rfl), by repeat (first | (with_reducible first | exact HB.out | apply bA_ | apply pN_ | apply bD_ | refine bS_ ?_ GE832.out | refine bS_ ?_ GE837.out | refine bS_ ?_ GE853.out) | exact HB.out)⟩
           ·as_aux_lemma =>
            replace c82 := Bool.eq_false_iff.mpr c82
            subst c82
            rw [if_neg (show ¬ (false = true) by decide)] at H
            have H' := aS_ H
            clear H
            go_wp2
            go_loopg [22, 157] kj44 (fun kq v22 v157 w' => ∃ (x22_4 : Int) (x157_4 : Int), v22 = .int .i64 x22_4 ∧ v157 = .int .i64 x157_4 ∧ Aside0 (laws_FnTablesFill.l0 kq l1 t824 t825 t843 x22_4 t825 (t825.length : Int) x157_4 t828 = some r) ∧ Aside0 (kq ≤ kj44) ∧ Aside0 (Kd.R (Kd.int .i64) 3 w' w.heap.size (fun k_ => some k_ ≠ ((.slice Ao13 t828.length co13) : Value).ownBlock ∧ some k_ ≠ ((.slice Ao17 t833.length co17) : Value).ownBlock ∧ some k_ ≠ ((.slice Ao49 t849.length co49) : Value).ownBlock) (.slice Ao10 t825.length co10) t825) ∧ Aside0 (Kd.R (Kd.int .i64) 3 w' w.heap.size (fun k_ => some k_ ≠ ((.slice Ao13 t828.length co13) : Value).ownBlock ∧ some k_ ≠ ((.slice Ao17 t833.length co17) : Value).ownBlock ∧ some k_ ≠ ((.slice Ao49 t849.length co49) : Value).ownBlock) (.slice Ao10 t825.length co10) t825) ∧ Aside0 (Kd.R (Kd.int .i64) 3 w' w.heap.size (fun k_ => some k_ ≠ ((.slice Ao10 t825.length co10) : Value).ownBlock ∧ some k_ ≠ ((.slice Ao10 t825.length co10) : Value).ownBlock ∧ some k_ ≠ ((.slice Ao17 t833.length co17) : Value).ownBlock ∧ some k_ ≠ ((.slice Ao49 t849.length co49) : Value).ownBlock) (.slice Ao13 t828.length co13) t828) ∧ Aside0 (Kd.R (Kd.int .i64) 3 w' w.heap.size (fun k_ => some k_ ≠ ((.slice Ao10 t825.length co10) : Value).ownBlock ∧ some k_ ≠ ((.slice Ao10 t825.length co10) : Value).ownBlock ∧ some k_ ≠ ((.slice Ao13 t828.length co13) : Value).ownBlock ∧ some k_ ≠ ((.slice Ao49 t849.length co49) : Value).ownBlock) (.slice Ao17 t833.length co17) t833) ∧ Aside0 (Kd.R (Kd.int .i64) 3 w' w.heap.size (fun k_ => some k_ ≠ ((.slice Ao10 t825.length co10) : Value).ownBlock ∧ some k_ ≠ ((.slice Ao10 t825.length co10) : Value).ownBlock ∧ some k_ ≠ ((.slice Ao13 t828.length co13) : Value).ownBlock ∧ some k_ ≠ ((.slice Ao17 t833.length co17) : Value).ownBlock) (.slice Ao49 t849.length co49) t849) ∧ Aside0 (w'.heap[gb832]? = some (.cells #[(.slice Ao13 t828.length co13)] 24 (0, 0))) ∧ Aside0 (w'.heap[gb837]? = some (.cells #[(.slice Ao17 t833.length co17)] 24 (0, 0))) ∧ Aside0 (w'.heap[gb853]? = some (.cells #[(.slice Ao49 t849.length co49)] 24 (0, 0))) ∧ Aside0 (Below w.heap.size w w'))
            case atStart => exact ⟨(0), (0), (by first | rfl | (simp; done) | (simp [*]; done)), (by first | rfl | (simp; done) | (simp [*]; done)), H', ⟨Nat.le_refl _⟩, ⟨by (with_reducible repeat (first | apply rA_ | apply rN_ | apply rD_)); exact HO_6.out⟩, ⟨by (with_reducible repeat (first | apply rA_ | apply rN_ | apply rD_)); exact HO_6.out⟩, ⟨by (with_reducible repeat (first | apply rA_ | apply rN_ | apply rD_)); exact Kd.R_mono HO_833000.out (fun _ hk => by first | exact ⟨hk.1, ⟨hk.1, ⟨hk.2.1, hk.2.2⟩⟩⟩ | (repeat' first | exact hk.2 | exact hk.1.2 | exact hk.1.1.2 | exact hk.1.1.1.2 | exact hk.1.1.1.1 | exact hk.1.1.1 | exact hk.1.1 | exact hk.1 | refine And.intro ?_ ?_))⟩, ⟨by (with_reducible repeat (first | apply rA_ | apply rN_ | apply rD_)); exact Kd.R_mono HO_838000.out (fun _ hk => by first | exact ⟨hk.1, ⟨hk.1, ⟨hk.2.1, hk.2.2⟩⟩⟩ | (repeat' first | exact hk.2 | exact hk.1.2 | exact hk.1.1.2 | exact hk.1.1.1.2 | exact hk.1.1.1.1 | exact hk.1.1.1 | exact hk.1.1 | exact hk.1 | refine And.intro ?_ ?_))⟩, ⟨by (with_reducible repeat (first | apply rA_ | apply rN_ | apply rD_)); exact Kd.R_mono HO_854000.out (fun _ hk => by first | exact ⟨hk.1, ⟨hk.1, ⟨hk.2.1, hk.2.2⟩⟩⟩ | (repeat' first | exact hk.2 | exact hk.1.2 | exact hk.1.1.2 | exact hk.1.1.1.2 | exact hk.1.1.1.1 | exact hk.1.1.1 | exact hk.1.1 | exact hk.1 | refine And.intro ?_ ?_))⟩, ⟨by (with_reducible repeat (first | refine kN_ ?_ _ | refine kD_ ?_ | refine kA_ ?_ _)); exact BK832.out⟩, ⟨by (with_reducible repeat (first | refine kN_ ?_ _ | refine kD_ ?_ | refine kA_ ?_ _)); exact BK837.out⟩, ⟨by (with_reducible repeat (first | refine kN_ ?_ _ | refine kD_ ?_ | refine kA_ ?_ _)); exact BK853.out⟩, ⟨by repeat (first | (with_reducible first | exact HB.out | apply bA_ | apply pN_ | apply bD_ | refine bS_ ?_ GE832.out | refine bS_ ?_ GE837.out | refine bS_ ?_ GE853.out) | exact HB.out)⟩⟩
            case round =>
             clear H'
             try clear c1
             try clear c2
             try clear p2
             try clear c3
             try clear c4
             try clear c5
             try clear c6
             try clear p6
             try clear c7
             try clear c8
             try clear c9
             try clear c11
             try clear c13
             try clear c18
             try clear c20
             try clear c20b0
             try clear c20b1
             try clear c20b2
             try clear c22
             try clear c26
             try clear c28
             try clear c29
             try clear c32
             try clear c33
             try clear c34
             try clear c35
             try clear c37
             try clear c37b0
             try clear c37b1
             try clear c39
             try clear c39b0
             try clear c39b1
             try clear c40
             try clear c50
             try clear c51
             try clear c56
             try clear c57
             try clear c58
             try clear c59
             try clear c60
             try clear c62
             try clear c63
             try clear c63b0
             try clear c63b1
             try clear p64
             try clear c65
             try clear c68
             try clear c69
             try clear c74
             try clear c75
             try clear c82
             try clear hcz14_0
             try clear hcz19_0
             try clear hcz23_0
             try clear hcz24_0
             try clear hcz33_0
             try clear hcz35_0
             try clear hcz52_0
             try clear hcz54_0
             try clear hcz70_0
             try clear hcz76_0
             try clear hfz14_0
             try clear hfz19_0
             try clear hfz23_0
             try clear hfz24_0
             try clear hfz33_0
             try clear hfz35_0
             try clear hfz52_0
             try clear hfz54_0
             try clear hfz70_0
             try clear hfz76_0
             try clear p2
             try clear p6
             try clear p64
             obtain ⟨x22_4, x157_4, rfl, rfl, HA, HK4, HO_6, HO_155, HO_833000, HO_838000, HO_854000, BK832, BK837, BK853, HB⟩ := hrel
             cases gk with
             | zero => exact absurd HA.out (by simp [laws_FnTablesFill.l0])
             | succ k4 =>
              have H := HA.out
              clear HA
              simp only [laws_FnTablesFill.l0] at H
              by_cases c83 : x157_4 < (t825.length : Int)
              ·as_aux_lemma =>
               rw [if_pos c83] at H
               have c83b0 : decide (x157_4 < (t825.length : Int)) = true := decide_eq_true c83
               clear c83
               by_cases c84 : 0 ≤ x157_4
               focus
                rw [if_pos c84] at H
                have c84b0 : decide (0 ≤ x157_4) = true := decide_eq_true c84
                clear c84
                by_cases c85 : x157_4 < (t825.length : Int)
                focus
                 rw [if_pos c85] at H
                 have c85b0 : decide (x157_4 < (t825.length : Int)) = true := decide_eq_true c85
                 clear c85
                 replace H := Option.bind_eq_some_iff.mp H
                 obtain ⟨⟨t863, t864, t865⟩, A860, H⟩ := H
                 have A86 := aS_ A860
                 clear A860
                 by_cases c87 : t865 = true
                 focus
                  subst c87
                  rw [if_pos rfl] at H
                  by_cases c88 : 0 ≤ t863
                  focus
                   rw [if_pos c88] at H
                   have c88b0 : decide (0 ≤ t863) = true := decide_eq_true c88
                   clear c88
                   by_cases c89 : t863 < (t828.length : Int)
                   focus
                    rw [if_pos c89] at H
                    have c89b0 : decide (t863 < (t828.length : Int)) = true := decide_eq_true c89
                    clear c89
                    by_cases c90 : (rd t828 t863) = (rd t825 x157_4)
                    focus
                     rw [if_pos c90] at H
                     have c90b0 : ((rd t828 t863) == (rd t825 x157_4)) = true := beq_iff_eq.mpr c90
                     have c90b1 : ((rd t828 t863) != (rd t825 x157_4)) = false := bne_eq_false_iff_eq.mpr c90
                     clear c90
                     by_cases c91 : t824 = 0
                     ·rw [if_pos c91] at H
                      exact absurd H (by simp)
                     focus
                      rw [if_neg c91] at H
                      have c91b0 : (t824 == 0) = false := beq_eq_false_iff_ne.mpr c91
                      have c91b1 : (t824 != 0) = true := bne_iff_ne.mpr c91
                      by_cases c92 : (Int.tmod (wrap64 ((rd t825 x157_4) + t864)) t824) = t863
                      ·as_aux_lemma =>
                       rw [if_pos c92] at H
                       have c92b0 : ((Int.tmod (wrap64 ((rd t825 x157_4) + t864)) t824) == t863) = true := beq_iff_eq.mpr c92
                       have c92b1 : ((Int.tmod (wrap64 ((rd t825 x157_4) + t864)) t824) != t863) = false := bne_eq_false_iff_eq.mpr c92
                       clear c92
                       have H' := aS_ H
                       clear H
                       have p862 : 0 ≤ (x157_4 : Int) := of_decide_eq_true (by assumption)
                       have q862 : x157_4 < (t825.length : Int) := of_decide_eq_true (by assumption)
                       obtain ⟨ad862, e862, hx862_0⟩ := Kd.at_int (Kd.R_reads' HO_155.out).2.2 x157_4 p862 q862
                       cases e862
                       replace p862 := eq_true p862
                       replace q862 := eq_true q862
                       have hnb93 := NB832_837.out
                       have hnc93 := NB837_832.out
                       have hnb94 := NB832_853.out
                       have hnc94 := NB853_832.out
                       have hcz95_0 : wr.cell? ⟨gb832, 0, none⟩ = some (.slice Ao13 t828.length co13) := (blk_cell BK832.out 0).trans rfl
                       have hfz95_0 := blk_frozen BK832.out 0
                       go_wp2_with (first | ((with_reducible refine gate_callee (f := 41) rfl ?_); refine goesL_ (some 164) rfl rfl Try.func41 (by kernel_rfl) rfl #[.agg #[.slice Ao13 t828.length co13], .int .i64 (rd t825 x157_4)] rfl (by (try simp only [List.map_toArray, List.map_cons, List.map_nil]); first | done | rfl | (simp only [List.length_drop, List.length_take]; rfl)) ?_; (with_reducible refine (impl_FindKey.calls k4 _ _ t828 (rd t825 x157_4) t863 t864 true _ ?side1 ?side2 A86.out).mono ?_); (case side1 => repeat (first | exact (Kd.R_reads' HO_833000.out).2.2 | (with_reducible refine Kd.C_alloc ?_ _) | (with_reducible refine Kd.C_drewN ?_ _) | (with_reducible refine Kd.C_drew ?_))); (case side2 => exact (Kd.R_reads' HO_833000.out).2.1); rintro e w96 ⟨rfl, hb⟩; refine ⟨_, rfl, ?_⟩; have n0_ := aS_ (Kd.R_below (by (with_reducible repeat (first | apply rA_ | apply rN_ | apply rD_)); exact HO_6.out) hb); have n1_ := aS_ (Kd.R_below (by (with_reducible repeat (first | apply rA_ | apply rN_ | apply rD_)); exact HO_155.out) hb); have n2_ := aS_ (Kd.R_below (by (with_reducible repeat (first | apply rA_ | apply rN_ | apply rD_)); exact HO_833000.out) hb); have n3_ := aS_ (Kd.R_below (by (with_reducible repeat (first | apply rA_ | apply rN_ | apply rD_)); exact HO_838000.out) hb); have n4_ := aS_ (Kd.R_below (by (with_reducible repeat (first | apply rA_ | apply rN_ | apply rD_)); exact HO_854000.out) hb); have n5_ := aS_ (blk_below (g := gb832) (o := .cells #[.slice Ao13 t828.length co13] 24 (0, 0)) (by (with_reducible repeat (first | refine kN_ ?_ _ | refine kD_ ?_ | refine kA_ ?_ _)); exact BK832.out) hb); have n6_ := aS_ (blk_below (g := gb837) (o := .cells #[.slice Ao17 t833.length co17] 24 (0, 0)) (by (with_reducible repeat (first | refine kN_ ?_ _ | refine kD_ ?_ | refine kA_ ?_ _)); exact BK837.out) hb); have n7_ := aS_ (blk_below (g := gb853) (o := .cells #[.slice Ao49 t849.length co49] 24 (0, 0)) (by (with_reducible repeat (first | refine kN_ ?_ _ | refine kD_ ?_ | refine kA_ ?_ _)); exact BK853.out) hb); have n8_ := aS_ (below_step (by repeat (first | (with_reducible first | exact HB.out | apply bA_ | apply pN_ | apply bD_ | refine bS_ ?_ GE832.out | refine bS_ ?_ GE837.out | refine bS_ ?_ GE853.out) | exact HB.out)) hb); clear HO_6; clear HO_155; clear HO_833000; clear HO_838000; clear HO_854000; clear BK832; clear BK837; clear BK853; clear HB; have HO_6 := n0_; have HO_155 := n1_; have HO_833000 := n2_; have HO_838000 := n3_; have HO_854000 := n4_; have BK832 := n5_; have BK837 := n6_; have BK853 := n7_; have HB := n8_; clear n0_ n1_ n2_ n3_ n4_ n5_ n6_ n7_ n8_; (try clear hb); (try clear hb2); (try clear hk); (try clear hi); have hcz97_0 : w96.cell? ⟨gb832, 0, none⟩ = some (.slice Ao13 t828.length co13) := (blk_cell BK832.out 0).trans rfl; have hfz97_0 := blk_frozen BK832.out 0; have p866 : 0 ≤ (t863 : Int) := of_decide_eq_true (by assumption); have q866 : t863 < (t828.length : Int) := of_decide_eq_true (by assumption); obtain ⟨ad866, e866, hx866_0⟩ := Kd.at_int (Kd.R_reads' HO_833000.out).2.2 t863 p866 q866; cases e866; replace p866 := eq_true p866; replace q866 := eq_true q866))
                       go_roundg k4
                       case measure => have := HJ7.out; have := HJ30.out; have := HJ44.out; have := HK4.out; omega
                       case rel => exact ⟨(wrap64 (x22_4 + t864)), (wrap64 (x157_4 + 1)), (by first | rfl | (simp; done) | (simp [*]; done)), (by first | rfl | (simp; done) | (simp [*]; done)), H', ⟨by have := HJ7.out; have := HJ30.out; have := HJ44.out; have := HK4.out; omega⟩, ⟨by (with_reducible repeat (first | apply rA_ | apply rN_ | apply rD_)); exact HO_6.out⟩, ⟨by (with_reducible repeat (first | apply rA_ | apply rN_ | apply rD_)); exact HO_155.out⟩, ⟨by (with_reducible repeat (first | apply rA_ | apply rN_ | apply rD_)); exact HO_833000.out⟩, ⟨by (with_reducible repeat (first | apply rA_ | apply rN_ | apply rD_)); exact HO_838000.out⟩, ⟨by (with_reducible repeat (first | apply rA_ | apply rN_ | apply rD_)); exact HO_854000.out⟩, ⟨by (with_reducible repeat (first | refine kN_ ?_ _ | refine kD_ ?_ | refine kA_ ?_ _)); exact BK832.out⟩, ⟨by (with_reducible repeat (first | refine kN_ ?_ _ | refine kD_ ?_ | refine kA_ ?_ _)); exact BK837.out⟩, ⟨by (with_reducible repeat (first | refine kN_ ?_ _ | refine kD_ ?_ | refine kA_ ?_ _)); exact BK853.out⟩, ⟨by repeat (first | (with_reducible first | exact HB.out | apply bA_ | apply pN_ | apply bD_ | refine bS_ ?_ GE832.out | refine bS_ ?_ GE837.out | refine bS_ ?_ GE853.out) | exact HB.out)⟩⟩
                      focus
                       rw [if_neg c92] at H
                       have c92b0 : ((Int.tmod (wrap64 ((rd t825 x157_4) + t864)) t824) == t863) = false := beq_eq_false_iff_ne.mpr c92
                       have c92b1 : ((Int.tmod (wrap64 ((rd t825 x157_4) + t864)) t824) != t863) = true := bne_iff_ne.mpr c92
                       obtain rfl := Option.some.inj H
                       have p862 : 0 ≤ (x157_4 : Int) := of_decide_eq_true (by assumption)
                       have q862 : x157_4 < (t825.length : Int) := of_decide_eq_true (by assumption)
                       obtain ⟨ad862, e862, hx862_0⟩ := Kd.at_int (Kd.R_reads' HO_155.out).2.2 x157_4 p862 q862
                       cases e862
                       replace p862 := eq_true p862
                       replace q862 := eq_true q862
                       have hnb98 := NB832_837.out
                       have hnc98 := NB837_832.out
                       have hnb99 := NB832_853.out
                       have hnc99 := NB853_832.out
                       have hcz100_0 : wr.cell? ⟨gb832, 0, none⟩ = some (.slice Ao13 t828.length co13) := (blk_cell BK832.out 0).trans rfl
                       have hfz100_0 := blk_frozen BK832.out 0
                      rotate_left 1
                     rotate_left 1
                    rotate_left 1
                    focus
                     rw [if_neg c90] at H
                     have c90b0 : ((rd t828 t863) == (rd t825 x157_4)) = false := beq_eq_false_iff_ne.mpr c90
                     have c90b1 : ((rd t828 t863) != (rd t825 x157_4)) = true := bne_iff_ne.mpr c90
                     obtain rfl := Option.some.inj H
                     have p862 : 0 ≤ (x157_4 : Int) := of_decide_eq_true (by assumption)
                     have q862 : x157_4 < (t825.length : Int) := of_decide_eq_true (by assumption)
                     obtain ⟨ad862, e862, hx862_0⟩ := Kd.at_int (Kd.R_reads' HO_155.out).2.2 x157_4 p862 q862
                     cases e862
                     replace p862 := eq_true p862
                     replace q862 := eq_true q862
                     have hnb103 := NB832_837.out
                     have hnc103 := NB837_832.out
                     have hnb104 := NB832_853.out
                     have hnc104 := NB853_832.out
                     have hcz105_0 : wr.cell? ⟨gb832, 0, none⟩ = some (.slice Ao13 t828.length co13) := (blk_cell BK832.out 0).trans rfl
                     have hfz105_0 := blk_frozen BK832.out 0
                    rotate_left 1
                   rotate_left 2
                   ·rw [if_neg c89] at H
                    exact absurd H (by simp)
                  rotate_left 2
                  ·rw [if_neg c88] at H
                   exact absurd H (by simp)
                 rotate_left 2
                 focus
                  replace c87 := Bool.eq_false_iff.mpr c87
                  subst c87
                  rw [if_neg (show ¬ (false = true) by decide)] at H
                  obtain rfl := Option.some.inj H
                  have p862 : 0 ≤ (x157_4 : Int) := of_decide_eq_true (by assumption)
                  have q862 : x157_4 < (t825.length : Int) := of_decide_eq_true (by assumption)
                  obtain ⟨ad862, e862, hx862_0⟩ := Kd.at_int (Kd.R_reads' HO_155.out).2.2 x157_4 p862 q862
                  cases e862
                  replace p862 := eq_true p862
                  replace q862 := eq_true q862
                  have hnb108 := NB832_837.out
                  have hnc108 := NB837_832.out
                  have hnb109 := NB832_853.out
                  have hnc109 := NB853_832.out
                  have hcz110_0 : wr.cell? ⟨gb832, 0, none⟩ = some (.slice Ao13 t828.length co13) := (blk_cell BK832.out 0).trans rfl
                  have hfz110_0 := blk_frozen BK832.out 0
                 rotate_left 1
                rotate_left 3
                ·rw [if_neg c85] at H
                 exact absurd H (by simp)
               rotate_left 3
               ·rw [if_neg c84] at H
                exact absurd H (by simp)
               all_goals as_aux_lemma =>
                go_wp2_with (first | ((with_reducible refine gate_callee (f := 41) rfl ?_); refine goesL_ (some 164) rfl rfl Try.func41 (by kernel_rfl) rfl #[.agg #[.slice Ao13 t828.length co13], .int .i64 (rd t825 x157_4)] rfl (by (try simp only [List.map_toArray, List.map_cons, List.map_nil]); first | done | rfl | (simp only [List.length_drop, List.length_take]; rfl)) ?_; (with_reducible refine (impl_FindKey.calls _ _ _ _ _ _ _ _ _ ?side1 ?side2 A86.out).mono ?_); (case side1 => repeat (first | exact (Kd.R_reads' HO_833000.out).2.2 | (with_reducible refine Kd.C_alloc ?_ _) | (with_reducible refine Kd.C_drewN ?_ _) | (with_reducible refine Kd.C_drew ?_))); (case side2 => exact (Kd.R_reads' HO_833000.out).2.1); rintro e w101 ⟨rfl, hb⟩; refine ⟨_, rfl, ?_⟩; have n0_ := aS_ (Kd.R_below (by (with_reducible repeat (first | apply rA_ | apply rN_ | apply rD_)); exact HO_6.out) hb); have n1_ := aS_ (Kd.R_below (by (with_reducible repeat (first | apply rA_ | apply rN_ | apply rD_)); exact HO_155.out) hb); have n2_ := aS_ (Kd.R_below (by (with_reducible repeat (first | apply rA_ | apply rN_ | apply rD_)); exact HO_833000.out) hb); have n3_ := aS_ (Kd.R_below (by (with_reducible repeat (first | apply rA_ | apply rN_ | apply rD_)); exact HO_838000.out) hb); have n4_ := aS_ (Kd.R_below (by (with_reducible repeat (first | apply rA_ | apply rN_ | apply rD_)); exact HO_854000.out) hb); have n5_ := aS_ (blk_below (g := gb832) (o := .cells #[.slice Ao13 t828.length co13] 24 (0, 0)) (by (with_reducible repeat (first | refine kN_ ?_ _ | refine kD_ ?_ | refine kA_ ?_ _)); exact BK832.out) hb); have n6_ := aS_ (blk_below (g := gb837) (o := .cells #[.slice Ao17 t833.length co17] 24 (0, 0)) (by (with_reducible repeat (first | refine kN_ ?_ _ | refine kD_ ?_ | refine kA_ ?_ _)); exact BK837.out) hb); have n7_ := aS_ (blk_below (g := gb853) (o := .cells #[.slice Ao49 t849.length co49] 24 (0, 0)) (by (with_reducible repeat (first | refine kN_ ?_ _ | refine kD_ ?_ | refine kA_ ?_ _)); exact BK853.out) hb); have n8_ := aS_ (below_step (by repeat (first | (with_reducible first | exact HB.out | apply bA_ | apply pN_ | apply bD_ | refine bS_ ?_ GE832.out | refine bS_ ?_ GE837.out | refine bS_ ?_ GE853.out) | exact HB.out)) hb); clear HO_6; clear HO_155; clear HO_833000; clear HO_838000; clear HO_854000; clear BK832; clear BK837; clear BK853; clear HB; have HO_6 := n0_; have HO_155 := n1_; have HO_833000 := n2_; have HO_838000 := n3_; have HO_854000 := n4_; have BK832 := n5_; have BK837 := n6_; have BK853 := n7_; have HB := n8_; clear n0_ n1_ n2_ n3_ n4_ n5_ n6_ n7_ n8_; (try clear hb); (try clear hb2); (try clear hk); (try clear hi); have hcz102_0 : w101.cell? ⟨gb832, 0, none⟩ = some (.slice Ao13 t828.length co13) := (blk_cell BK832.out 0).trans rfl; have hfz102_0 := blk_frozen BK832.out 0; (try (have p866 : 0 ≤ (t863 : Int) := of_decide_eq_true (by assumption); have q866 : t863 < (t828.length : Int) := of_decide_eq_true (by assumption); obtain ⟨ad866, e866, hx866_0⟩ := Kd.at_int (Kd.R_reads' HO_833000.out).2.2 t863 p866 q866; cases e866; replace p866 := eq_true p866; replace q866 := eq_true q866))))
                go_ret
                exact ⟨by first | rfl | (simp [errW_none, errW_some] <;> rfl) | (simp [*, errW_none, errW_some] <;> rfl), by repeat (first | (with_reducible first | exact HB.out | apply bA_ | apply pN_ | apply bD_ | refine bS_ ?_ GE832.out | refine bS_ ?_ GE837.out | refine bS_ ?_ GE853.out) | exact HB.out)⟩
              ·as_aux_lemma =>
               rw [if_neg c83] at H
               have c83b0 : decide (x157_4 < (t825.length : Int)) = false := decide_eq_false c83
               clear c83
               replace H := Option.bind_eq_some_iff.mp H
               obtain ⟨⟨t867, t870⟩, A1120, H⟩ := H
               have A112 := aS_ A1120
               clear A1120
               replace H := Option.bind_eq_some_iff.mp H
               obtain ⟨⟨t871, t874⟩, A1130, H⟩ := H
               have A113 := aS_ A1130
               clear A1130
               by_cases c114 : t870 = true
               focus
                subst c114
                rw [if_pos rfl] at H
                by_cases c115 : t874 = true
                focus
                 subst c115
                 rw [if_pos rfl] at H
                 by_cases c116 : x22_4 = t843
                 focus
                  rw [if_pos c116] at H
                  have c116b0 : (x22_4 == t843) = true := beq_iff_eq.mpr c116
                  have c116b1 : (x22_4 != t843) = false := bne_eq_false_iff_eq.mpr c116
                  clear c116
                  replace H := Option.bind_eq_some_iff.mp H
                  obtain ⟨t875, A1170, H⟩ := H
                  have A117 := aS_ A1170
                  clear A1170
                  by_cases c118 : t875 = (t825.length : Int)
                  focus
                   rw [if_pos c118] at H
                   have c118b0 : (t875 == (t825.length : Int)) = true := beq_iff_eq.mpr c118
                   have c118b1 : (t875 != (t825.length : Int)) = false := bne_eq_false_iff_eq.mpr c118
                   clear c118
                   by_cases c119 : (t871.length : Int) = (t825.length : Int)
                   ·as_aux_lemma =>
                    rw [if_pos c119] at H
                    have c119b0 : ((t871.length : Int) == (t825.length : Int)) = true := beq_iff_eq.mpr c119
                    have c119b1 : ((t871.length : Int) != (t825.length : Int)) = false := bne_eq_false_iff_eq.mpr c119
                    have c119b2 : (t871.length == t825.length) = true := by first | simpa using c119 | (simp at c119 ⊢; omega)
                    clear c119
                    have H' := aS_ H
                    clear H
                    have hnb120 := NB832_837.out
                    have hnc120 := NB837_832.out
                    have hnb121 := NB832_853.out
                    have hnc121 := NB853_832.out
                    have hcz122_0 : wr.cell? ⟨gb832, 0, none⟩ = some (.slice Ao13 t828.length co13) := (blk_cell BK832.out 0).trans rfl
                    have hfz122_0 := blk_frozen BK832.out 0
                    go_wp2_with (first | ((with_reducible refine gate_callee (f := 42) rfl ?_); refine goesL_ (some 194) rfl rfl Try.func42 (by kernel_rfl) rfl #[.agg #[.slice Ao13 t828.length co13]] rfl (by (try simp only [List.map_toArray, List.map_cons, List.map_nil]); first | done | rfl | (simp only [List.length_drop, List.length_take]; rfl)) ?_; (with_reducible refine (impl_ClustersOf.calls k4 _ _ t828 t867 true _ ?side1 ?side2 A112.out).mono ?_); (case side1 => repeat (first | exact (Kd.R_reads' HO_833000.out).2.2 | (with_reducible refine Kd.C_alloc ?_ _) | (with_reducible refine Kd.C_drewN ?_ _) | (with_reducible refine Kd.C_drew ?_))); (case side2 => exact (Kd.R_reads' HO_833000.out).2.1); rintro e w123 ⟨v868, rfl, ho0, hb⟩; refine ⟨_, rfl, ?_⟩; have n0_ := aS_ (Kd.R_elder' (by (with_reducible repeat (first | apply rA_ | apply rN_ | apply rD_)); exact HO_6.out) (Kd.R_base ho0) hb); have n1_ := aS_ (Kd.R_elder' (by (with_reducible repeat (first | apply rA_ | apply rN_ | apply rD_)); exact HO_155.out) (Kd.R_base ho0) hb); have n2_ := aS_ (Kd.R_elder' (by (with_reducible repeat (first | apply rA_ | apply rN_ | apply rD_)); exact HO_833000.out) (Kd.R_base ho0) hb); have n3_ := aS_ (Kd.R_elder' (by (with_reducible repeat (first | apply rA_ | apply rN_ | apply rD_)); exact HO_838000.out) (Kd.R_base ho0) hb); have n4_ := aS_ (Kd.R_elder' (by (with_reducible repeat (first | apply rA_ | apply rN_ | apply rD_)); exact HO_854000.out) (Kd.R_base ho0) hb); have n5_ := aS_ (Kd.R_lower (Kd.R_new' (Kd.R_new' (Kd.R_new' (Kd.R_new' (Kd.R_new' ho0 (Kd.R_lt (by (with_reducible repeat (first | apply rA_ | apply rN_ | apply rD_)); exact HO_6.out))) (Kd.R_lt (by (with_reducible repeat (first | apply rA_ | apply rN_ | apply rD_)); exact HO_155.out))) (Kd.R_lt (by (with_reducible repeat (first | apply rA_ | apply rN_ | apply rD_)); exact HO_833000.out))) (Kd.R_lt (by (with_reducible repeat (first | apply rA_ | apply rN_ | apply rD_)); exact HO_838000.out))) (Kd.R_lt (by (with_reducible repeat (first | apply rA_ | apply rN_ | apply rD_)); exact HO_854000.out))) (below_size (by repeat (first | (with_reducible first | exact HB.out | apply bA_ | apply pN_ | apply bD_ | refine bS_ ?_ GE832.out | refine bS_ ?_ GE837.out | refine bS_ ?_ GE853.out) | exact HB.out)))); have n6_ := aS_ (blk_below (g := gb832) (o := .cells #[.slice Ao13 t828.length co13] 24 (0, 0)) (by (with_reducible repeat (first | refine kN_ ?_ _ | refine kD_ ?_ | refine kA_ ?_ _)); exact BK832.out) hb); have n7_ := aS_ (blk_below (g := gb837) (o := .cells #[.slice Ao17 t833.length co17] 24 (0, 0)) (by (with_reducible repeat (first | refine kN_ ?_ _ | refine kD_ ?_ | refine kA_ ?_ _)); exact BK837.out) hb); have n8_ := aS_ (blk_below (g := gb853) (o := .cells #[.slice Ao49 t849.length co49] 24 (0, 0)) (by (with_reducible repeat (first | refine kN_ ?_ _ | refine kD_ ?_ | refine kA_ ?_ _)); exact BK853.out) hb); have n9_ := aS_ (below_step (by repeat (first | (with_reducible first | exact HB.out | apply bA_ | apply pN_ | apply bD_ | refine bS_ ?_ GE832.out | refine bS_ ?_ GE837.out | refine bS_ ?_ GE853.out) | exact HB.out)) hb); clear HO_6; clear HO_155; clear HO_833000; clear HO_838000; clear HO_854000; clear BK832; clear BK837; clear BK853; clear HB; have HO_6 := n0_; have HO_155 := n1_; have HO_833000 := n2_; have HO_838000 := n3_; have HO_854000 := n4_; have HO869 := n5_; have BK832 := n6_; have BK837 := n7_; have BK853 := n8_; have HB := n9_; clear n0_ n1_ n2_ n3_ n4_ n5_ n6_ n7_ n8_ n9_; (try clear hb); (try clear hb2); (try clear hk); (try clear hi); (try clear ho0); have hcz124_0 : w123.cell? ⟨gb832, 0, none⟩ = some (.slice Ao13 t828.length co13) := (blk_cell BK832.out 0).trans rfl; have hfz124_0 := blk_frozen BK832.out 0) | ((with_reducible refine gate_callee (f := 43) rfl ?_); refine goesL_ (some 199) rfl rfl Try.func43 (by kernel_rfl) rfl #[.agg #[.slice Ao13 t828.length co13]] rfl (by (try simp only [List.map_toArray, List.map_cons, List.map_nil]); first | done | rfl | (simp only [List.length_drop, List.length_take]; rfl)) ?_; (with_reducible refine (impl_KeysOf.calls k4 _ _ t828 t871 true _ ?side1 ?side2 A113.out).mono ?_); (case side1 => repeat (first | exact (Kd.R_reads' HO_833000.out).2.2 | (with_reducible refine Kd.C_alloc ?_ _) | (with_reducible refine Kd.C_drewN ?_ _) | (with_reducible refine Kd.C_drew ?_))); (case side2 => exact (Kd.R_reads' HO_833000.out).2.1); rintro e w125 ⟨v872, rfl, ho0, hb⟩; refine ⟨_, rfl, ?_⟩; have n0_ := aS_ (Kd.R_elder' (by (with_reducible repeat (first | apply rA_ | apply rN_ | apply rD_)); exact HO_6.out) (Kd.R_base ho0) hb); have n1_ := aS_ (Kd.R_elder' (by (with_reducible repeat (first | apply rA_ | apply rN_ | apply rD_)); exact HO_155.out) (Kd.R_base ho0) hb); have n2_ := aS_ (Kd.R_elder' (by (with_reducible repeat (first | apply rA_ | apply rN_ | apply rD_)); exact HO_833000.out) (Kd.R_base ho0) hb); have n3_ := aS_ (Kd.R_elder' (by (with_reducible repeat (first | apply rA_ | apply rN_ | apply rD_)); exact HO_838000.out) (Kd.R_base ho0) hb); have n4_ := aS_ (Kd.R_elder' (by (with_reducible repeat (first | apply rA_ | apply rN_ | apply rD_)); exact HO_854000.out) (Kd.R_base ho0) hb); have n5_ := aS_ (Kd.R_elder' (by (with_reducible repeat (first | apply rA_ | apply rN_ | apply rD_)); exact HO869.out) (Kd.R_base ho0) hb); have n6_ := aS_ (Kd.R_lower (Kd.R_new' (Kd.R_new' (Kd.R_new' (Kd.R_new' (Kd.R_new' (Kd.R_new' ho0 (Kd.R_lt (by (with_reducible repeat (first | apply rA_ | apply rN_ | apply rD_)); exact HO_6.out))) (Kd.R_lt (by (with_reducible repeat (first | apply rA_ | apply rN_ | apply rD_)); exact HO_155.out))) (Kd.R_lt (by (with_reducible repeat (first | apply rA_ | apply rN_ | apply rD_)); exact HO_833000.out))) (Kd.R_lt (by (with_reducible repeat (first | apply rA_ | apply rN_ | apply rD_)); exact HO_838000.out))) (Kd.R_lt (by (with_reducible repeat (first | apply rA_ | apply rN_ | apply rD_)); exact HO_854000.out))) (Kd.R_lt (by (with_reducible repeat (first | apply rA_ | apply rN_ | apply rD_)); exact HO869.out))) (below_size (by repeat (first | (with_reducible first | exact HB.out | apply bA_ | apply pN_ | apply bD_ | refine bS_ ?_ GE832.out | refine bS_ ?_ GE837.out | refine bS_ ?_ GE853.out) | exact HB.out)))); have n7_ := aS_ (blk_below (g := gb832) (o := .cells #[.slice Ao13 t828.length co13] 24 (0, 0)) (by (with_reducible repeat (first | refine kN_ ?_ _ | refine kD_ ?_ | refine kA_ ?_ _)); exact BK832.out) hb); have n8_ := aS_ (blk_below (g := gb837) (o := .cells #[.slice Ao17 t833.length co17] 24 (0, 0)) (by (with_reducible repeat (first | refine kN_ ?_ _ | refine kD_ ?_ | refine kA_ ?_ _)); exact BK837.out) hb); have n9_ := aS_ (blk_below (g := gb853) (o := .cells #[.slice Ao49 t849.length co49] 24 (0, 0)) (by (with_reducible repeat (first | refine kN_ ?_ _ | refine kD_ ?_ | refine kA_ ?_ _)); exact BK853.out) hb); have n10_ := aS_ (below_step (by repeat (first | (with_reducible first | exact HB.out | apply bA_ | apply pN_ | apply bD_ | refine bS_ ?_ GE832.out | refine bS_ ?_ GE837.out | refine bS_ ?_ GE853.out) | exact HB.out)) hb); clear HO_6; clear HO_155; clear HO_833000; clear HO_838000; clear HO_854000; clear HO869; clear BK832; clear BK837; clear BK853; clear HB; have HO_6 := n0_; have HO_155 := n1_; have HO_833000 := n2_; have HO_838000 := n3_; have HO_854000 := n4_; have HO869 := n5_; have HO873 := n6_; have BK832 := n7_; have BK837 := n8_; have BK853 := n9_; have HB := n10_; clear n0_ n1_ n2_ n3_ n4_ n5_ n6_ n7_ n8_ n9_ n10_; (try clear hb); (try clear hb2); (try clear hk); (try clear hi); (try clear ho0); obtain ⟨Ao126, co126, eo126⟩ := Kd.R_slice HO869.out; subst eo126) | (go_at_call 44; (with_reducible refine (laws_jSum.calls k4 _ _ t867 t875 _ ?side1 ?side2 A117.out).mono ?_); (case side1 => repeat (first | exact (Kd.R_reads' HO869.out).2.2 | (with_reducible refine Kd.C_alloc ?_ _) | (with_reducible refine Kd.C_drewN ?_ _) | (with_reducible refine Kd.C_drew ?_))); (case side2 => exact (Kd.R_reads' HO869.out).2.1); rintro e w' ⟨rfl, ⟨nd, rfl⟩⟩; obtain ⟨Ao127, co127, eo127⟩ := Kd.R_slice HO873.out; subst eo127))
                    go_meet
                    case rel => exact ⟨_, H', ⟨by have := HJ7.out; have := HJ30.out; have := HJ44.out; have := HK4.out; first | omega | exact Nat.le_refl _⟩, ⟨by (with_reducible repeat (first | apply rA_ | apply rN_ | apply rD_)); exact Kd.R_mono HO_833000.out (fun _ hk => hk.1.1.2.2.1)⟩, ⟨by (with_reducible repeat (first | apply rA_ | apply rN_ | apply rD_)); exact Kd.R_mono HO_838000.out (fun _ hk => hk.1.1.2.2.1)⟩, ⟨by (with_reducible repeat (first | refine kN_ ?_ _ | refine kD_ ?_ | refine kA_ ?_ _)); exact BK832.out⟩, ⟨by (with_reducible repeat (first | refine kN_ ?_ _ | refine kD_ ?_ | refine kA_ ?_ _)); exact BK837.out⟩, ⟨by repeat (first | (with_reducible first | exact HB.out | apply bA_ | apply pN_ | apply bD_ | refine bS_ ?_ GE832.out | refine bS_ ?_ GE837.out | refine bS_ ?_ GE853.out) | exact HB.out)⟩⟩
                   focus
                    rw [if_neg c119] at H
                    have c119b0 : ((t871.length : Int) == (t825.length : Int)) = false := beq_eq_false_iff_ne.mpr c119
                    have c119b1 : ((t871.length : Int) != (t825.length : Int)) = true := bne_iff_ne.mpr c119
                    have c119b2 : (t871.length == t825.length) = false := by first | simpa using c119 | (simp at c119 ⊢; omega)
                    obtain rfl := Option.some.inj H
                    have hnb128 := NB832_837.out
                    have hnc128 := NB837_832.out
                    have hnb129 := NB832_853.out
                    have hnc129 := NB853_832.out
                    have hcz130_0 : wr.cell? ⟨gb832, 0, none⟩ = some (.slice Ao13 t828.length co13) := (blk_cell BK832.out 0).trans rfl
                    have hfz130_0 := blk_frozen BK832.out 0
                   rotate_left 1
                  rotate_left 1
                  focus
                   rw [if_neg c118] at H
                   have c118b0 : (t875 == (t825.length : Int)) = false := beq_eq_false_iff_ne.mpr c118
                   have c118b1 : (t875 != (t825.length : Int)) = true := bne_iff_ne.mpr c118
                   obtain rfl := Option.some.inj H
                   have hnb136 := NB832_837.out
                   have hnc136 := NB837_832.out
                   have hnb137 := NB832_853.out
                   have hnc137 := NB853_832.out
                   have hcz138_0 : wr.cell? ⟨gb832, 0, none⟩ = some (.slice Ao13 t828.length co13) := (blk_cell BK832.out 0).trans rfl
                   have hfz138_0 := blk_frozen BK832.out 0
                  rotate_left 1
                 rotate_left 2
                 focus
                  rw [if_neg c116] at H
                  have c116b0 : (x22_4 == t843) = false := beq_eq_false_iff_ne.mpr c116
                  have c116b1 : (x22_4 != t843) = true := bne_iff_ne.mpr c116
                  obtain rfl := Option.some.inj H
                  have hnb143 := NB832_837.out
                  have hnc143 := NB837_832.out
                  have hnb144 := NB832_853.out
                  have hnc144 := NB853_832.out
                  have hcz145_0 : wr.cell? ⟨gb832, 0, none⟩ = some (.slice Ao13 t828.length co13) := (blk_cell BK832.out 0).trans rfl
                  have hfz145_0 := blk_frozen BK832.out 0
                 rotate_left 1
                rotate_left 3
                focus
                 replace c115 := Bool.eq_false_iff.mpr c115
                 subst c115
                 rw [if_neg (show ¬ (false = true) by decide)] at H
                 obtain rfl := Option.some.inj H
                 have hnb149 := NB832_837.out
                 have hnc149 := NB837_832.out
                 have hnb150 := NB832_853.out
                 have hnc150 := NB853_832.out
                 have hcz151_0 : wr.cell? ⟨gb832, 0, none⟩ = some (.slice Ao13 t828.length co13) := (blk_cell BK832.out 0).trans rfl
                 have hfz151_0 := blk_frozen BK832.out 0
                rotate_left 1
               rotate_left 4
               focus
                replace c114 := Bool.eq_false_iff.mpr c114
                subst c114
                rw [if_neg (show ¬ (false = true) by decide)] at H
                obtain rfl := Option.some.inj H
                have hnb155 := NB832_837.out
                have hnc155 := NB837_832.out
                have hnb156 := NB832_853.out
                have hnc156 := NB853_832.out
                have hcz157_0 : wr.cell? ⟨gb832, 0, none⟩ = some (.slice Ao13 t828.length co13) := (blk_cell BK832.out 0).trans rfl
                have hfz157_0 := blk_frozen BK832.out 0
               rotate_left 1
               all_goals as_aux_lemma =>
                go_wp2_with (first | ((with_reducible refine gate_callee (f := 42) rfl ?_); refine goesL_ (some 194) rfl rfl Try.func42 (by kernel_rfl) rfl #[.agg #[.slice Ao13 t828.length co13]] rfl (by (try simp only [List.map_toArray, List.map_cons, List.map_nil]); first | done | rfl | (simp only [List.length_drop, List.length_take]; rfl)) ?_; (with_reducible refine (impl_ClustersOf.calls _ _ _ _ _ _ _ ?side1 ?side2 A112.out).mono ?_); (case side1 => repeat (first | exact (Kd.R_reads' HO_833000.out).2.2 | (with_reducible refine Kd.C_alloc ?_ _) | (with_reducible refine Kd.C_drewN ?_ _) | (with_reducible refine Kd.C_drew ?_))); (case side2 => exact (Kd.R_reads' HO_833000.out).2.1); rintro e w131 ⟨v868, rfl, ho0, hb⟩; refine ⟨_, rfl, ?_⟩; have n0_ := aS_ (Kd.R_elder' (by (with_reducible repeat (first | apply rA_ | apply rN_ | apply rD_)); exact HO_6.out) (Kd.R_base ho0) hb); have n1_ := aS_ (Kd.R_elder' (by (with_reducible repeat (first | apply rA_ | apply rN_ | apply rD_)); exact HO_155.out) (Kd.R_base ho0) hb); have n2_ := aS_ (Kd.R_elder' (by (with_reducible repeat (first | apply rA_ | apply rN_ | apply rD_)); exact HO_833000.out) (Kd.R_base ho0) hb); have n3_ := aS_ (Kd.R_elder' (by (with_reducible repeat (first | apply rA_ | apply rN_ | apply rD_)); exact HO_838000.out) (Kd.R_base ho0) hb); have n4_ := aS_ (Kd.R_elder' (by (with_reducible repeat (first | apply rA_ | apply rN_ | apply rD_)); exact HO_854000.out) (Kd.R_base ho0) hb); have n5_ := aS_ (Kd.R_lower (Kd.R_new' (Kd.R_new' (Kd.R_new' (Kd.R_new' (Kd.R_new' ho0 (Kd.R_lt (by (with_reducible repeat (first | apply rA_ | apply rN_ | apply rD_)); exact HO_6.out))) (Kd.R_lt (by (with_reducible repeat (first | apply rA_ | apply rN_ | apply rD_)); exact HO_155.out))) (Kd.R_lt (by (with_reducible repeat (first | apply rA_ | apply rN_ | apply rD_)); exact HO_833000.out))) (Kd.R_lt (by (with_reducible repeat (first | apply rA_ | apply rN_ | apply rD_)); exact HO_838000.out))) (Kd.R_lt (by (with_reducible repeat (first | apply rA_ | apply rN_ | apply rD_)); exact HO_854000.out))) (below_size (by repeat (first | (with_reducible first | exact HB.out | apply bA_ | apply pN_ | apply bD_ | refine bS_ ?_ GE832.out | refine bS_ ?_ GE837.out | refine bS_ ?_ GE853.out) | exact HB.out)))); have n6_ := aS_ (blk_below (g := gb832) (o := .cells #[.slice Ao13 t828.length co13] 24 (0, 0)) (by (with_reducible repeat (first | refine kN_ ?_ _ | refine kD_ ?_ | refine kA_ ?_ _)); exact BK832.out) hb); have n7_ := aS_ (blk_below (g := gb837) (o := .cells #[.slice Ao17 t833.length co17] 24 (0, 0)) (by (with_reducible repeat (first | refine kN_ ?_ _ | refine kD_ ?_ | refine kA_ ?_ _)); exact BK837.out) hb); have n8_ := aS_ (blk_below (g := gb853) (o := .cells #[.slice Ao49 t849.length co49] 24 (0, 0)) (by (with_reducible repeat (first | refine kN_ ?_ _ | refine kD_ ?_ | refine kA_ ?_ _)); exact BK853.out) hb); have n9_ := aS_ (below_step (by repeat (first | (with_reducible first | exact HB.out | apply bA_ | apply pN_ | apply bD_ | refine bS_ ?_ GE832.out | refine bS_ ?_ GE837.out | refine bS_ ?_ GE853.out) | exact HB.out)) hb); clear HO_6; clear HO_155; clear HO_833000; clear HO_838000; clear HO_854000; clear BK832; clear BK837; clear BK853; clear HB; have HO_6 := n0_; have HO_155 := n1_; have HO_833000 := n2_; have HO_838000 := n3_; have HO_854000 := n4_; have HO869 := n5_; have BK832 := n6_; have BK837 := n7_; have BK853 := n8_; have HB := n9_; clear n0_ n1_ n2_ n3_ n4_ n5_ n6_ n7_ n8_ n9_; (try clear hb); (try clear hb2); (try clear hk); (try clear hi); (try clear ho0); have hcz132_0 : w131.cell? ⟨gb832, 0, none⟩ = some (.slice Ao13 t828.length co13) := (blk_cell BK832.out 0).trans rfl; have hfz132_0 := blk_frozen BK832.out 0) | ((with_reducible refine gate_callee (f := 43) rfl ?_); refine goesL_ (some 199) rfl rfl Try.func43 (by kernel_rfl) rfl #[.agg #[.slice Ao13 t828.length co13]] rfl (by (try simp only [List.map_toArray, List.map_cons, List.map_nil]); first | done | rfl | (simp only [List.length_drop, List.length_take]; rfl)) ?_; (with_reducible refine (impl_KeysOf.calls _ _ _ _ _ _ _ ?side1 ?side2 A113.out).mono ?_); (case side1 => repeat (first | exact (Kd.R_reads' HO_833000.out).2.2 | (with_reducible refine Kd.C_alloc ?_ _) | (with_reducible refine Kd.C_drewN ?_ _) | (with_reducible refine Kd.C_drew ?_))); (case side2 => exact (Kd.R_reads' HO_833000.out).2.1); rintro e w133 ⟨v872, rfl, ho0, hb⟩; refine ⟨_, rfl, ?_⟩; have n0_ := aS_ (Kd.R_elder' (by (with_reducible repeat (first | apply rA_ | apply rN_ | apply rD_)); exact HO_6.out) (Kd.R_base ho0) hb); have n1_ := aS_ (Kd.R_elder' (by (with_reducible repeat (first | apply rA_ | apply rN_ | apply rD_)); exact HO_155.out) (Kd.R_base ho0) hb); have n2_ := aS_ (Kd.R_elder' (by (with_reducible repeat (first | apply rA_ | apply rN_ | apply rD_)); exact HO_833000.out) (Kd.R_base ho0) hb); have n3_ := aS_ (Kd.R_elder' (by (with_reducible repeat (first | apply rA_ | apply rN_ | apply rD_)); exact HO_838000.out) (Kd.R_base ho0) hb); have n4_ := aS_ (Kd.R_elder' (by (with_reducible repeat (first | apply rA_ | apply rN_ | apply rD_)); exact HO_854000.out) (Kd.R_base ho0) hb); have n5_ := aS_ (Kd.R_elder' (by (with_reducible repeat (first | apply rA_ | apply rN_ | apply rD_)); exact HO869.out) (Kd.R_base ho0) hb); have n6_ := aS_ (Kd.R_lower (Kd.R_new' (Kd.R_new' (Kd.R_new' (Kd.R_new' (Kd.R_new' (Kd.R_new' ho0 (Kd.R_lt (by (with_reducible repeat (first | apply rA_ | apply rN_ | apply rD_)); exact HO_6.out))) (Kd.R_lt (by (with_reducible repeat (first | apply rA_ | apply rN_ | apply rD_)); exact HO_155.out))) (Kd.R_lt (by (with_reducible repeat (first | apply rA_ | apply rN_ | apply rD_)); exact HO_833000.out))) (Kd.R_lt (by (with_reducible repeat (first | apply rA_ | apply rN_ | apply rD_)); exact HO_838000.out))) (Kd.R_lt (by (with_reducible repeat (first | apply rA_ | apply rN_ | apply rD_)); exact HO_854000.out))) (Kd.R_lt (by (with_reducible repeat (first | apply rA_ | apply rN_ | apply rD_)); exact HO869.out))) (below_size (by repeat (first | (with_reducible first | exact HB.out | apply bA_ | apply pN_ | apply bD_ | refine bS_ ?_ GE832.out | refine bS_ ?_ GE837.out | refine bS_ ?_ GE853.out) | exact HB.out)))); have n7_ := aS_ (blk_below (g := gb832) (o := .cells #[.slice Ao13 t828.length co13] 24 (0, 0)) (by (with_reducible repeat (first | refine kN_ ?_ _ | refine kD_ ?_ | refine kA_ ?_ _)); exact BK832.out) hb); have n8_ := aS_ (blk_below (g := gb837) (o := .cells #[.slice Ao17 t833.length co17] 24 (0, 0)) (by (with_reducible repeat (first | refine kN_ ?_ _ | refine kD_ ?_ | refine kA_ ?_ _)); exact BK837.out) hb); have n9_ := aS_ (blk_below (g := gb853) (o := .cells #[.slice Ao49 t849.length co49] 24 (0, 0)) (by (with_reducible repeat (first | refine kN_ ?_ _ | refine kD_ ?_ | refine kA_ ?_ _)); exact BK853.out) hb); have n10_ := aS_ (below_step (by repeat (first | (with_reducible first | exact HB.out | apply bA_ | apply pN_ | apply bD_ | refine bS_ ?_ GE832.out | refine bS_ ?_ GE837.out | refine bS_ ?_ GE853.out) | exact HB.out)) hb); clear HO_6; clear HO_155; clear HO_833000; clear HO_838000; clear HO_854000; clear HO869; clear BK832; clear BK837; clear BK853; clear HB; have HO_6 := n0_; have HO_155 := n1_; have HO_833000 := n2_; have HO_838000 := n3_; have HO_854000 := n4_; have HO869 := n5_; have HO873 := n6_; have BK832 := n7_; have BK837 := n8_; have BK853 := n9_; have HB := n10_; clear n0_ n1_ n2_ n3_ n4_ n5_ n6_ n7_ n8_ n9_ n10_; (try clear hb); (try clear hb2); (try clear hk); (try clear hi); (try clear ho0); obtain ⟨Ao134, co134, eo134⟩ := Kd.R_slice HO869.out; subst eo134) | (go_at_call 44; (with_reducible refine (laws_jSum.calls _ _ _ _ _ _ ?side1 ?side2 A117.out).mono ?_); (case side1 => repeat (first | exact (Kd.R_reads' HO869.out).2.2 | (with_reducible refine Kd.C_alloc ?_ _) | (with_reducible refine Kd.C_drewN ?_ _) | (with_reducible refine Kd.C_drew ?_))); (case side2 => exact (Kd.R_reads' HO869.out).2.1); rintro e w' ⟨rfl, ⟨nd, rfl⟩⟩; obtain ⟨Ao135, co135, eo135⟩ := Kd.R_slice HO873.out; subst eo135))
                go_ret
                exact ⟨by first | rfl | (simp [errW_none, errW_some] <;> rfl) | (simp [*, errW_none, errW_some] <;> rfl), by repeat (first | (with_reducible first | exact HB.out | apply bA_ | apply pN_ | apply bD_ | refine bS_ ?_ GE832.out | refine bS_ ?_ GE837.out | refine bS_ ?_ GE853.out) | exact HB.out)⟩
      ·replace c28 := Bool.eq_false_iff.mpr c28
       subst c28
       rw [if_neg (show ¬ (false = true) by decide)] at H
       have H' := aS_ H
       clear H
       go_wp2
       go_meet
       case rel => exact ⟨_, H', ⟨by have := HJ7.out; first | omega | exact Nat.le_refl _⟩, ⟨by (with_reducible repeat (first | apply rA_ | apply rN_ | apply rD_)); exact Kd.R_mono HO_833000.out (fun _ hk => hk.2)⟩, ⟨by (with_reducible repeat (first | apply rA_ | apply rN_ | apply rD_)); exact Kd.R_mono HO_838000.out (fun _ hk => hk.2)⟩, ⟨by (with_reducible repeat (first | refine kN_ ?_ _ | refine kD_ ?_ | refine kA_ ?_ _)); exact BK832.out⟩, ⟨by (with_reducible repeat (first | refine kN_ ?_ _ | refine kD_ ?_ | refine kA_ ?_ _)); exact BK837.out⟩, ⟨by repeat (first | (with_reducible first | exact HB.out | apply bA_ | apply pN_ | apply bD_ | refine bS_ ?_ GE832.out | refine bS_ ?_ GE837.out) | exact HB.out)⟩⟩
     case rest =>
      clear HC27
      try clear c1
      try clear c2
      try clear p2
      try clear c3
      try clear c4
      try clear c5
      try clear c6
      try clear p6
      try clear c7
      try clear c8
      try clear p8
      try clear q8
      try clear hx8
      try clear c9
      try clear c10
      try clear c11
      try clear c12
      try clear c13
      try clear c14
      try clear c15
      try clear c18
      try clear c20
      try clear c20b0
      try clear c20b1
      try clear c20b2
      try clear c22
      try clear c26
      try clear c28
      try clear c29
      try clear c32
      try clear c33
      try clear c34
      try clear c35
      try clear c37
      try clear c37b0
      try clear c37b1
      try clear c39
      try clear c39b0
      try clear c39b1
      try clear c40
      try clear c41
      try clear c42
      try clear c43
      try clear c50
      try clear c51
      try clear c56
      try clear c57
      try clear c58
      try clear c59
      try clear c60
      try clear c62
      try clear c63
      try clear c63b0
      try clear c63b1
      try clear p64
      try clear c65
      try clear c68
      try clear c69
      try clear c74
      try clear c75
      try clear c82
      try clear c83
      try clear c83b0
      try clear c84
      try clear c84b0
      try clear c85
      try clear c85b0
      try clear p86
      try clear q86
      try clear hx86
      try clear c87
      try clear c88
      try clear c88b0
      try clear c89
      try clear c89b0
      try clear c90
      try clear c90b0
      try clear c90b1
      try clear c91
      try clear c91b0
      try clear c91b1
      try clear c92
      try clear c92b0
      try clear c92b1
      try clear c93
      try clear c94
      try clear c98
      try clear c99
      try clear c103
      try clear c104
      try clear c108
      try clear c109
      try clear c114
      try clear c115
      try clear c116
      try clear c116b0
      try clear c116b1
      try clear c118
      try clear c118b0
      try clear c118b1
      try clear c119
      try clear c119b0
      try clear c119b1
      try clear c119b2
      try clear c120
      try clear c121
      try clear c128
      try clear c129
      try clear c136
      try clear c137
      try clear c143
      try clear c144
      try clear c149
      try clear c150
      try clear c155
      try clear c156
      try clear hcz100_0
      try clear hcz102_0
      try clear hcz105_0
      try clear hcz107_0
      try clear hcz110_0
      try clear hcz122_0
      try clear hcz124_0
      try clear hcz130_0
      try clear hcz132_0
      try clear hcz138_0
      try clear hcz140_0
      try clear hcz145_0
      try clear hcz147_0
      try clear hcz14_0
      try clear hcz151_0
      try clear hcz153_0
      try clear hcz157_0
      try clear hcz159_0
      try clear hcz19_0
      try clear hcz23_0
      try clear hcz24_0
      try clear hcz33_0
      try clear hcz35_0
      try clear hcz52_0
      try clear hcz54_0
      try clear hcz70_0
      try clear hcz76_0
      try clear hcz95_0
      try clear hcz97_0
      try clear hfz100_0
      try clear hfz102_0
      try clear hfz105_0
      try clear hfz107_0
      try clear hfz110_0
      try clear hfz122_0
      try clear hfz124_0
      try clear hfz130_0
      try clear hfz132_0
      try clear hfz138_0
      try clear hfz140_0
      try clear hfz145_0
      try clear hfz147_0
      try clear hfz14_0
      try clear hfz151_0
      try clear hfz153_0
      try clear hfz157_0
      try clear hfz159_0
      try clear hfz19_0
      try clear hfz23_0
      try clear hfz24_0
      try clear hfz33_0
      try clear hfz35_0
      try clear hfz52_0
      try clear hfz54_0
      try clear hfz70_0
      try clear hfz76_0
      try clear hfz95_0
      try clear hfz97_0
      try clear hx862_0
      try clear hx866_0
      try clear p2
      try clear p6
      try clear p64
      try clear p862
      try clear p866
      try clear q862
      try clear q866
      obtain ⟨kq, HA, HJ26, HO_833000, HO_838000, BK832, BK837, HB⟩ := hcut
      cases kq with
      | zero => exact absurd HA.out (by simp [laws_FnTablesFill.j4])
      | succ kj26 =>
       have H := HA.out
       clear HA
       simp only [laws_FnTablesFill.j4] at H
       replace H := Option.bind_eq_some_iff.mp H
       obtain ⟨t876, A1610, H⟩ := H
       have A161 := aS_ A1610
       clear A1610
       replace H := Option.bind_eq_some_iff.mp H
       obtain ⟨t880, A1620, H⟩ := H
       have A162 := aS_ A1620
       clear A1620
       replace H := Option.bind_eq_some_iff.mp H
       obtain ⟨⟨t881, t882⟩, A1630, H⟩ := H
       have A163 := aS_ A1630
       clear A1630
       replace H := Option.bind_eq_some_iff.mp H
       obtain ⟨⟨t883, t884⟩, A1640, H⟩ := H
       have A164 := aS_ A1640
       clear A1640
       replace H := Option.bind_eq_some_iff.mp H
       obtain ⟨⟨t885, t888⟩, A1650, H⟩ := H
       have A165 := aS_ A1650
       clear A1650
       replace H := Option.bind_eq_some_iff.mp H
       obtain ⟨⟨t889, t892⟩, A1660, H⟩ := H
       have A166 := aS_ A1660
       clear A1660
       replace H := Option.bind_eq_some_iff.mp H
       obtain ⟨⟨t893, t894⟩, A1670, H⟩ := H
       have A167 := aS_ A1670
       clear A1670
       replace H := Option.bind_eq_some_iff.mp H
       obtain ⟨⟨t895, t896⟩, A1680, H⟩ := H
       have A168 := aS_ A1680
       clear A1680
       replace H := Option.bind_eq_some_iff.mp H
       obtain ⟨t897, A1690, H⟩ := H
       have A169 := aS_ A1690
       clear A1690
       by_cases c170 : (t880 == t897) = true
       focus
        rw [if_pos c170] at H
        have c170b0 : (t880 == t897) = true := c170
        (try (have c170b1 : decide (t880 = t897) = true := by simpa using c170))
        (try (have c170b2 : (t880 == t897) = true := by simpa using c170))
        clear c170
        by_cases c171 : (t882 == t884) = true
        focus
         rw [if_pos c171] at H
         have c171b0 : (t882 == t884) = true := c171
         (try (have c171b1 : decide (t882 = t884) = true := by simpa using c171))
         (try (have c171b2 : (t882 == t884) = true := by simpa using c171))
         clear c171
         by_cases c172 : t881 = t883
         focus
          rw [if_pos c172] at H
          have c172b0 : (t881 == t883) = true := beq_iff_eq.mpr c172
          have c172b1 : (t881 != t883) = false := bne_eq_false_iff_eq.mpr c172
          clear c172
          by_cases c173 : (t882 == t880) = true
          focus
           rw [if_pos c173] at H
           have c173b0 : (t882 == t880) = true := c173
           (try (have c173b1 : decide (t882 = t880) = true := by simpa using c173))
           (try (have c173b2 : (t882 == t880) = true := by simpa using c173))
           clear c173
           by_cases c174 : (t888 == t892) = true
           focus
            rw [if_pos c174] at H
            have c174b0 : (t888 == t892) = true := c174
            (try (have c174b1 : decide (t888 = t892) = true := by simpa using c174))
            (try (have c174b2 : (t888 == t892) = true := by simpa using c174))
            clear c174
            replace H := Option.bind_eq_some_iff.mp H
            obtain ⟨t898, A1750, H⟩ := H
            have A175 := aS_ A1750
            clear A1750
            by_cases c176 : t898 = true
            focus
             subst c176
             rw [if_pos rfl] at H
             by_cases c177 : (t894 == t896) = true
             focus
              rw [if_pos c177] at H
              have c177b0 : (t894 == t896) = true := c177
              (try (have c177b1 : decide (t894 = t896) = true := by simpa using c177))
              (try (have c177b2 : (t894 == t896) = true := by simpa using c177))
              clear c177
              obtain rfl := Option.some.inj H
             rotate_left 1
             focus
              rw [if_neg c177] at H
              have c177b0 : (t894 == t896) = false := by simpa using c177
              (try (have c177b1 : decide (t894 = t896) = false := by simpa using c177))
              (try (have c177b2 : (t894 == t896) = false := by simpa using c177))
              (try (have c177b3 : ¬ (t894 = t896) := by simpa using c177))
              clear c177
              obtain rfl := Option.some.inj H
             rotate_left 1
            rotate_left 2
            focus
             replace c176 := Bool.eq_false_iff.mpr c176
             subst c176
             rw [if_neg (show ¬ (false = true) by decide)] at H
             obtain rfl := Option.some.inj H
            rotate_left 1
           rotate_left 3
           focus
            rw [if_neg c174] at H
            have c174b0 : (t888 == t892) = false := by simpa using c174
            (try (have c174b1 : decide (t888 = t892) = false := by simpa using c174))
            (try (have c174b2 : (t888 == t892) = false := by simpa using c174))
            (try (have c174b3 : ¬ (t888 = t892) := by simpa using c174))
            clear c174
            obtain rfl := Option.some.inj H
           rotate_left 1
          rotate_left 4
          focus
           rw [if_neg c173] at H
           have c173b0 : (t882 == t880) = false := by simpa using c173
           (try (have c173b1 : decide (t882 = t880) = false := by simpa using c173))
           (try (have c173b2 : (t882 == t880) = false := by simpa using c173))
           (try (have c173b3 : ¬ (t882 = t880) := by simpa using c173))
           clear c173
           obtain rfl := Option.some.inj H
          rotate_left 1
         rotate_left 5
         focus
          rw [if_neg c172] at H
          have c172b0 : (t881 == t883) = false := beq_eq_false_iff_ne.mpr c172
          have c172b1 : (t881 != t883) = true := bne_iff_ne.mpr c172
          obtain rfl := Option.some.inj H
         rotate_left 1
        rotate_left 6
        focus
         rw [if_neg c171] at H
         have c171b0 : (t882 == t884) = false := by simpa using c171
         (try (have c171b1 : decide (t882 = t884) = false := by simpa using c171))
         (try (have c171b2 : (t882 == t884) = false := by simpa using c171))
         (try (have c171b3 : ¬ (t882 = t884) := by simpa using c171))
         clear c171
         obtain rfl := Option.some.inj H
        rotate_left 1
       rotate_left 7
       focus
        rw [if_neg c170] at H
        have c170b0 : (t880 == t897) = false := by simpa using c170
        (try (have c170b1 : decide (t880 = t897) = false := by simpa using c170))
        (try (have c170b2 : (t880 == t897) = false := by simpa using c170))
        (try (have c170b3 : ¬ (t880 = t897) := by simpa using c170))
        clear c170
        obtain rfl := Option.some.inj H
       rotate_left 1
       all_goals as_aux_lemma =>
        go_wp2_with (first | ((with_reducible refine gate_callee (f := 45) rfl ?_); refine goesL_ (some 228) rfl rfl Try.func45 (by kernel_rfl) rfl #[.slice A1 l1.length c1] rfl (by (try simp only [List.map_toArray, List.map_cons, List.map_nil]); first | done | rfl | (simp only [List.length_drop, List.length_take]; rfl)) ?_; (with_reducible refine (spec_DrawIsTable.calls _ _ _ _ _ _ ?side1 ?side2 A161.out).mono ?_); (case side1 => repeat (first | exact (Kd.C_below HR1.out HB.out) | (with_reducible refine Kd.C_alloc ?_ _) | (with_reducible refine Kd.C_drewN ?_ _) | (with_reducible refine Kd.C_drew ?_))); (case side2 => exact HC1.out); rintro e w178 ⟨v877, rfl, ho0, hb⟩; refine ⟨_, rfl, ?_⟩; have n0_ := aS_ (Kd.R_elder' (by (with_reducible repeat (first | apply rA_ | apply rN_ | apply rD_)); exact HO_833000.out) (Kd.R_base ho0) hb); have n1_ := aS_ (Kd.R_elder' (by (with_reducible repeat (first | apply rA_ | apply rN_ | apply rD_)); exact HO_838000.out) (Kd.R_base ho0) hb); have n2_ := aS_ (Kd.R_lower (Kd.R_new' (Kd.R_new' ho0 (Kd.R_lt (by (with_reducible repeat (first | apply rA_ | apply rN_ | apply rD_)); exact HO_833000.out))) (Kd.R_lt (by (with_reducible repeat (first | apply rA_ | apply rN_ | apply rD_)); exact HO_838000.out))) (below_size (by repeat (first | (with_reducible first | exact HB.out | apply bA_ | apply pN_ | apply bD_ | refine bS_ ?_ GE832.out | refine bS_ ?_ GE837.out) | exact HB.out)))); have n3_ := aS_ (blk_below (g := gb832) (o := .cells #[.slice Ao13 t828.length co13] 24 (0, 0)) (by (with_reducible repeat (first | refine kN_ ?_ _ | refine kD_ ?_ | refine kA_ ?_ _)); exact BK832.out) hb); have n4_ := aS_ (blk_below (g := gb837) (o := .cells #[.slice Ao17 t833.length co17] 24 (0, 0)) (by (with_reducible repeat (first | refine kN_ ?_ _ | refine kD_ ?_ | refine kA_ ?_ _)); exact BK837.out) hb); have n5_ := aS_ (below_step (by repeat (first | (with_reducible first | exact HB.out | apply bA_ | apply pN_ | apply bD_ | refine bS_ ?_ GE832.out | refine bS_ ?_ GE837.out) | exact HB.out)) hb); clear HO_833000; clear HO_838000; clear BK832; clear BK837; clear HB; have HO_833000 := n0_; have HO_838000 := n1_; have HO878 := n2_; have BK832 := n3_; have BK837 := n4_; have HB := n5_; clear n0_ n1_ n2_ n3_ n4_ n5_; (try clear hb); (try clear hb2); (try clear hk); (try clear hi); (try clear ho0)) | ((with_reducible refine gate_dst (N := 32) rfl ?_); (try (refine gate_guard (by rfl) ?_; dsimp only)); refine box_event ?hg (N := 32) ?hd (cs := #[.slice none 0 0]) (t := 24) ?hr ?_; (case hd => rfl); (case hg => rfl); (case hr => first | (go_simp; done) | (go_simp; rfl)); intro gb879 hg w179 hbox hb; have n0_ := aS_ (Kd.R_below (by (with_reducible repeat (first | apply rA_ | apply rN_ | apply rD_)); exact HO_833000.out) hb); have n1_ := aS_ (Kd.R_below (by (with_reducible repeat (first | apply rA_ | apply rN_ | apply rD_)); exact HO_838000.out) hb); have n2_ := aS_ (Kd.R_below (by (with_reducible repeat (first | apply rA_ | apply rN_ | apply rD_)); exact HO878.out) hb); have n3_ := aS_ (blk_below (g := gb832) (o := .cells #[.slice Ao13 t828.length co13] 24 (0, 0)) (by (with_reducible repeat (first | refine kN_ ?_ _ | refine kD_ ?_ | refine kA_ ?_ _)); exact BK832.out) hb); have n4_ := aS_ (blk_below (g := gb837) (o := .cells #[.slice Ao17 t833.length co17] 24 (0, 0)) (by (with_reducible repeat (first | refine kN_ ?_ _ | refine kD_ ?_ | refine kA_ ?_ _)); exact BK837.out) hb); have n5_ := aS_ (below_step (by repeat (first | (with_reducible first | exact HB.out | apply bA_ | apply pN_ | apply bD_ | refine bS_ ?_ GE832.out | refine bS_ ?_ GE837.out) | exact HB.out)) hb); have n6_ := aS_ (hbox); have n7_ := aS_ ((by rw [hg]; exact (below_size (by repeat (first | (with_reducible first | exact HB.out | apply bA_ | apply pN_ | apply bD_ | refine bS_ ?_ GE832.out | refine bS_ ?_ GE837.out) | exact HB.out))) : w.heap.size ≤ gb879)); have n8_ := aS_ ((by rw [hg]; exact (below_size (by repeat (first | (with_reducible first | exact HB.out | apply bA_ | apply pN_ | apply bD_ | refine bS_ ?_ GE832.out | refine bS_ ?_ GE837.out) | exact HB.out))) : w.heap.size ≤ gb879)); have n9_ := aS_ ((by rw [hg]; exact Nat.ne_of_lt (blk_lt (g := gb832) (o := .cells #[.slice Ao13 t828.length co13] 24 (0, 0)) (by (with_reducible repeat (first | refine kN_ ?_ _ | refine kD_ ?_ | refine kA_ ?_ _)); exact BK832.out)) : gb832 ≠ gb879)); have n10_ := aS_ ((by rw [hg]; exact Nat.ne_of_gt (blk_lt (g := gb832) (o := .cells #[.slice Ao13 t828.length co13] 24 (0, 0)) (by (with_reducible repeat (first | refine kN_ ?_ _ | refine kD_ ?_ | refine kA_ ?_ _)); exact BK832.out)) : gb879 ≠ gb832)); have n11_ := aS_ ((by rw [hg]; exact Nat.ne_of_lt (blk_lt (g := gb837) (o := .cells #[.slice Ao17 t833.length co17] 24 (0, 0)) (by (with_reducible repeat (first | refine kN_ ?_ _ | refine kD_ ?_ | refine kA_ ?_ _)); exact BK837.out)) : gb837 ≠ gb879)); have n12_ := aS_ ((by rw [hg]; exact Nat.ne_of_gt (blk_lt (g := gb837) (o := .cells #[.slice Ao17 t833.length co17] 24 (0, 0)) (by (with_reducible repeat (first | refine kN_ ?_ _ | refine kD_ ?_ | refine kA_ ?_ _)); exact BK837.out)) : gb879 ≠ gb837)); clear HO_833000; clear HO_838000; clear HO878; clear BK832; clear BK837; clear HB; have HO_833000 := n0_; have HO_838000 := n1_; have HO878 := n2_; have BK832 := n3_; have BK837 := n4_; have HB := n5_; have BK879 := n6_; have GW879 := n7_; have GE879 := n8_; have NB832_879 := n9_; have NB879_832 := n10_; have NB837_879 := n11_; have NB879_837 := n12_; clear n0_ n1_ n2_ n3_ n4_ n5_ n6_ n7_ n8_ n9_ n10_ n11_ n12_; clear hb hbox hg; obtain ⟨Ao180, co180, eo180⟩ := Kd.R_slice HO878.out; subst eo180; have hnb181 := NB879_832.out; have hnc181 := NB832_879.out; have hnb182 := NB879_837.out; have hnc182 := NB837_879.out; have hcz183_0 : w179.cell? ⟨gb879, 0, none⟩ = some (.slice none 0 0) := (blk_cell BK879.out 0).trans rfl; have hfz183_0 := blk_frozen BK879.out 0) | ((with_reducible refine gate_callee (f := 38) rfl ?_); refine goesL_ (some 230) rfl rfl Try.func38 (by kernel_rfl) rfl #[.agg #[.slice Ao180 t876.length co180]] rfl (by (try simp only [List.map_toArray, List.map_cons, List.map_nil]); first | done | rfl | (simp only [List.length_drop, List.length_take]; rfl)) ?_; (with_reducible refine (impl_IsTable.calls _ _ _ _ _ _ ?side1 ?side2 A162.out).mono ?_); (case side1 => refine (Kd.R_reads' (e := 3) (base := w.heap.size) (ok := fun k_ => ((True ∧ some k_ ≠ (.slice Ao13 t828.length co13 : Value).ownBlock) ∧ some k_ ≠ (.slice Ao17 t833.length co17 : Value).ownBlock)) (n := t876.length) (c := co180) ?_).2.2; exact (by (with_reducible repeat (first | apply rA_ | apply rN_ | apply rD_)); exact (Kd.R_mono (Kd.R_far (p := ⟨gb879, 0, none⟩) (Kd.R_types HO878.out BK879.out (by decide)) (fun _ hk => hk.2) (.slice Ao180 t876.length co180)) (fun _ h_ => h_.1)))); (case side2 => exact (Kd.R_reads' HO878.out).2.1); rintro e w184 ⟨rfl, hb⟩; refine ⟨_, rfl, ?_⟩; have n0_ := aS_ (Kd.R_below (by (with_reducible repeat (first | apply rA_ | apply rN_ | apply rD_)); exact (Kd.R_mono (Kd.R_far (p := ⟨gb879, 0, none⟩) (Kd.R_types HO_833000.out BK879.out (by decide)) (fun _ hk => hk.2) (.slice Ao180 t876.length co180)) (fun _ h_ => h_.1))) hb); have n1_ := aS_ (Kd.R_below (by (with_reducible repeat (first | apply rA_ | apply rN_ | apply rD_)); exact (Kd.R_mono (Kd.R_far (p := ⟨gb879, 0, none⟩) (Kd.R_types HO_838000.out BK879.out (by decide)) (fun _ hk => hk.2) (.slice Ao180 t876.length co180)) (fun _ h_ => h_.1))) hb); have n2_ := aS_ (Kd.R_below (by (with_reducible repeat (first | apply rA_ | apply rN_ | apply rD_)); exact (Kd.R_mono (Kd.R_far (p := ⟨gb879, 0, none⟩) (Kd.R_types HO878.out BK879.out (by decide)) (fun _ hk => hk.2) (.slice Ao180 t876.length co180)) (fun _ h_ => h_.1))) hb); have n3_ := aS_ (blk_below (g := gb832) (o := .cells #[.slice Ao13 t828.length co13] 24 (0, 0)) (by (with_reducible repeat (first | refine kN_ ?_ _ | refine kD_ ?_ | refine kA_ ?_ _)); refine blk_far ?_ NB832_879.out _; (with_reducible repeat (first | refine kN_ ?_ _ | refine kD_ ?_ | refine kA_ ?_ _)); exact BK832.out) hb); have n4_ := aS_ (blk_below (g := gb837) (o := .cells #[.slice Ao17 t833.length co17] 24 (0, 0)) (by (with_reducible repeat (first | refine kN_ ?_ _ | refine kD_ ?_ | refine kA_ ?_ _)); refine blk_far ?_ NB837_879.out _; (with_reducible repeat (first | refine kN_ ?_ _ | refine kD_ ?_ | refine kA_ ?_ _)); exact BK837.out) hb); have n5_ := aS_ (blk_below (g := gb879) (o := .cells #[.slice Ao180 t876.length co180] 24 (0, 0)) (by (with_reducible repeat (first | refine kN_ ?_ _ | refine kD_ ?_ | refine kA_ ?_ _)); refine blk_put (cs := #[.slice none 0 0]) ?_ 0 _ rfl; (with_reducible repeat (first | refine kN_ ?_ _ | refine kD_ ?_ | refine kA_ ?_ _)); exact BK879.out) hb); have n6_ := aS_ (below_step (by repeat (first | (with_reducible first | exact HB.out | apply bA_ | apply pN_ | apply bD_ | refine bS_ ?_ GE832.out | refine bS_ ?_ GE837.out | refine bS_ ?_ GE879.out) | exact HB.out)) hb); clear HO_833000; clear HO_838000; clear HO878; clear BK832; clear BK837; clear BK879; clear HB; have HO_833000 := n0_; have HO_838000 := n1_; have HO878 := n2_; have BK832 := n3_; have BK837 := n4_; have BK879 := n5_; have HB := n6_; clear n0_ n1_ n2_ n3_ n4_ n5_ n6_; (try clear hb); (try clear hb2); (try clear hk); (try clear hi); have hcz185_0 : w184.cell? ⟨gb879, 0, none⟩ = some (.slice Ao180 t876.length co180) := (blk_cell BK879.out 0).trans rfl; have hfz185_0 := blk_frozen BK879.out 0) | ((with_reducible refine gate_callee (f := 35) rfl ?_); refine goesL_ (some 233) rfl rfl Try.func35 (by kernel_rfl) rfl #[.agg #[.slice Ao180 t876.length co180]] rfl (by (try simp only [List.map_toArray, List.map_cons, List.map_nil]); first | done | rfl | (simp only [List.length_drop, List.length_take]; rfl)) ?_; (with_reducible refine (impl_CostOf.calls _ _ _ _ _ _ _ ?side1 ?side2 A163.out).mono ?_); (case side1 => repeat (first | exact (Kd.R_reads' HO878.out).2.2 | (with_reducible refine Kd.C_alloc ?_ _) | (with_reducible refine Kd.C_drewN ?_ _) | (with_reducible refine Kd.C_drew ?_))); (case side2 => exact (Kd.R_reads' HO878.out).2.1); rintro e w186 ⟨rfl, hb⟩; refine ⟨_, rfl, ?_⟩; have n0_ := aS_ (Kd.R_below (by (with_reducible repeat (first | apply rA_ | apply rN_ | apply rD_)); exact HO_833000.out) hb); have n1_ := aS_ (Kd.R_below (by (with_reducible repeat (first | apply rA_ | apply rN_ | apply rD_)); exact HO_838000.out) hb); have n2_ := aS_ (Kd.R_below (by (with_reducible repeat (first | apply rA_ | apply rN_ | apply rD_)); exact HO878.out) hb); have n3_ := aS_ (blk_below (g := gb832) (o := .cells #[.slice Ao13 t828.length co13] 24 (0, 0)) (by (with_reducible repeat (first | refine kN_ ?_ _ | refine kD_ ?_ | refine kA_ ?_ _)); exact BK832.out) hb); have n4_ := aS_ (blk_below (g := gb837) (o := .cells #[.slice Ao17 t833.length co17] 24 (0, 0)) (by (with_reducible repeat (first | refine kN_ ?_ _ | refine kD_ ?_ | refine kA_ ?_ _)); exact BK837.out) hb); have n5_ := aS_ (blk_below (g := gb879) (o := .cells #[.slice Ao180 t876.length co180] 24 (0, 0)) (by (with_reducible repeat (first | refine kN_ ?_ _ | refine kD_ ?_ | refine kA_ ?_ _)); exact BK879.out) hb); have n6_ := aS_ (below_step (by repeat (first | (with_reducible first | exact HB.out | apply bA_ | apply pN_ | apply bD_ | refine bS_ ?_ GE832.out | refine bS_ ?_ GE837.out | refine bS_ ?_ GE879.out) | exact HB.out)) hb); clear HO_833000; clear HO_838000; clear HO878; clear BK832; clear BK837; clear BK879; clear HB; have HO_833000 := n0_; have HO_838000 := n1_; have HO878 := n2_; have BK832 := n3_; have BK837 := n4_; have BK879 := n5_; have HB := n6_; clear n0_ n1_ n2_ n3_ n4_ n5_ n6_; (try clear hb); (try clear hb2); (try clear hk); (try clear hi); have hcz187_0 : w186.cell? ⟨gb879, 0, none⟩ = some (.slice Ao180 t876.length co180) := (blk_cell BK879.out 0).trans rfl; have hfz187_0 := blk_frozen BK879.out 0) | ((with_reducible refine gate_callee (f := 46) rfl ?_); refine goesL_ (some 238) rfl rfl Try.func46 (by kernel_rfl) rfl #[.agg #[.slice Ao180 t876.length co180]] rfl (by (try simp only [List.map_toArray, List.map_cons, List.map_nil]); first | done | rfl | (simp only [List.length_drop, List.length_take]; rfl)) ?_; (with_reducible refine (spec_CostOf.calls _ _ _ _ _ _ _ ?side1 ?side2 A164.out).mono ?_); (case side1 => repeat (first | exact (Kd.R_reads' HO878.out).2.2 | (with_reducible refine Kd.C_alloc ?_ _) | (with_reducible refine Kd.C_drewN ?_ _) | (with_reducible refine Kd.C_drew ?_))); (case side2 => exact (Kd.R_reads' HO878.out).2.1); rintro e w188 ⟨rfl, hb⟩; refine ⟨_, rfl, ?_⟩; have n0_ := aS_ (Kd.R_below (by (with_reducible repeat (first | apply rA_ | apply rN_ | apply rD_)); exact HO_833000.out) hb); have n1_ := aS_ (Kd.R_below (by (with_reducible repeat (first | apply rA_ | apply rN_ | apply rD_)); exact HO_838000.out) hb); have n2_ := aS_ (Kd.R_below (by (with_reducible repeat (first | apply rA_ | apply rN_ | apply rD_)); exact HO878.out) hb); have n3_ := aS_ (blk_below (g := gb832) (o := .cells #[.slice Ao13 t828.length co13] 24 (0, 0)) (by (with_reducible repeat (first | refine kN_ ?_ _ | refine kD_ ?_ | refine kA_ ?_ _)); exact BK832.out) hb); have n4_ := aS_ (blk_below (g := gb837) (o := .cells #[.slice Ao17 t833.length co17] 24 (0, 0)) (by (with_reducible repeat (first | refine kN_ ?_ _ | refine kD_ ?_ | refine kA_ ?_ _)); exact BK837.out) hb); have n5_ := aS_ (blk_below (g := gb879) (o := .cells #[.slice Ao180 t876.length co180] 24 (0, 0)) (by (with_reducible repeat (first | refine kN_ ?_ _ | refine kD_ ?_ | refine kA_ ?_ _)); exact BK879.out) hb); have n6_ := aS_ (below_step (by repeat (first | (with_reducible first | exact HB.out | apply bA_ | apply pN_ | apply bD_ | refine bS_ ?_ GE832.out | refine bS_ ?_ GE837.out | refine bS_ ?_ GE879.out) | exact HB.out)) hb); clear HO_833000; clear HO_838000; clear HO878; clear BK832; clear BK837; clear BK879; clear HB; have HO_833000 := n0_; have HO_838000 := n1_; have HO878 := n2_; have BK832 := n3_; have BK837 := n4_; have BK879 := n5_; have HB := n6_; clear n0_ n1_ n2_ n3_ n4_ n5_ n6_; (try clear hb); (try clear hb2); (try clear hk); (try clear hi); have hcz189_0 : w188.cell? ⟨gb879, 0, none⟩ = some (.slice Ao180 t876.length co180) := (blk_cell BK879.out 0).trans rfl; have hfz189_0 := blk_frozen BK879.out 0) | ((with_reducible refine gate_callee (f := 42) rfl ?_); refine goesL_ (some 243) rfl rfl Try.func42 (by kernel_rfl) rfl #[.agg #[.slice Ao180 t876.length co180]] rfl (by (try simp only [List.map_toArray, List.map_cons, List.map_nil]); first | done | rfl | (simp only [List.length_drop, List.length_take]; rfl)) ?_; (with_reducible refine (impl_ClustersOf.calls _ _ _ _ _ _ _ ?side1 ?side2 A165.out).mono ?_); (case side1 => repeat (first | exact (Kd.R_reads' HO878.out).2.2 | (with_reducible refine Kd.C_alloc ?_ _) | (with_reducible refine Kd.C_drewN ?_ _) | (with_reducible refine Kd.C_drew ?_))); (case side2 => exact (Kd.R_reads' HO878.out).2.1); rintro e w190 ⟨v886, rfl, ho0, hb⟩; refine ⟨_, rfl, ?_⟩; have n0_ := aS_ (Kd.R_elder' (by (with_reducible repeat (first | apply rA_ | apply rN_ | apply rD_)); exact HO_833000.out) (Kd.R_base ho0) hb); have n1_ := aS_ (Kd.R_elder' (by (with_reducible repeat (first | apply rA_ | apply rN_ | apply rD_)); exact HO_838000.out) (Kd.R_base ho0) hb); have n2_ := aS_ (Kd.R_elder' (by (with_reducible repeat (first | apply rA_ | apply rN_ | apply rD_)); exact HO878.out) (Kd.R_base ho0) hb); have n3_ := aS_ (Kd.R_lower (Kd.R_new' (Kd.R_new' (Kd.R_new' ho0 (Kd.R_lt (by (with_reducible repeat (first | apply rA_ | apply rN_ | apply rD_)); exact HO_833000.out))) (Kd.R_lt (by (with_reducible repeat (first | apply rA_ | apply rN_ | apply rD_)); exact HO_838000.out))) (Kd.R_lt (by (with_reducible repeat (first | apply rA_ | apply rN_ | apply rD_)); exact HO878.out))) (below_size (by repeat (first | (with_reducible first | exact HB.out | apply bA_ | apply pN_ | apply bD_ | refine bS_ ?_ GE832.out | refine bS_ ?_ GE837.out | refine bS_ ?_ GE879.out) | exact HB.out)))); have n4_ := aS_ (blk_below (g := gb832) (o := .cells #[.slice Ao13 t828.length co13] 24 (0, 0)) (by (with_reducible repeat (first | refine kN_ ?_ _ | refine kD_ ?_ | refine kA_ ?_ _)); exact BK832.out) hb); have n5_ := aS_ (blk_below (g := gb837) (o := .cells #[.slice Ao17 t833.length co17] 24 (0, 0)) (by (with_reducible repeat (first | refine kN_ ?_ _ | refine kD_ ?_ | refine kA_ ?_ _)); exact BK837.out) hb); have n6_ := aS_ (blk_below (g := gb879) (o := .cells #[.slice Ao180 t876.length co180] 24 (0, 0)) (by (with_reducible repeat (first | refine kN_ ?_ _ | refine kD_ ?_ | refine kA_ ?_ _)); exact BK879.out) hb); have n7_ := aS_ (below_step (by repeat (first | (with_reducible first | exact HB.out | apply bA_ | apply pN_ | apply bD_ | refine bS_ ?_ GE832.out | refine bS_ ?_ GE837.out | refine bS_ ?_ GE879.out) | exact HB.out)) hb); clear HO_833000; clear HO_838000; clear HO878; clear BK832; clear BK837; clear BK879; clear HB; have HO_833000 := n0_; have HO_838000 := n1_; have HO878 := n2_; have HO887 := n3_; have BK832 := n4_; have BK837 := n5_; have BK879 := n6_; have HB := n7_; clear n0_ n1_ n2_ n3_ n4_ n5_ n6_ n7_; (try clear hb); (try clear hb2); (try clear hk); (try clear hi); (try clear ho0); have hcz191_0 : w190.cell? ⟨gb879, 0, none⟩ = some (.slice Ao180 t876.length co180) := (blk_cell BK879.out 0).trans rfl; have hfz191_0 := blk_frozen BK879.out 0) | ((with_reducible refine gate_callee (f := 47) rfl ?_); refine goesL_ (some 248) rfl rfl Try.func47 (by kernel_rfl) rfl #[.agg #[.slice Ao180 t876.length co180]] rfl (by (try simp only [List.map_toArray, List.map_cons, List.map_nil]); first | done | rfl | (simp only [List.length_drop, List.length_take]; rfl)) ?_; (with_reducible refine (spec_ClustersOf.calls _ _ _ _ _ _ _ ?side1 ?side2 A166.out).mono ?_); (case side1 => repeat (first | exact (Kd.R_reads' HO878.out).2.2 | (with_reducible refine Kd.C_alloc ?_ _) | (with_reducible refine Kd.C_drewN ?_ _) | (with_reducible refine Kd.C_drew ?_))); (case side2 => exact (Kd.R_reads' HO878.out).2.1); rintro e w192 ⟨v890, rfl, ho0, hb⟩; refine ⟨_, rfl, ?_⟩; have n0_ := aS_ (Kd.R_elder' (by (with_reducible repeat (first | apply rA_ | apply rN_ | apply rD_)); exact HO_833000.out) (Kd.R_base ho0) hb); have n1_ := aS_ (Kd.R_elder' (by (with_reducible repeat (first | apply rA_ | apply rN_ | apply rD_)); exact HO_838000.out) (Kd.R_base ho0) hb); have n2_ := aS_ (Kd.R_elder' (by (with_reducible repeat (first | apply rA_ | apply rN_ | apply rD_)); exact HO878.out) (Kd.R_base ho0) hb); have n3_ := aS_ (Kd.R_elder' (by (with_reducible repeat (first | apply rA_ | apply rN_ | apply rD_)); exact HO887.out) (Kd.R_base ho0) hb); have n4_ := aS_ (Kd.R_lower (Kd.R_new' (Kd.R_new' (Kd.R_new' (Kd.R_new' ho0 (Kd.R_lt (by (with_reducible repeat (first | apply rA_ | apply rN_ | apply rD_)); exact HO_833000.out))) (Kd.R_lt (by (with_reducible repeat (first | apply rA_ | apply rN_ | apply rD_)); exact HO_838000.out))) (Kd.R_lt (by (with_reducible repeat (first | apply rA_ | apply rN_ | apply rD_)); exact HO878.out))) (Kd.R_lt (by (with_reducible repeat (first | apply rA_ | apply rN_ | apply rD_)); exact HO887.out))) (below_size (by repeat (first | (with_reducible first | exact HB.out | apply bA_ | apply pN_ | apply bD_ | refine bS_ ?_ GE832.out | refine bS_ ?_ GE837.out | refine bS_ ?_ GE879.out) | exact HB.out)))); have n5_ := aS_ (blk_below (g := gb832) (o := .cells #[.slice Ao13 t828.length co13] 24 (0, 0)) (by (with_reducible repeat (first | refine kN_ ?_ _ | refine kD_ ?_ | refine kA_ ?_ _)); exact BK832.out) hb); have n6_ := aS_ (blk_below (g := gb837) (o := .cells #[.slice Ao17 t833.length co17] 24 (0, 0)) (by (with_reducible repeat (first | refine kN_ ?_ _ | refine kD_ ?_ | refine kA_ ?_ _)); exact BK837.out) hb); have n7_ := aS_ (blk_below (g := gb879) (o := .cells #[.slice Ao180 t876.length co180] 24 (0, 0)) (by (with_reducible repeat (first | refine kN_ ?_ _ | refine kD_ ?_ | refine kA_ ?_ _)); exact BK879.out) hb); have n8_ := aS_ (below_step (by repeat (first | (with_reducible first | exact HB.out | apply bA_ | apply pN_ | apply bD_ | refine bS_ ?_ GE832.out | refine bS_ ?_ GE837.out | refine bS_ ?_ GE879.out) | exact HB.out)) hb); clear HO_833000; clear HO_838000; clear HO878; clear HO887; clear BK832; clear BK837; clear BK879; clear HB; have HO_833000 := n0_; have HO_838000 := n1_; have HO878 := n2_; have HO887 := n3_; have HO891 := n4_; have BK832 := n5_; have BK837 := n6_; have BK879 := n7_; have HB := n8_; clear n0_ n1_ n2_ n3_ n4_ n5_ n6_ n7_ n8_; (try clear hb); (try clear hb2); (try clear hk); (try clear hi); (try clear ho0); have hcz193_0 : w192.cell? ⟨gb879, 0, none⟩ = some (.slice Ao180 t876.length co180) := (blk_cell BK879.out 0).trans rfl; have hfz193_0 := blk_frozen BK879.out 0) | ((with_reducible refine gate_callee (f := 36) rfl ?_); refine goesL_ (some 253) rfl rfl Try.func36 (by kernel_rfl) rfl #[.agg #[.slice Ao180 t876.length co180]] rfl (by (try simp only [List.map_toArray, List.map_cons, List.map_nil]); first | done | rfl | (simp only [List.length_drop, List.length_take]; rfl)) ?_; (with_reducible refine (impl_GreatestCost.calls _ _ _ _ _ _ _ ?side1 ?side2 A167.out).mono ?_); (case side1 => repeat (first | exact (Kd.R_reads' HO878.out).2.2 | (with_reducible refine Kd.C_alloc ?_ _) | (with_reducible refine Kd.C_drewN ?_ _) | (with_reducible refine Kd.C_drew ?_))); (case side2 => exact (Kd.R_reads' HO878.out).2.1); rintro e w194 ⟨rfl, hb⟩; refine ⟨_, rfl, ?_⟩; have n0_ := aS_ (Kd.R_below (by (with_reducible repeat (first | apply rA_ | apply rN_ | apply rD_)); exact HO_833000.out) hb); have n1_ := aS_ (Kd.R_below (by (with_reducible repeat (first | apply rA_ | apply rN_ | apply rD_)); exact HO_838000.out) hb); have n2_ := aS_ (Kd.R_below (by (with_reducible repeat (first | apply rA_ | apply rN_ | apply rD_)); exact HO878.out) hb); have n3_ := aS_ (Kd.R_below (by (with_reducible repeat (first | apply rA_ | apply rN_ | apply rD_)); exact HO887.out) hb); have n4_ := aS_ (Kd.R_below (by (with_reducible repeat (first | apply rA_ | apply rN_ | apply rD_)); exact HO891.out) hb); have n5_ := aS_ (blk_below (g := gb832) (o := .cells #[.slice Ao13 t828.length co13] 24 (0, 0)) (by (with_reducible repeat (first | refine kN_ ?_ _ | refine kD_ ?_ | refine kA_ ?_ _)); exact BK832.out) hb); have n6_ := aS_ (blk_below (g := gb837) (o := .cells #[.slice Ao17 t833.length co17] 24 (0, 0)) (by (with_reducible repeat (first | refine kN_ ?_ _ | refine kD_ ?_ | refine kA_ ?_ _)); exact BK837.out) hb); have n7_ := aS_ (blk_below (g := gb879) (o := .cells #[.slice Ao180 t876.length co180] 24 (0, 0)) (by (with_reducible repeat (first | refine kN_ ?_ _ | refine kD_ ?_ | refine kA_ ?_ _)); exact BK879.out) hb); have n8_ := aS_ (below_step (by repeat (first | (with_reducible first | exact HB.out | apply bA_ | apply pN_ | apply bD_ | refine bS_ ?_ GE832.out | refine bS_ ?_ GE837.out | refine bS_ ?_ GE879.out) | exact HB.out)) hb); clear HO_833000; clear HO_838000; clear HO878; clear HO887; clear HO891; clear BK832; clear BK837; clear BK879; clear HB; have HO_833000 := n0_; have HO_838000 := n1_; have HO878 := n2_; have HO887 := n3_; have HO891 := n4_; have BK832 := n5_; have BK837 := n6_; have BK879 := n7_; have HB := n8_; clear n0_ n1_ n2_ n3_ n4_ n5_ n6_ n7_ n8_; (try clear hb); (try clear hb2); (try clear hk); (try clear hi); have hcz195_0 : w194.cell? ⟨gb879, 0, none⟩ = some (.slice Ao180 t876.length co180) := (blk_cell BK879.out 0).trans rfl; have hfz195_0 := blk_frozen BK879.out 0) | ((with_reducible refine gate_callee (f := 48) rfl ?_); refine goesL_ (some 258) rfl rfl Try.func48 (by kernel_rfl) rfl #[.agg #[.slice Ao180 t876.length co180]] rfl (by (try simp only [List.map_toArray, List.map_cons, List.map_nil]); first | done | rfl | (simp only [List.length_drop, List.length_take]; rfl)) ?_; (with_reducible refine (spec_GreatestCost.calls _ _ _ _ _ _ _ ?side1 ?side2 A168.out).mono ?_); (case side1 => repeat (first | exact (Kd.R_reads' HO878.out).2.2 | (with_reducible refine Kd.C_alloc ?_ _) | (with_reducible refine Kd.C_drewN ?_ _) | (with_reducible refine Kd.C_drew ?_))); (case side2 => exact (Kd.R_reads' HO878.out).2.1); rintro e w196 ⟨rfl, hb⟩; refine ⟨_, rfl, ?_⟩; have n0_ := aS_ (Kd.R_below (by (with_reducible repeat (first | apply rA_ | apply rN_ | apply rD_)); exact HO_833000.out) hb); have n1_ := aS_ (Kd.R_below (by (with_reducible repeat (first | apply rA_ | apply rN_ | apply rD_)); exact HO_838000.out) hb); have n2_ := aS_ (Kd.R_below (by (with_reducible repeat (first | apply rA_ | apply rN_ | apply rD_)); exact HO878.out) hb); have n3_ := aS_ (Kd.R_below (by (with_reducible repeat (first | apply rA_ | apply rN_ | apply rD_)); exact HO887.out) hb); have n4_ := aS_ (Kd.R_below (by (with_reducible repeat (first | apply rA_ | apply rN_ | apply rD_)); exact HO891.out) hb); have n5_ := aS_ (blk_below (g := gb832) (o := .cells #[.slice Ao13 t828.length co13] 24 (0, 0)) (by (with_reducible repeat (first | refine kN_ ?_ _ | refine kD_ ?_ | refine kA_ ?_ _)); exact BK832.out) hb); have n6_ := aS_ (blk_below (g := gb837) (o := .cells #[.slice Ao17 t833.length co17] 24 (0, 0)) (by (with_reducible repeat (first | refine kN_ ?_ _ | refine kD_ ?_ | refine kA_ ?_ _)); exact BK837.out) hb); have n7_ := aS_ (blk_below (g := gb879) (o := .cells #[.slice Ao180 t876.length co180] 24 (0, 0)) (by (with_reducible repeat (first | refine kN_ ?_ _ | refine kD_ ?_ | refine kA_ ?_ _)); exact BK879.out) hb); have n8_ := aS_ (below_step (by repeat (first | (with_reducible first | exact HB.out | apply bA_ | apply pN_ | apply bD_ | refine bS_ ?_ GE832.out | refine bS_ ?_ GE837.out | refine bS_ ?_ GE879.out) | exact HB.out)) hb); clear HO_833000; clear HO_838000; clear HO878; clear HO887; clear HO891; clear BK832; clear BK837; clear BK879; clear HB; have HO_833000 := n0_; have HO_838000 := n1_; have HO878 := n2_; have HO887 := n3_; have HO891 := n4_; have BK832 := n5_; have BK837 := n6_; have BK879 := n7_; have HB := n8_; clear n0_ n1_ n2_ n3_ n4_ n5_ n6_ n7_ n8_; (try clear hb); (try clear hb2); (try clear hk); (try clear hi); have hcz197_0 : w196.cell? ⟨gb879, 0, none⟩ = some (.slice Ao180 t876.length co180) := (blk_cell BK879.out 0).trans rfl; have hfz197_0 := blk_frozen BK879.out 0) | ((with_reducible refine gate_callee (f := 49) rfl ?_); refine goesL_ (some 263) rfl rfl Try.func49 (by kernel_rfl) rfl #[.agg #[.slice Ao180 t876.length co180]] rfl (by (try simp only [List.map_toArray, List.map_cons, List.map_nil]); first | done | rfl | (simp only [List.length_drop, List.length_take]; rfl)) ?_; (with_reducible refine (spec_IsTable.calls _ _ _ _ _ _ ?side1 ?side2 A169.out).mono ?_); (case side1 => repeat (first | exact (Kd.R_reads' HO878.out).2.2 | (with_reducible refine Kd.C_alloc ?_ _) | (with_reducible refine Kd.C_drewN ?_ _) | (with_reducible refine Kd.C_drew ?_))); (case side2 => exact (Kd.R_reads' HO878.out).2.1); rintro e w198 ⟨rfl, hb⟩; refine ⟨_, rfl, ?_⟩; have n0_ := aS_ (Kd.R_below (by (with_reducible repeat (first | apply rA_ | apply rN_ | apply rD_)); exact HO_833000.out) hb); have n1_ := aS_ (Kd.R_below (by (with_reducible repeat (first | apply rA_ | apply rN_ | apply rD_)); exact HO_838000.out) hb); have n2_ := aS_ (Kd.R_below (by (with_reducible repeat (first | apply rA_ | apply rN_ | apply rD_)); exact HO878.out) hb); have n3_ := aS_ (Kd.R_below (by (with_reducible repeat (first | apply rA_ | apply rN_ | apply rD_)); exact HO887.out) hb); have n4_ := aS_ (Kd.R_below (by (with_reducible repeat (first | apply rA_ | apply rN_ | apply rD_)); exact HO891.out) hb); have n5_ := aS_ (blk_below (g := gb832) (o := .cells #[.slice Ao13 t828.length co13] 24 (0, 0)) (by (with_reducible repeat (first | refine kN_ ?_ _ | refine kD_ ?_ | refine kA_ ?_ _)); exact BK832.out) hb); have n6_ := aS_ (blk_below (g := gb837) (o := .cells #[.slice Ao17 t833.length co17] 24 (0, 0)) (by (with_reducible repeat (first | refine kN_ ?_ _ | refine kD_ ?_ | refine kA_ ?_ _)); exact BK837.out) hb); have n7_ := aS_ (blk_below (g := gb879) (o := .cells #[.slice Ao180 t876.length co180] 24 (0, 0)) (by (with_reducible repeat (first | refine kN_ ?_ _ | refine kD_ ?_ | refine kA_ ?_ _)); exact BK879.out) hb); have n8_ := aS_ (below_step (by repeat (first | (with_reducible first | exact HB.out | apply bA_ | apply pN_ | apply bD_ | refine bS_ ?_ GE832.out | refine bS_ ?_ GE837.out | refine bS_ ?_ GE879.out) | exact HB.out)) hb); clear HO_833000; clear HO_838000; clear HO878; clear HO887; clear HO891; clear BK832; clear BK837; clear BK879; clear HB; have HO_833000 := n0_; have HO_838000 := n1_; have HO878 := n2_; have HO887 := n3_; have HO891 := n4_; have BK832 := n5_; have BK837 := n6_; have BK879 := n7_; have HB := n8_; clear n0_ n1_ n2_ n3_ n4_ n5_ n6_ n7_ n8_; (try clear hb); (try clear hb2); (try clear hk); (try clear hi); obtain ⟨Ao199, co199, eo199⟩ := Kd.R_slice HO887.out; subst eo199; obtain ⟨Ao200, co200, eo200⟩ := Kd.R_slice HO891.out; subst eo200) | (go_at_call 37; (with_reducible refine (laws_jSame.calls _ _ _ _ _ _ _ _ _ ?side1 ?side2 ?side3 ?side4 A175.out).mono ?_); (case side1 => repeat (first | exact (Kd.R_reads' HO887.out).2.2 | (with_reducible refine Kd.C_alloc ?_ _) | (with_reducible refine Kd.C_drewN ?_ _) | (with_reducible refine Kd.C_drew ?_))); (case side2 => exact (Kd.R_reads' HO887.out).2.1); (case side3 => repeat (first | exact (Kd.R_reads' HO891.out).2.2 | (with_reducible refine Kd.C_alloc ?_ _) | (with_reducible refine Kd.C_drewN ?_ _) | (with_reducible refine Kd.C_drew ?_))); (case side4 => exact (Kd.R_reads' HO891.out).2.1); rintro e w' ⟨rfl, ⟨nd, rfl⟩⟩))
        go_ret
        exact ⟨by first | rfl | (simp [errW_none, errW_some] <;> rfl) | (simp [*, errW_none, errW_some] <;> rfl), by repeat (first | (with_reducible first | exact HB.out | apply bA_ | apply pN_ | apply bD_ | refine bS_ ?_ GE832.out | refine bS_ ?_ GE837.out | refine bS_ ?_ GE879.out) | exact HB.out)⟩
def laws_FnTablesFill.Pure : Prop := ∀ (l0 : List Int) (l1 : List Int), l0.length ≤ maxLen → l0.length * 1 ≤ 140737488351232 → (∀ x ∈ l0, (Lit.int .u8 x).wf = true) → l1.length ≤ maxLen → l1.length * 1 ≤ 140737488351232 → (∀ x ∈ l1, (Lit.int .u8 x).wf = true) → ∃ k, laws_FnTablesFill.f k l0 l1 = some true
theorem laws_FnTablesFill.walk (P : laws_FnTablesFill.Pure) (a0 : Option Addr) (len0 cap0 : Nat) (z0 : List Int) (a1 : Option Addr) (len1 cap1 : Nat) (z1 : List Int) (w : World) (w0 : (a0 = none ∧ len0 = 0 ∧ cap0 = 0 ∧ z0 = []) ∨ ∃ x, a0 = some x ∧ len0 ≤ cap0 ∧ cap0 ≤ maxLen ∧ z0.length = cap0 ∧ (∀ i, i < z0.length → w.cell? (x.add i) = some (.int .u8 (z0.getD i 0))) ∧ ∀ n ∈ z0, (Lit.int .u8 n).wf = true) (y0 : len0 * 1 ≤ 140737488351232) (w1 : (a1 = none ∧ len1 = 0 ∧ cap1 = 0 ∧ z1 = []) ∨ ∃ x, a1 = some x ∧ len1 ≤ cap1 ∧ cap1 ≤ maxLen ∧ z1.length = cap1 ∧ (∀ i, i < z1.length → w.cell? (x.add i) = some (.int .u8 (z1.getD i 0))) ∧ ∀ n ∈ z1, (Lit.int .u8 n).wf = true) (y1 : len1 * 1 ≤ 140737488351232) :
  Calls Try.prog 9 #[.slice a0 len0 cap0, .slice a1 len1 cap1] w fun e w' => e = .returned (.bool true) ∧ Below w.heap.size w w' := by
 obtain ⟨l0, rfl, hr0, hm0, hw0, hc0⟩ := ReadsInt.ofRowC w0
 obtain ⟨l1, rfl, hr1, hm1, hw1, hc1⟩ := ReadsInt.ofRowC w1
 obtain ⟨k, h⟩ := P l0 l1 hm0 y0 hw0 hm1 y1 hw1
 refine (laws_FnTablesFill.calls k _ _ l0 _ _ l1 true w (Kd.C_of_reads (d := (0 : Int)) (h1 := fun _ => rfl) hr0) hc0 (Kd.C_of_reads (d := (0 : Int)) (h1 := fun _ => rfl) hr1) hc1 h).mono ?_
 rintro e w' ⟨rfl, hd⟩
 exact ⟨rfl, hd⟩
end Go.Proofs.Ytfblohigbdomjaa.G
namespace Go.Proofs.Ytfblohigbdomjaa.G
open Go.RowKit Go.Proofs.YtfblohigbdomjaaW.PrintWords Go.Proofs.YtfblohigbdomjaaW.PrintLast Go.Proofs.YtfblohigbdomjaaW.PrintMore
set_option linter.unusedVariables false
set_option linter.unusedSimpArgs false
theorem wrap_id {x : Int} (h1 : -9223372036854775808 ≤ x) (h2 : x ≤ 9223372036854775807) : wrap64 x = x := by unfold wrap64; omega
theorem wrap_next {i n : Nat} (h : i < n) (hn : n ≤ 4611686018427387904) : wrap64 ((i : Int) + 1) = ((i + 1 : Nat) : Int) := by rw [wrap_id (by omega) (by omega)]; rfl
theorem succ_of {d k : Nat} (h : d < k) : ∃ m, k = m + 1 := ⟨k - 1, by omega⟩
theorem rd_nat (l : List Int) (i : Nat) : rd l (i : Int) = l.getD i 0 := by unfold rd; rw [Int.toNat_natCast]
theorem take_succ_getD {l : List Int} {i : Nat} (h : i < l.length) : l.take (i + 1) = l.take i ++ [l.getD i 0] := by
  rw [List.take_succ_eq_append_getElem h, List.getD_eq_getElem?_getD, List.getElem?_eq_getElem h]; rfl
theorem drop_getD {l : List Int} {i : Nat} (h : i < l.length) : l.drop i = l.getD i 0 :: l.drop (i + 1) := by
  rw [List.drop_eq_getElem_cons h, List.getD_eq_getElem?_getD, List.getElem?_eq_getElem h]; rfl
theorem Ev.of_all {α : Type} {g : Nat → Option α} {r : α} (K : Nat) (h : ∀ k, K < k → g k = some r) : Ev g r := ⟨K + 1, fun k hk => h k (by omega)⟩
/-- A loop that counts up: its state at each count, what is left behind the last one. -/
theorem Ev.up {σ ρ : Type} (n : Nat) (S : Nat → σ) (L : Nat → σ → Int → Option ρ) (r : ρ)
    (hstep : ∀ i, i < n → Ev (fun k => L k (S (i + 1)) ((i + 1 : Nat) : Int)) r → Ev (fun k => L k (S i) (i : Int)) r)
    (hend : Ev (fun k => L k (S n) (n : Int)) r) : ∀ m, m ≤ n → Ev (fun k => L k (S m) (m : Int)) r := by
  intro m hm
  have key : ∀ d m, m + d = n → Ev (fun k => L k (S m) (m : Int)) r := by
    intro d
    induction d with
    | zero => intro m hd; obtain rfl : m = n := by omega
              exact hend
    | succ d ih => intro m hd; exact hstep m (by omega) (ih (m + 1) (by omega))
  exact key (n - m) m (by omega)
theorem Ev.up0 {σ ρ : Type} (n : Nat) (S : Nat → σ) (L : Nat → σ → Int → Option ρ) (r : ρ)
    (hstep : ∀ i, i < n → Ev (fun k => L k (S (i + 1)) ((i + 1 : Nat) : Int)) r → Ev (fun k => L k (S i) (i : Int)) r)
    (hend : Ev (fun k => L k (S n) (n : Int)) r) : Ev (fun k => L k (S 0) 0) r := Ev.up n S L r hstep hend 0 (Nat.zero_le _)
/-- A round that needs no rounds of others. -/
theorem Ev.one {α : Type} {g f : Nat → Option α} {r : α} (k : Ev f r) (h : ∀ k, g (k + 1) = f k) : Ev g r := Ev.step h k
theorem Ev.end_ {α : Type} {g : Nat → Option α} {r : α} (h : ∀ k, g (k + 1) = some r) : Ev g r := Ev.step h (Ev.now r)
/-- Places that were written one by one: what is new, and what is still old. -/
def mixed (R o : List Int) (i : Nat) : List Int := R.take i ++ o.drop i
theorem l1In_eq (a b c : Int) : spec_l1In.f a b c = some (decide (b ≤ a ∧ a ≤ c)) := by
  unfold spec_l1In.f
  split
  · rename_i h; congr 1; rw [Bool.eq_iff_iff]; simp; omega
  · rename_i h; congr 1; rw [Bool.eq_iff_iff]; simp; omega
theorem l1All_l0 (l : List Int) (lo hi : Int) (hn : l.length ≤ 4611686018427387904) : ∀ (d k i : Nat), i + d = l.length → d < k → spec_l1All.l0 k lo hi l (l.length : Int) i = some ((l.drop i).all fun x => decide (lo ≤ x ∧ x ≤ hi)) := by
  intro d
  induction d with
  | zero =>
    intro k i hd hk
    obtain ⟨k, rfl⟩ := succ_of hk
    rw [spec_l1All.l0, if_neg (by omega), List.drop_of_length_le (by omega)]; rfl
  | succ d ih =>
    intro k i hd hk
    obtain ⟨k, rfl⟩ := succ_of hk
    rw [spec_l1All.l0, if_pos (by omega), if_pos (by omega), if_pos (by omega), l1In_eq, Option.bind_some, rd_nat, wrap_next (n := l.length) (by omega) hn, ih k (i + 1) (by omega) (by omega), drop_getD (l := l) (i := i) (by omega), List.all_cons]
    split
    · rename_i h; rw [h, Bool.true_and]
    · rename_i h; rw [Bool.not_eq_true] at h; rw [h, Bool.false_and]
theorem l1All_ev (l : List Int) (lo hi : Int) (hn : l.length ≤ 4611686018427387904) : Ev (fun k => spec_l1All.f k l lo hi) (l.all fun x => decide (lo ≤ x ∧ x ≤ hi)) := by
  refine Ev.of_all l.length fun k hk => ?_
  have := l1All_l0 l lo hi hn l.length k 0 (by omega) hk
  simpa [spec_l1All.f] using this
theorem between_eq (a b c : Int) : impl_between.f a b c = some (decide (b ≤ a ∧ a ≤ c)) := by
  unfold impl_between.f
  by_cases h : a ≥ b
  · rw [if_pos h]; congr 1; simp; omega
  · rw [if_neg h]; congr 1; simp; omega
theorem prSize_eq (a : Int) : spec_prSize.f a = some (decide (2 ≤ a ∧ a ≤ 12)) := by unfold spec_prSize.f; rw [l1In_eq]; rfl
theorem isSize_eq (a : Int) : impl_isSize.f a = some (decide (2 ≤ a ∧ a ≤ 12)) := by unfold impl_isSize.f; rw [between_eq]; rfl
theorem l1Has_l0 (x : List Int) (a : Int) (hn : x.length ≤ 4611686018427387904) : ∀ (d i : Nat), i + d = x.length → Ev (fun k => spec_l1Has.l0 k a x (x.length : Int) i) (decide (a ∈ x.drop i)) := by
  intro d
  induction d with
  | zero =>
    intro i hd
    refine Ev.end_ fun k => ?_
    rw [spec_l1Has.l0, if_neg (by omega), List.drop_eq_nil_of_le (by omega)]
    simp
  | succ d ih =>
    intro i hd
    have e1 := drop_getD (l := x) (i := i) (by omega)
    by_cases h : x.getD i 0 = a
    · refine Ev.end_ fun k => ?_
      rw [spec_l1Has.l0, if_pos (by omega), if_pos (by omega), if_pos (by omega), rd_nat, if_pos h, e1, h, decide_eq_true (List.mem_cons_self)]
    · refine Ev.one (f := fun k => spec_l1Has.l0 k a x (x.length : Int) ((i + 1 : Nat) : Int)) ?_ fun k => ?_
      · have := ih (i + 1) (by omega)
        have e : decide (a ∈ x.drop i) = decide (a ∈ x.drop (i + 1)) := by
          rw [e1]
          have : ¬ a = x.getD i 0 := fun e => h e.symm
          simp only [List.mem_cons, this, false_or]
        rw [e]; exact this
      · rw [spec_l1Has.l0, if_pos (by omega), if_pos (by omega), if_pos (by omega), rd_nat, if_neg h, wrap_next (n := x.length) (by omega) hn]
theorem l1Has_ev (x : List Int) (a : Int) (hn : x.length ≤ 4611686018427387904) : Ev (fun k => spec_l1Has.f k x a) (decide (a ∈ x)) := by
  unfold spec_l1Has.f
  have := l1Has_l0 x a hn x.length 0 (by omega)
  simpa using this
/-- The first place of a number, -1 where it is not. -/
def ixF (l : List Int) (a : Int) : Nat → Nat → Int
  | 0, _ => -1
  | d + 1, i => if l.getD i 0 = a then (i : Int) else ixF l a d (i + 1)
theorem ixF_spec (l : List Int) (a : Int) : ∀ (d i : Nat), i + d = l.length → (ixF l a d i = -1 ∧ a ∉ l.drop i) ∨ (∃ j : Nat, ixF l a d i = j ∧ j < l.length ∧ l.getD j 0 = a ∧ a ∈ l.drop i)
  | 0, i, h => by left; rw [List.drop_of_length_le (by omega)]; exact ⟨rfl, by simp⟩
  | d + 1, i, h => by
    rw [ixF, drop_getD (by omega)]
    by_cases c : l.getD i 0 = a
    · right; rw [if_pos c]; exact ⟨i, rfl, by omega, c, by rw [c]; simp⟩
    · rw [if_neg c]
      rcases ixF_spec l a d (i + 1) (by omega) with ⟨h1, h2⟩ | ⟨j, h1, h2, h3, h4⟩
      · left; exact ⟨h1, by simp only [List.mem_cons, not_or]; exact ⟨fun e => c e.symm, h2⟩⟩
      · right; exact ⟨j, h1, h2, h3, by simp [h4]⟩
theorem index_l0 (l : List Int) (a : Int) (hn : l.length ≤ 4611686018427387904) : ∀ (d i : Nat), i + d = l.length → Ev (fun k => slices_Index_int_int.l0 k l a (l.length : Int) i) (ixF l a d i) := by
  intro d
  induction d with
  | zero =>
    intro i hd
    exact Ev.end_ fun k => by rw [slices_Index_int_int.l0, if_neg (by omega)]; rfl
  | succ d ih =>
    intro i hd
    rw [ixF]
    by_cases c : l.getD i 0 = a
    · rw [if_pos c]
      refine Ev.end_ fun k => ?_
      rw [slices_Index_int_int.l0, if_pos (by omega), if_pos (by omega), if_pos (by omega), rd_nat, if_pos c.symm]
    · rw [if_neg c]
      refine Ev.one (ih (i + 1) (by omega)) fun k => ?_
      rw [slices_Index_int_int.l0, if_pos (by omega), if_pos (by omega), if_pos (by omega), rd_nat, if_neg (fun e => c e.symm), wrap_next (n := l.length) (by omega) hn]
theorem index_ev (l : List Int) (a : Int) (hn : l.length ≤ 4611686018427387904) : Ev (fun k => slices_Index_int_int.f k l a) (ixF l a l.length 0) := by
  unfold slices_Index_int_int.f
  exact index_l0 l a hn l.length 0 (by omega)
theorem containsI_ev (l : List Int) (a : Int) (hn : l.length ≤ 4611686018427387904) : Ev (fun k => slices_Contains_int_int.f k l a) (decide (a ∈ l)) := by
  unfold slices_Contains_int_int.f
  refine Ev.bind (index_ev l a hn) ?_
  have e : decide (ixF l a l.length 0 ≥ 0) = decide (a ∈ l) := by
    rcases ixF_spec l a l.length 0 (by omega) with ⟨h1, h2⟩ | ⟨j, h1, h2, h3, h4⟩
    · rw [List.drop_zero] at h2
      rw [h1, decide_eq_false h2]; decide
    · rw [List.drop_zero] at h4
      rw [h1, decide_eq_true h4]; exact decide_eq_true (by omega)
  rw [e]
  exact Ev.now _
def costN (n key at_ : Nat) : Nat := (at_ + n - key % n) % n
theorem cost_arith {n key at_ : Nat} (hn : 0 < n) (hn2 : n ≤ 1000) (hk : key ≤ 1000) (ha : at_ < n) : Int.tmod (wrap64 ((wrap64 ((at_ : Int) - (Int.tmod (key : Int) (n : Int)))) + (n : Int))) (n : Int) = (costN n key at_ : Nat) := by
  have e1 : Int.tmod (key : Int) (n : Int) = ((key % n : Nat) : Int) := rfl
  have hlt := Nat.mod_lt key hn
  rw [e1, wrap_id (x := (at_ : Int) - ((key % n : Nat) : Int)) (by omega) (by omega), wrap_id (by omega) (by omega)]
  rw [show (at_ : Int) - ((key % n : Nat) : Int) + (n : Int) = ((at_ + n - key % n : Nat) : Int) by omega]
  rfl
theorem costN_lt {n key at_ : Nat} (hn : 0 < n) : costN n key at_ < n := Nat.mod_lt _ hn
theorem prCost_eq {n key at_ : Nat} (hn : 0 < n) (hn2 : n ≤ 1000) (hk : key ≤ 1000) (ha : at_ < n) : spec_prCost.f (key : Int) (at_ : Int) (n : Int) = some ((costN n key at_ : Nat) : Int) := by
  unfold spec_prCost.f
  rw [if_neg (by omega), cost_arith hn hn2 hk ha]
theorem tcost_eq {l : List Int} {key at_ : Nat} (hn2 : l.length ≤ 1000) (hk : key ≤ 1000) (ha : at_ < l.length) (hg : l.getD at_ 0 = (key : Int)) : impl_Table_cost.f l (at_ : Int) = some ((costN l.length key at_ : Nat) : Int) := by
  unfold impl_Table_cost.f
  rw [if_pos (by omega), if_pos (by omega), if_neg (by omega), rd_nat, hg, cost_arith (by omega) hn2 hk ha]
/-- No free cell among the key's c cells from the s-th on. -/
def wayF (l : List Int) (key : Nat) : Nat → Nat → Bool
  | _, 0 => true
  | s, c + 1 => decide (0 ≤ l.getD ((key + s) % l.length) 0) && wayF l key (s + 1) c
def okCell (l : List Int) (i : Nat) : Bool := decide (l.getD i 0 < 0) || (!decide (l.getD i 0 ∈ l.take i) && wayF l (l.getD i 0).toNat 0 (costN l.length (l.getD i 0).toNat i))
def okFrom (l : List Int) : Nat → Nat → Bool
  | 0, _ => true
  | d + 1, i => okCell l i && okFrom l d (i + 1)
def tblB (l : List Int) : Bool := decide (2 ≤ (l.length : Int) ∧ (l.length : Int) ≤ 12) && (l.all fun x => decide (-1 ≤ x ∧ x ≤ 999)) && decide ((-1 : Int) ∈ l) && okFrom l l.length 0
/-- The cell that lies so far back is the key's own one, so far on. -/
theorem back_cell {n key at_ c j : Nat} (hn : 0 < n) (ha : at_ < n) (hc : costN n key at_ = c) (hj : j ≤ c) (h1 : 1 ≤ j) : (at_ + n - j) % n = (key + (c - j)) % n := by
  have hk := Nat.mod_lt key hn
  have hcn : c < n := by rw [← hc]; exact costN_lt hn
  have e : (key + (c - j)) % n = (key % n + (c - j)) % n := (Nat.mod_add_mod key n (c - j)).symm
  rw [e]
  unfold costN at hc
  rcases Nat.lt_or_ge at_ (key % n) with h | h
  · rw [Nat.mod_eq_of_lt (show at_ + n - key % n < n by omega)] at hc
    rw [show key % n + (c - j) = at_ + n - j by omega]
  · have : (at_ + n - key % n) % n = at_ - key % n := by
      rw [show at_ + n - key % n = (at_ - key % n) + n by omega, Nat.add_mod_right, Nat.mod_eq_of_lt (by omega)]
    rw [this] at hc
    rw [show at_ + n - j = (key % n + (c - j)) + n by omega, Nat.add_mod_right]
end Go.Proofs.Ytfblohigbdomjaa.G
namespace Go.Proofs.Ytfblohigbdomjaa.G
open Go.RowKit Go.Proofs.YtfblohigbdomjaaW.PrintWords Go.Proofs.YtfblohigbdomjaaW.PrintLast Go.Proofs.YtfblohigbdomjaaW.PrintMore
set_option linter.unusedVariables false
set_option linter.unusedSimpArgs false
section
variable (l : List Int) (hn : 2 ≤ l.length) (hn2 : l.length ≤ 12) (hr : ∀ j, j < l.length → -1 ≤ l.getD j 0 ∧ l.getD j 0 ≤ 999)
include hn hn2 hr
theorem sp_way (key i c : Nat) (hk : key ≤ 1000) (hi : i < l.length) (hc : costN l.length key i = c) (r : Bool) (h : Ev (fun k => spec_prGood.l0 k (l.length : Int) l (l.length : Int) (wrap64 ((i : Int) + 1)) l) r) : ∀ (j : Nat), j ≤ c →
    Ev (fun k => spec_prGood.l1 k (l.length : Int) (i : Int) (j : Int) l (l.length : Int) (i : Int) l) (if wayF l key (c - j) j = true then r else false) := by
  have hcn : c < l.length := by rw [← hc]; exact costN_lt (by omega)
  intro j
  induction j with
  | zero =>
    intro _
    rw [wayF, if_pos rfl]
    exact Ev.one h fun k => by rw [spec_prGood.l1, if_neg (by omega)]
  | succ j ih =>
    intro hj
    have hcell := back_cell (n := l.length) (by omega) hi hc hj (by omega)
    have e1 : Int.tmod (wrap64 ((wrap64 ((i : Int) - ((j + 1 : Nat) : Int))) + (l.length : Int))) (l.length : Int) = (((key + (c - (j + 1))) % l.length : Nat) : Int) := by
      rw [wrap_id (x := (i : Int) - ((j + 1 : Nat) : Int)) (by omega) (by omega), wrap_id (by omega) (by omega), ← hcell, show (i : Int) - ((j + 1 : Nat) : Int) + (l.length : Int) = ((i + l.length - (j + 1) : Nat) : Int) by omega]
      rfl
    have hm := Nat.mod_lt (key + (c - (j + 1))) (show 0 < l.length by omega)
    have hv := hr _ hm
    rw [wayF, show c - (j + 1) + 1 = c - j by omega]
    by_cases hf : l.getD ((key + (c - (j + 1))) % l.length) 0 = -1
    · rw [show decide (0 ≤ l.getD ((key + (c - (j + 1))) % l.length) 0) = false from decide_eq_false (by omega), Bool.false_and, if_neg (by decide)]
      refine Ev.end_ fun k => ?_
      rw [spec_prGood.l1, if_pos (by omega), if_neg (by omega), e1, if_pos (by omega), if_pos (by omega), rd_nat, if_pos hf]
    · rw [show decide (0 ≤ l.getD ((key + (c - (j + 1))) % l.length) 0) = true from decide_eq_true (by omega), Bool.true_and]
      refine Ev.one (ih (by omega)) fun k => ?_
      rw [spec_prGood.l1, if_pos (by omega), if_neg (by omega), e1, if_pos (by omega), if_pos (by omega), rd_nat, if_neg hf, wrap_id (x := ((j + 1 : Nat) : Int) - 1) (by omega) (by omega), show ((j + 1 : Nat) : Int) - 1 = (j : Int) by omega]
theorem im_way (key i c : Nat) (hk : key ≤ 1000) (hi : i < l.length) (hc : c < l.length) (r : Bool) (h : Ev (fun k => impl_isTable.l0 k l (l.length : Int) (wrap64 ((i : Int) + 1)) l) r) : ∀ (d s : Nat), s + d = c →
    Ev (fun k => impl_isTable.l1 k (key : Int) l (l.length : Int) (i : Int) (c : Int) (s : Int) l) (if wayF l key s d = true then r else false) := by
  have hr0 := hr
  intro d
  induction d with
  | zero =>
    intro s hs
    rw [wayF, if_pos rfl]
    exact Ev.one h fun k => by rw [impl_isTable.l1, if_neg (by omega)]
  | succ d ih =>
    intro s hs
    have e1 : Int.tmod (wrap64 ((key : Int) + (s : Int))) (l.length : Int) = (((key + s) % l.length : Nat) : Int) := by
      rw [wrap_id (by omega) (by omega), show (key : Int) + (s : Int) = ((key + s : Nat) : Int) by omega]
      rfl
    have hm := Nat.mod_lt (key + s) (show 0 < l.length by omega)
    rw [wayF]
    by_cases hf : l.getD ((key + s) % l.length) 0 < 0
    · rw [show decide (0 ≤ l.getD ((key + s) % l.length) 0) = false from decide_eq_false (by omega), Bool.false_and, if_neg (by decide)]
      refine Ev.end_ fun k => ?_
      rw [impl_isTable.l1, if_pos (by omega), if_neg (by omega), e1, if_pos (by omega), if_pos (by omega), rd_nat, if_pos hf]
    · rw [show decide (0 ≤ l.getD ((key + s) % l.length) 0) = true from decide_eq_true (by omega), Bool.true_and]
      refine Ev.one (ih (s + 1) (by omega)) fun k => ?_
      rw [impl_isTable.l1, if_pos (by omega), if_neg (by omega), e1, if_pos (by omega), if_pos (by omega), rd_nat, if_neg hf, wrap_next (n := 1000) (by omega) (by omega)]
theorem sp_good_l0 : ∀ (d i : Nat), i + d = l.length → Ev (fun k => spec_prGood.l0 k (l.length : Int) l (l.length : Int) (i : Int) l) (okFrom l d i) := by
  intro d
  induction d with
  | zero =>
    intro i hd
    exact Ev.end_ fun k => by rw [spec_prGood.l0, if_neg (by omega)]; rfl
  | succ d ih =>
    intro i hd
    have hi : i < l.length := by omega
    have hv := hr i hi
    rw [okFrom, okCell]
    by_cases hf : l.getD i 0 = -1
    · rw [show decide (l.getD i 0 < 0) = true from decide_eq_true (by omega), Bool.true_or, Bool.true_and]
      refine Ev.one (ih (i + 1) (by omega)) fun k => ?_
      rw [spec_prGood.l0, if_pos (by omega), if_pos (by omega), if_pos (by omega), rd_nat, if_pos hf, wrap_next (n := l.length) hi (by omega)]
    · rw [show decide (l.getD i 0 < 0) = false from decide_eq_false (by omega), Bool.false_or]
      obtain ⟨key, hkey⟩ : ∃ key : Nat, l.getD i 0 = key := ⟨(l.getD i 0).toNat, by omega⟩
      rw [hkey, Int.toNat_natCast]
      refine Ev.step (f := fun k => (spec_l1Has.f k (l.take i) (key : Int)).bind fun t169 => (if t169 = true then (some false) else (spec_prGood.l1 k (l.length : Int) (i : Int) ((costN l.length key i : Nat) : Int) l (l.length : Int) (i : Int) l))) (fun k => by
        rw [spec_prGood.l0, if_pos (by omega), if_pos (by omega), if_pos (by omega), rd_nat, if_neg hf, if_pos (by omega), Int.toNat_natCast, hkey, prCost_eq (by omega) (by omega) (by omega) hi]; rfl) ?_
      refine Ev.bind (l1Has_ev _ _ (by simp; omega)) ?_
      cases hh : decide ((key : Int) ∈ l.take i) with
      | true => simp only [if_true, Bool.not_true, Bool.false_and]; exact Ev.now _
      | false =>
        simp only [Bool.false_eq_true, if_false, Bool.not_false, Bool.true_and]
        have h0 := ih (i + 1) (by omega)
        have hw := sp_way l hn hn2 hr key i (costN l.length key i) (by omega) hi rfl _ (by rw [wrap_next (n := l.length) hi (by omega)]; exact h0) (costN l.length key i) (Nat.le_refl _)
        rw [Nat.sub_self] at hw
        cases hww : wayF l key 0 (costN l.length key i) with
        | true => rw [hww, if_pos rfl] at hw; rw [Bool.true_and]; exact hw
        | false => rw [hww, if_neg (by decide)] at hw; rw [Bool.false_and]; exact hw
theorem im_good_l0 : ∀ (d i : Nat), i + d = l.length → Ev (fun k => impl_isTable.l0 k l (l.length : Int) (i : Int) l) (okFrom l d i) := by
  intro d
  induction d with
  | zero =>
    intro i hd
    exact Ev.end_ fun k => by rw [impl_isTable.l0, if_neg (by omega)]; rfl
  | succ d ih =>
    intro i hd
    have hi : i < l.length := by omega
    have hv := hr i hi
    rw [okFrom, okCell]
    by_cases hf : l.getD i 0 < 0
    · rw [decide_eq_true hf, Bool.true_or, Bool.true_and]
      refine Ev.one (ih (i + 1) (by omega)) fun k => ?_
      rw [impl_isTable.l0, if_pos (by omega), if_pos (by omega), if_pos (by omega), rd_nat, if_pos hf, wrap_next (n := l.length) hi (by omega)]
    · rw [decide_eq_false hf, Bool.false_or]
      obtain ⟨key, hkey⟩ : ∃ key : Nat, l.getD i 0 = key := ⟨(l.getD i 0).toNat, by omega⟩
      have htc := tcost_eq (l := l) (key := key) (at_ := i) (by omega) (by omega) hi hkey
      rw [hkey, Int.toNat_natCast]
      refine Ev.step (f := fun k => (slices_Contains_int_int.f k (l.take i) (key : Int)).bind fun t195 => (if t195 = true then (some false) else (impl_isTable.l1 k (key : Int) l (l.length : Int) (i : Int) ((costN l.length key i : Nat) : Int) 0 l))) (fun k => by
        rw [impl_isTable.l0, if_pos (by omega), if_pos (by omega), if_pos (by omega), rd_nat, if_neg hf, if_pos (by omega), Int.toNat_natCast, hkey, htc]; rfl) ?_
      refine Ev.bind (containsI_ev _ _ (by simp; omega)) ?_
      cases hh : decide ((key : Int) ∈ l.take i) with
      | true => simp only [if_true, Bool.not_true, Bool.false_and]; exact Ev.now _
      | false =>
        simp only [Bool.false_eq_true, if_false, Bool.not_false, Bool.true_and]
        have h0 := ih (i + 1) (by omega)
        have hw := im_way l hn hn2 hr key i (costN l.length key i) (by omega) hi (costN_lt (by omega)) _ (by rw [wrap_next (n := l.length) hi (by omega)]; exact h0) (costN l.length key i) 0 (by omega)
        cases hww : wayF l key 0 (costN l.length key i) with
        | true => rw [hww, if_pos rfl] at hw; rw [Bool.true_and]; exact hw
        | false => rw [hww, if_neg (by decide)] at hw; rw [Bool.false_and]; exact hw
end
end Go.Proofs.Ytfblohigbdomjaa.G
namespace Go.Proofs.Ytfblohigbdomjaa.G
open Go.RowKit Go.Proofs.YtfblohigbdomjaaW.PrintWords Go.Proofs.YtfblohigbdomjaaW.PrintLast Go.Proofs.YtfblohigbdomjaaW.PrintMore
set_option linter.unusedVariables false
set_option linter.unusedSimpArgs false
theorem allT_get {l : List Int} {lo hi : Int} (h : (l.all fun x => decide (lo ≤ x ∧ x ≤ hi)) = true) {j : Nat} (hj : j < l.length) : lo ≤ l.getD j 0 ∧ l.getD j 0 ≤ hi := by
  rw [List.all_eq_true] at h
  have := h l[j] (List.getElem_mem hj)
  rw [List.getD_eq_getElem?_getD, List.getElem?_eq_getElem hj]
  simpa using this
theorem areBetween_eq (l : List Int) (lo hi : Int) : impl_areBetween.f l lo hi = some (l.all fun x => decide (lo ≤ x ∧ x ≤ hi)) := by
  unfold impl_areBetween.f
  congr 2
  funext x
  rw [Bool.eq_iff_iff]; simp
theorem prGood_ev (l : List Int) (hn : l.length ≤ 4611686018427387904) : Ev (fun k => spec_prGood.f k l) (tblB l) := by
  unfold spec_prGood.f tblB
  simp only [l1In_eq, Option.bind_some]
  have stop : Ev (fun k => spec_prGood.j0 k (l.length : Int) true l) false := Ev.end_ fun k => by rw [spec_prGood.j0, if_pos rfl]
  by_cases h1 : 2 ≤ (l.length : Int) ∧ (l.length : Int) ≤ 12
  · rw [decide_eq_true h1]
    simp only [if_true, Bool.true_and]
    refine Ev.bind (l1All_ev l (-1) 999 hn) ?_
    cases h2 : (l.all fun x => decide (-1 ≤ x ∧ x ≤ 999)) with
    | false => simp only [Bool.false_eq_true, if_false, Bool.false_and]; exact stop
    | true =>
      simp only [if_true, Bool.true_and]
      refine Ev.bind (l1Has_ev l (-1) hn) ?_
      cases h3 : decide ((-1 : Int) ∈ l) with
      | false => simp only [Bool.not_false, Bool.false_and]; exact stop
      | true =>
        simp only [Bool.not_true, Bool.true_and]
        exact Ev.one (sp_good_l0 l (by omega) (by omega) (fun j hj => allT_get h2 hj) l.length 0 (by omega)) fun k => by rw [spec_prGood.j0, if_neg (by decide)]; rfl
  · rw [decide_eq_false h1]
    simp only [Bool.false_eq_true, if_false, Bool.false_and]
    exact stop
theorem isTable_ev (l : List Int) (hn : l.length ≤ 4611686018427387904) : Ev (fun k => impl_isTable.f k l) (tblB l) := by
  unfold impl_isTable.f tblB
  simp only [isSize_eq, areBetween_eq, Option.bind_some]
  have stop : Ev (fun k => impl_isTable.j0 k true l) false := Ev.end_ fun k => by rw [impl_isTable.j0, if_pos rfl]
  by_cases h1 : 2 ≤ (l.length : Int) ∧ (l.length : Int) ≤ 12
  · rw [decide_eq_true h1]
    simp only [if_true, Bool.true_and]
    cases h2 : (l.all fun x => decide (-1 ≤ x ∧ x ≤ 999)) with
    | false => simp only [Bool.false_eq_true, if_false, Bool.false_and]; exact stop
    | true =>
      simp only [if_true, Bool.true_and]
      refine Ev.bind (containsI_ev l (-1) hn) ?_
      cases h3 : decide ((-1 : Int) ∈ l) with
      | false => simp only [Bool.not_false, Bool.false_and]; exact stop
      | true =>
        simp only [Bool.not_true, Bool.true_and]
        exact Ev.one (im_good_l0 l (by omega) (by omega) (fun j hj => allT_get h2 hj) l.length 0 (by omega)) fun k => by rw [impl_isTable.j0, if_neg (by decide)]; rfl
  · rw [decide_eq_false h1]
    simp only [Bool.false_eq_true, if_false, Bool.false_and]
    exact stop
theorem spec_IsTable_ev (l : List Int) (hn : l.length ≤ 4611686018427387904) : Ev (fun k => spec_IsTable.f k l) (tblB l) := by
  unfold spec_IsTable.f
  exact Ev.bind (prGood_ev l hn) (Ev.now _)
theorem impl_IsTable_ev (l : List Int) (hn : l.length ≤ 4611686018427387904) : Ev (fun k => impl_IsTable.f k l) (tblB l) := by
  unfold impl_IsTable.f
  exact Ev.bind (isTable_ev l hn) (Ev.now _)
theorem tblB_parts {l : List Int} (h : tblB l = true) : 2 ≤ l.length ∧ l.length ≤ 12 ∧ (∀ j, j < l.length → -1 ≤ l.getD j 0 ∧ l.getD j 0 ≤ 999) ∧ (-1 : Int) ∈ l := by
  unfold tblB at h
  simp only [Bool.and_eq_true, decide_eq_true_eq] at h
  exact ⟨by omega, by omega, fun j hj => allT_get h.1.1.2 hj, h.1.2⟩
theorem t_take_sum {l : List Int} {q : Nat} (hq : q < l.length) : (l.take (q + 1)).sum = (l.take q).sum + l.getD q 0 := by
  rw [take_succ_getD hq, List.sum_append]; simp
theorem t_take_range {l : List Int} {B : Int} (hB : 0 ≤ B) (hb : ∀ j, -B ≤ l.getD j 0 ∧ l.getD j 0 ≤ B) : ∀ q, q ≤ l.length → -((q : Int) * B) ≤ (l.take q).sum ∧ (l.take q).sum ≤ (q : Int) * B := by
  intro q
  induction q with
  | zero => intro _; simp
  | succ q ih =>
    intro hq
    have := ih (by omega)
    have := hb q
    rw [t_take_sum (by omega)]
    push_cast
    rw [Int.add_mul]
    omega
theorem t_paSum_ev (l : List Int) (hl : l.length ≤ 1000) (hb : ∀ j, -1000 ≤ l.getD j 0 ∧ l.getD j 0 ≤ 1000) : Ev (fun k => spec_paSum.f k l) l.sum := by
  unfold spec_paSum.f
  have hs := t_take_range (l := l) (B := 1000) (by omega) hb
  have := Ev.up0 l.length (fun q => (l.take q).sum) (fun k s q => spec_paSum.l0 k s l (l.length : Int) q) l.sum (fun q hq h => Ev.one h fun k => ?_) (Ev.end_ fun k => ?_)
  · simpa using this
  · have := hs q (by omega)
    have := hb q
    rw [spec_paSum.l0, if_pos (by omega), if_pos (by omega), if_pos (by omega), rd_nat, wrap_id (x := (l.take q).sum + l.getD q 0) (by omega) (by omega), wrap_next (n := l.length) hq (by omega), t_take_sum hq]
  · rw [spec_paSum.l0, if_neg (by omega), List.take_length]
theorem t_total_ev (l : List Int) (hl : l.length ≤ 1000) (hb : ∀ j, -1000 ≤ l.getD j 0 ∧ l.getD j 0 ≤ 1000) : Ev (fun k => impl_total.f k l) l.sum := by
  unfold impl_total.f
  have hs := t_take_range (l := l) (B := 1000) (by omega) hb
  have := Ev.up0 l.length (fun q => (l.take q).sum) (fun k s q => impl_total.l0 k s l (l.length : Int) q) l.sum (fun q hq h => Ev.one h fun k => ?_) (Ev.end_ fun k => ?_)
  · simpa using this
  · have := hs q (by omega)
    have := hb q
    rw [impl_total.l0, if_pos (by omega), if_pos (by omega), if_pos (by omega), rd_nat, wrap_id (x := (l.take q).sum + l.getD q 0) (by omega) (by omega), wrap_next (n := l.length) hq (by omega), t_take_sum hq]
  · rw [impl_total.l0, if_neg (by omega), List.take_length]
/-- The cost of the key in a cell. -/
def cellC (l : List Int) (a : Int) : Int := ((costN l.length (l.getD a.toNat 0).toNat a.toNat : Nat) : Int)
theorem cellC_range {l : List Int} (hn : 2 ≤ l.length) (a : Int) : 0 ≤ cellC l a ∧ cellC l a < l.length := by
  have := costN_lt (n := l.length) (key := (l.getD a.toNat 0).toNat) (at_ := a.toNat) (by omega)
  unfold cellC
  omega
/-- The costs of the keys in the cells below q. -/
def cosTo (l : List Int) (q : Nat) : List Int := (idxsTo posP l q).map (cellC l)
theorem cosTo_succ (l : List Int) (q : Nat) : cosTo l (q + 1) = cosTo l q ++ (if posP (l.getD q 0) = true then [cellC l q] else []) := by
  unfold cosTo
  rw [idxsTo, List.map_append]
  split <;> rfl
theorem cosTo_len (l : List Int) (q : Nat) : (cosTo l q).length ≤ q := by
  unfold cosTo
  rw [List.length_map]
  exact idxsTo_len _ _ _
theorem idxsTo_mem (p : Int → Bool) (l : List Int) (x : Int) : ∀ q, x ∈ idxsTo p l q ↔ ∃ j : Nat, x = j ∧ j < q ∧ p (l.getD j 0) = true
  | 0 => by simp [idxsTo]
  | q + 1 => by
    rw [idxsTo, List.mem_append, idxsTo_mem p l x q]
    constructor
    · rintro (⟨j, h1, h2, h3⟩ | h)
      · exact ⟨j, h1, by omega, h3⟩
      · split at h
        · rename_i hp
          rw [List.mem_singleton] at h
          exact ⟨q, h, by omega, hp⟩
        · cases h
    · rintro ⟨j, h1, h2, h3⟩
      by_cases e : j = q
      · subst e
        exact Or.inr (by rw [if_pos h3, List.mem_singleton]; exact h1)
      · exact Or.inl ⟨j, h1, by omega, h3⟩
def costsV (l : List Int) : List Int := cosTo l l.length
theorem costsV_get {l : List Int} (hn : 2 ≤ l.length) (j : Nat) : 0 ≤ (costsV l).getD j 0 ∧ (costsV l).getD j 0 < l.length := by
  unfold costsV cosTo
  rw [List.getD_eq_getElem?_getD, List.getElem?_map]
  cases (idxsTo posP l l.length)[j]? with
  | none => simp; omega
  | some a => exact cellC_range hn a
end Go.Proofs.Ytfblohigbdomjaa.G
namespace Go.Proofs.Ytfblohigbdomjaa.G
open Go.RowKit Go.Proofs.YtfblohigbdomjaaW.PrintWords Go.Proofs.YtfblohigbdomjaaW.PrintLast Go.Proofs.YtfblohigbdomjaaW.PrintMore
set_option linter.unusedVariables false
set_option linter.unusedSimpArgs false
section
variable (l : List Int) (hn : 2 ≤ l.length) (hn2 : l.length ≤ 12) (hr : ∀ j, j < l.length → -1 ≤ l.getD j 0 ∧ l.getD j 0 ≤ 999)
include hn hn2 hr
theorem prCosts_ev : Ev (fun k => spec_prCosts.f k l) (costsV l) := by
  unfold spec_prCosts.f
  have := Ev.up0 l.length (fun q => cosTo l q) (fun k s q => spec_prCosts.l0 k s l (l.length : Int) q l) (costsV l) (fun q hq h => ?_) (Ev.end_ fun k => ?_)
  · simpa [cosTo, idxsTo] using this
  · have hv := hr q hq
    rw [cosTo_succ] at h
    by_cases hf : l.getD q 0 = -1
    · rw [if_neg (by rw [posP, hf]; decide), List.append_nil] at h
      refine Ev.one h fun k => ?_
      rw [spec_prCosts.l0, if_pos (by omega), if_pos (by omega), if_pos (by omega), rd_nat, if_pos hf, wrap_next (n := l.length) hq (by omega)]
    · rw [if_pos (by rw [posP]; exact decide_eq_true (by omega))] at h
      refine Ev.one h fun k => ?_
      obtain ⟨key, hkey⟩ : ∃ key : Nat, l.getD q 0 = key := ⟨(l.getD q 0).toNat, by omega⟩
      have hlen := cosTo_len l q
      rw [spec_prCosts.l0, if_pos (by omega), if_pos (by omega), if_pos (by omega), rd_nat, if_neg hf, hkey, prCost_eq (by omega) (by omega) (by omega) hq, Option.bind_some, if_pos (by omega), wrap_next (n := l.length) hq (by omega)]
      rw [cellC, Int.toNat_natCast, hkey, Int.toNat_natCast]
  · rw [spec_prCosts.l0, if_neg (by omega)]; rfl
theorem tcosts_ev : Ev (fun k => impl_Table_costs.f k l) (costsV l) := by
  unfold impl_Table_costs.f
  have hu : impl_Table_used.f l = some (idxsTo posP l l.length) := by unfold impl_Table_used.f; rw [if_pos (by omega)]
  simp only [hu, Option.bind_some]
  obtain ⟨U, hU⟩ : ∃ U, U = idxsTo posP l l.length := ⟨_, rfl⟩
  have hUl : U.length ≤ l.length := by rw [hU]; exact idxsTo_len _ _ _
  have hmem : ∀ x ∈ U, ∃ j : Nat, x = j ∧ j < l.length ∧ posP (l.getD j 0) = true := fun x hx => (idxsTo_mem _ _ _ _).mp (hU ▸ hx)
  have hR : costsV l = U.map (cellC l) := by rw [costsV, cosTo, hU]
  rw [hR, ← hU]
  have := Ev.up0 U.length (fun q => (U.take q).map (cellC l)) (fun k s q => impl_Table_costs.l0 k s U (U.length : Int) q l) (U.map (cellC l)) (fun q hq h => Ev.one h fun k => ?_) (Ev.end_ fun k => ?_)
  · simpa using this
  · obtain ⟨j, h1, h2, h3⟩ := hmem (U.getD q 0) (by rw [List.getD_eq_getElem?_getD, List.getElem?_eq_getElem hq]; exact List.getElem_mem hq)
    rw [posP, decide_eq_true_eq] at h3
    have hv := hr j h2
    obtain ⟨key, hkey⟩ : ∃ key : Nat, l.getD j 0 = key := ⟨(l.getD j 0).toNat, by omega⟩
    rw [impl_Table_costs.l0, if_pos (by omega), if_pos (by omega), if_pos (by omega), rd_nat, h1, tcost_eq (by omega) (by omega) h2 hkey, Option.bind_some, if_pos (by rw [List.length_map, List.length_take]; omega), wrap_next (n := U.length) hq (by omega), take_succ_getD hq, List.map_append, h1]
    rw [List.map_cons, List.map_nil, cellC, Int.toNat_natCast, hkey, Int.toNat_natCast]
  · rw [impl_Table_costs.l0, if_neg (by omega), List.take_length]
end
end Go.Proofs.Ytfblohigbdomjaa.G
namespace Go.Proofs.Ytfblohigbdomjaa.G
open Go.RowKit Go.Proofs.YtfblohigbdomjaaW.PrintWords Go.Proofs.YtfblohigbdomjaaW.PrintLast Go.Proofs.YtfblohigbdomjaaW.PrintMore
set_option linter.unusedVariables false
set_option linter.unusedSimpArgs false
theorem getD_mem {l : List Int} {i : Nat} (h : i < l.length) : l.getD i 0 ∈ l := by
  rw [List.getD_eq_getElem?_getD, List.getElem?_eq_getElem h]; exact List.getElem_mem h
theorem getD_get {l : List Int} {i : Nat} (h : i < l.length) : l.getD i 0 = l[i] := by
  rw [List.getD_eq_getElem?_getD, List.getElem?_eq_getElem h]; rfl
theorem sortZ_perm (l : List Int) : (sortZ l).Perm l := List.mergeSort_perm l _
theorem sortZ_le (l : List Int) : (sortZ l).Pairwise (· ≤ ·) := by
  have h := List.pairwise_mergeSort (le := fun x y : Int => decide (x ≤ y)) (fun a b c => by simp; omega) (fun a b => by simp; omega) l
  exact h.imp (fun h => by simpa using h)
theorem tbl_dist {l : List Int} (h : tblB l = true) : ∀ i j, i < j → j < l.length → 0 ≤ l.getD i 0 → l.getD i 0 ≠ l.getD j 0 := by
  have hok : okFrom l l.length 0 = true := by
    unfold tblB at h
    simp only [Bool.and_eq_true] at h
    exact h.2
  have hall : ∀ (d i : Nat), i + d = l.length → okFrom l d i = true → ∀ j, i ≤ j → j < l.length → okCell l j = true := by
    intro d
    induction d with
    | zero => intro i hd _ j h1 h2; omega
    | succ d ih =>
      intro i hd hk j h1 h2
      rw [okFrom, Bool.and_eq_true] at hk
      by_cases e : j = i
      · rw [e]; exact hk.1
      · exact ih (i + 1) (by omega) hk.2 j (by omega) h2
  intro i j hij hj h0 e
  have hc := hall l.length 0 (by omega) hok j (Nat.zero_le _) hj
  unfold okCell at hc
  rw [Bool.or_eq_true, Bool.and_eq_true] at hc
  rcases hc with hc | hc
  · rw [decide_eq_true_eq] at hc; omega
  · have h1 := hc.1
    rw [Bool.not_eq_true', decide_eq_false_iff_not] at h1
    apply h1
    rw [← e, getD_get (by omega : i < l.length)]
    exact List.mem_take_iff_getElem.mpr ⟨i, by omega, rfl⟩
theorem keysZ_eq (l : List Int) : keysZ l = (sortZ l).filter fun x => decide (0 ≤ x) := by
  unfold keysZ
  congr 1
  funext x
  unfold negKey
  rw [Bool.eq_iff_iff]
  simp
theorem keysZ_perm (l : List Int) : (keysZ l).Perm (l.filter fun x => decide (0 ≤ x)) := by
  rw [keysZ_eq]
  exact (sortZ_perm l).filter _
theorem keys_f {l : List Int} (h : tblB l = true) : impl_Table_keys.f l = some (keysZ l) := by
  obtain ⟨h1, h2, h3, h4⟩ := tblB_parts h
  unfold impl_Table_keys.f
  rw [if_pos ⟨by omega, by omega⟩]
def ndFrom (l : List Int) : Nat → Nat → Bool
  | 0, _ => true
  | d + 1, i => !decide (l.getD i 0 ∈ l.take i) && ndFrom l d (i + 1)
theorem ndFrom_iff (l : List Int) : ∀ (d i : Nat), i + d = l.length → (ndFrom l d i = true ↔ ∀ j, i ≤ j → j < l.length → l.getD j 0 ∉ l.take j)
  | 0, i, h => by simp [ndFrom]; omega
  | d + 1, i, h => by
    rw [ndFrom, Bool.and_eq_true, Bool.not_eq_true', decide_eq_false_iff_not, ndFrom_iff l d (i + 1) (by omega)]
    constructor
    · rintro ⟨h1, h2⟩ j hj hl
      by_cases e : j = i
      · rw [e]; exact h1
      · exact h2 j (by omega) hl
    · intro h2
      exact ⟨h2 i (Nat.le_refl _) (by omega), fun j hj hl => h2 j (by omega) hl⟩
theorem nd_nodup (l : List Int) : ndFrom l l.length 0 = decide l.Nodup := by
  rw [Bool.eq_iff_iff, ndFrom_iff l l.length 0 (by omega), decide_eq_true_iff]
  constructor
  · intro h
    unfold List.Nodup
    rw [List.pairwise_iff_getElem]
    intro i j hi hj hij e
    apply h j (Nat.zero_le _) hj
    rw [getD_get hj, ← e]
    exact List.mem_take_iff_getElem.mpr ⟨i, by omega, rfl⟩
  · intro h j _ hj hm
    obtain ⟨i, hi, e⟩ := List.mem_take_iff_getElem.mp hm
    unfold List.Nodup at h
    rw [List.pairwise_iff_getElem] at h
    rw [getD_get hj] at e
    exact h i j (by omega) hj (by omega) e
theorem compact_nodup (l : List Int) : decide ((Go.Lib.compact (sortZ l)).length = l.length) = decide l.Nodup := by
  rw [Bool.eq_iff_iff, decide_eq_true_iff, decide_eq_true_iff]
  have hs := sortZ_le l
  have hsl := sortZ_len l
  rw [← (sortZ_perm l).nodup_iff]
  obtain ⟨s, hse⟩ : ∃ s, s = sortZ l := ⟨_, rfl⟩
  rw [← hse] at hs hsl ⊢
  rw [← hsl]
  unfold Go.Lib.compact Go.Lib.compactUpTo
  rw [List.length_map]
  have e1 : ((List.range s.length).filter (Go.Lib.keeps s.toArray)).length = s.length ↔ ∀ j ∈ List.range s.length, Go.Lib.keeps s.toArray j = true := by
    have := List.length_filter_eq_length_iff (p := Go.Lib.keeps s.toArray) (l := List.range s.length)
    rw [List.length_range] at this
    exact this
  rw [e1]
  have gb : ∀ j, j < s.length → s.toArray[j]! = s.getD j 0 := fun j hj => by
    rw [getElem!_pos s.toArray j (by simpa using hj), getD_get hj]; simp
  rw [List.pairwise_iff_getElem] at hs
  constructor
  · intro h
    unfold List.Nodup
    rw [List.pairwise_iff_getElem]
    intro i j hi hj hij e
    have hk := h j (List.mem_range.mpr hj)
    unfold Go.Lib.keeps at hk
    rw [decide_eq_true_iff, gb j hj, gb (j - 1) (by omega), getD_get hj, getD_get (by omega : j - 1 < s.length)] at hk
    rcases hk with hk | hk
    · omega
    · by_cases e2 : i = j - 1
      · subst e2; exact hk e.symm
      · have a1 := hs i (j - 1) hi (by omega) (by omega)
        have a2 := hs (j - 1) j (by omega) hj (by omega)
        omega
  · intro h j hj
    have hj := List.mem_range.mp hj
    unfold Go.Lib.keeps
    rw [decide_eq_true_iff]
    by_cases e : j = 0
    · exact Or.inl e
    · refine Or.inr ?_
      rw [gb j hj, gb (j - 1) (by omega), getD_get hj, getD_get (by omega : j - 1 < s.length)]
      unfold List.Nodup at h
      rw [List.pairwise_iff_getElem] at h
      exact fun e2 => h (j - 1) j (by omega) hj (by omega) e2.symm
def keysB (l : List Int) (a : Int) : Bool := decide (2 ≤ a ∧ a ≤ 12) && decide ((l.length : Int) < a) && (l.all fun x => decide (0 ≤ x ∧ x ≤ 999)) && decide l.Nodup
theorem areKeysB_eq (l : List Int) (a : Int) : areKeysB l a = keysB l a := by
  unfold areKeysB keysB
  rw [compact_nodup]
  congr 3
  funext x
  rw [Bool.eq_iff_iff]; simp
theorem areKeys_f (l : List Int) (a : Int) (hn : l.length ≤ 1048576) : impl_areKeys.f l a = some (keysB l a) := by
  unfold impl_areKeys.f
  rw [if_pos hn, areKeysB_eq]
theorem keysB_parts {l : List Int} {a : Int} (h : keysB l a = true) : 2 ≤ a ∧ a ≤ 12 ∧ (l.length : Int) < a ∧ (∀ x ∈ l, 0 ≤ x ∧ x ≤ 999) ∧ l.Nodup := by
  unfold keysB at h
  simp only [Bool.and_eq_true, decide_eq_true_eq, List.all_eq_true] at h
  exact ⟨h.1.1.1.1, h.1.1.1.2, h.1.1.2, h.1.2, h.2⟩
theorem prKeys_ev (l : List Int) (a : Int) (hn : l.length ≤ 1048576) : Ev (fun k => spec_prKeys.f k a l) (keysB l a) := by
  unfold spec_prKeys.f keysB
  simp only [prSize_eq, Option.bind_some]
  have stop : Ev (fun k => spec_prKeys.j0 k l true) false := Ev.end_ fun k => by rw [spec_prKeys.j0, if_pos rfl]
  by_cases h1 : 2 ≤ a ∧ a ≤ 12
  · rw [decide_eq_true h1]
    simp only [if_true, Bool.true_and]
    by_cases h2 : (l.length : Int) ≥ a
    · rw [decide_eq_false (by omega : ¬ (l.length : Int) < a)]
      simp only [h2, if_true, Bool.false_and]
      exact stop
    · rw [decide_eq_true (by omega : (l.length : Int) < a)]
      simp only [h2, if_false, Bool.true_and]
      refine Ev.bind (l1All_ev l 0 999 (by omega)) ?_
      cases h3 : (l.all fun x => decide (0 ≤ x ∧ x ≤ 999)) with
      | false => simp only [Bool.not_false, Bool.false_and]; exact stop
      | true =>
        simp only [Bool.not_true, Bool.true_and]
        refine Ev.step (f := fun k => spec_prKeys.l0 k l l (l.length : Int) 0) (fun k => by rw [spec_prKeys.j0, if_neg (by decide)]) ?_
        rw [← nd_nodup]
        have loop : ∀ (d i : Nat), i + d = l.length → Ev (fun k => spec_prKeys.l0 k l l (l.length : Int) (i : Int)) (ndFrom l d i) := by
          intro d
          induction d with
          | zero => intro i hd; exact Ev.end_ fun k => by rw [spec_prKeys.l0, if_neg (by omega)]; rfl
          | succ d ih =>
            intro i hd
            have hi : i < l.length := by omega
            rw [ndFrom]
            refine Ev.step (f := fun k => (spec_l1Has.f k (l.take i) (l.getD i 0)).bind fun t368 => (if t368 = true then (some false) else (spec_prKeys.l0 k l l (l.length : Int) ((i + 1 : Nat) : Int)))) (fun k => by
              rw [spec_prKeys.l0, if_pos (by omega), if_pos (by omega), if_pos (by omega), if_pos (by omega), rd_nat, Int.toNat_natCast, wrap_next (n := l.length) hi (by omega)]) ?_
            refine Ev.bind (l1Has_ev _ _ (by simp; omega)) ?_
            cases hh : decide (l.getD i 0 ∈ l.take i) with
            | true => simp only [if_true, Bool.not_true, Bool.false_and]; exact Ev.now _
            | false => simp only [Bool.false_eq_true, if_false, Bool.not_false, Bool.true_and]; exact ih (i + 1) (by omega)
        exact loop l.length 0 (by omega)
  · rw [decide_eq_false h1]
    simp only [Bool.false_eq_true, if_false, Bool.false_and]
    exact stop
theorem same_loop (F : Nat → List Int → List Int → Int → Int → Option Bool) (hF : ∀ k x0 x1 x12 x13, F (k + 1) x0 x1 x12 x13 = if x13 < x12 then (if 0 ≤ x13 then (if x13 < (x0.length : Int) then (if x13 < (x1.length : Int) then (if (rd x0 x13) = (rd x1 x13) then (F k x0 x1 x12 (wrap64 (x13 + 1))) else (some false)) else (none)) else (none)) else (none)) else (some true))
    (a b : List Int) (hl : a.length = b.length) (hn : a.length ≤ 1000000) : ∀ (d i : Nat), i + d = a.length → Ev (fun k => F k a b (a.length : Int) (i : Int)) (decide (a.drop i = b.drop i)) := by
  intro d
  induction d with
  | zero =>
    intro i hd
    refine Ev.end_ fun k => ?_
    rw [hF, if_neg (by omega), List.drop_of_length_le (by omega), List.drop_of_length_le (by omega)]
    simp
  | succ d ih =>
    intro i hd
    rw [drop_getD (l := a) (i := i) (by omega), drop_getD (l := b) (i := i) (by omega)]
    by_cases h : a.getD i 0 = b.getD i 0
    · have := ih (i + 1) (by omega)
      rw [h]
      simp only [List.cons.injEq, true_and]
      refine Ev.one this fun k => ?_
      rw [hF, if_pos (by omega), if_pos (by omega), if_pos (by omega), if_pos (by omega), rd_nat, rd_nat, if_pos h, wrap_next (n := a.length) (by omega) (by omega)]
    · refine Ev.end_ fun k => ?_
      rw [hF, if_pos (by omega), if_pos (by omega), if_pos (by omega), if_pos (by omega), rd_nat, rd_nat, if_neg h, decide_eq_false (by simp only [List.cons.injEq]; exact fun e => h e.1)]
end Go.Proofs.Ytfblohigbdomjaa.G
namespace TabT
/-- A place on a circle of n, from below 2 n. -/
def cy (n i : Nat) : Nat := if i < n then i else i - n
theorem cy_mod {n i : Nat} (h : i < 2 * n) : i % n = cy n i := by
  unfold cy
  split
  · exact Nat.mod_eq_of_lt ‹_›
  · rw [Nat.mod_eq_sub_mod (by omega), Nat.mod_eq_of_lt (by omega)]
theorem cy_lt {n i : Nat} (h : i < 2 * n) : cy n i < n := by unfold cy; split <;> omega
/-- Is the cell used? -/
def us (t : List Int) (i : Nat) : Bool := decide (0 ≤ t.getD i (-1))
theorem us_lt {t : List Int} {i : Nat} (h : us t i = true) : i < t.length := by
  rcases Nat.lt_or_ge i t.length with h1 | h1
  · exact h1
  · rw [us, List.getD_eq_getElem?_getD, List.getElem?_eq_none h1] at h; simp at h
theorem getD_set (t : List Int) (p i : Nat) (k d : Int) (hp : p < t.length) : (t.set p k).getD i d = if i = p then k else t.getD i d := by
  rw [List.getD_eq_getElem?_getD, List.getElem?_set, List.getD_eq_getElem?_getD]
  by_cases e : p = i
  · subst e; simp [hp]
  · simp [e, Ne.symm e]
theorem us_set (t : List Int) (p i : Nat) (k : Int) (hp : p < t.length) (hk : 0 ≤ k) : us (t.set p k) i = (decide (i = p) || us t i) := by
  unfold us
  rw [getD_set _ _ _ _ _ hp]
  by_cases e : i = p
  · simp [e, hk]
  · simp [e]
/-- The first free cell from a on: how far it is. -/
def ffFrom (t : List Int) (a : Nat) : Nat → Nat → Nat
  | 0, d => d
  | k + 1, d => if us t (cy t.length (a + d)) = true then ffFrom t a k (d + 1) else d
def ff (t : List Int) (a : Nat) : Nat := ffFrom t a t.length 0
theorem ffFrom_eq (t : List Int) (a : Nat) (e : Nat) (hf : us t (cy t.length (a + e)) = false) :
    ∀ (k d : Nat), d ≤ e → e < d + k → (∀ m, d ≤ m → m < e → us t (cy t.length (a + m)) = true) → ffFrom t a k d = e
  | 0, d, h1, h2, _ => by omega
  | k + 1, d, h1, h2, hu => by
    unfold ffFrom
    by_cases c : d = e
    · subst c; rw [hf]; simp
    · rw [if_pos (hu d (Nat.le_refl _) (by omega))]
      exact ffFrom_eq t a e hf k (d + 1) (by omega) (by omega) (fun m h3 h4 => hu m (by omega) h4)
theorem ff_eq {t : List Int} {a e : Nat} (he : e < t.length) (hf : us t (cy t.length (a + e)) = false) (hu : ∀ m, m < e → us t (cy t.length (a + m)) = true) : ff t a = e :=
  ffFrom_eq t a e hf _ 0 (Nat.zero_le _) (by omega) (fun m _ h => hu m h)
/-- A least number. -/
theorem least_nat {p : Nat → Prop} [DecidablePred p] : ∀ (N : Nat), p N → ∃ e, e ≤ N ∧ p e ∧ ∀ m, m < e → ¬ p m
  | 0, h => ⟨0, Nat.le_refl _, h, fun m hm => absurd hm (Nat.not_lt_zero _)⟩
  | N + 1, h => by
    by_cases hx : ∃ m, m ≤ N ∧ p m
    · obtain ⟨m, hm, hp⟩ := hx
      obtain ⟨e, he, hpe, hle⟩ := least_nat m hp
      exact ⟨e, by omega, hpe, hle⟩
    · exact ⟨N + 1, Nat.le_refl _, h, fun m hm hp => hx ⟨m, by omega, hp⟩⟩
/-- There is a free cell. -/
def Free (t : List Int) : Prop := ∃ i, i < t.length ∧ us t i = false
end TabT
