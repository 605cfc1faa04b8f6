/- The law FnInsertAndRemove: part 5 of the printed functions and the facts on them that its row leans on (merged by this session's slim.py). -/
import Derived.Test.YtjhpnihlmnlehaaZFnInsertAndRemove4
set_option linter.unusedVariables false
set_option linter.unusedSimpArgs false
namespace Go.Proofs.Ytjhpnihlmnlehaa.G
open Go.RowKit Go.Proofs.YtjhpnihlmnlehaaW.PrintWords Go.Proofs.YtjhpnihlmnlehaaW.PrintLast Go.Proofs.YtjhpnihlmnlehaaW.PrintMore
attribute [local go_sem] max2_int min2_int max_two min_two max_three min_three max_four min_four   -- for this text's walks alone
/-! ### laws_FnInsertAndRemove.calls -/
set_option maxHeartbeats 8000000 in
set_option maxRecDepth 100000 in
theorem laws_FnInsertAndRemove.calls (k : Nat) (A0 : Option Addr) (c0 : Nat) (l0 : List Int) (A1 : Option Addr) (c1 : Nat) (l1 : List Int) (r : Bool) (w : World) (hr0 : Kd.C (Kd.int .u8) w A0 l0.length l0) (hc0 : l0.length ≤ c0) (hr1 : Kd.C (Kd.int .u8) w A1 l1.length l1) (hc1 : l1.length ≤ c1) (h : laws_FnInsertAndRemove.f k l0 l1 = some r) :
  Calls Try.prog 3 #[.slice A0 l0.length c0, .slice A1 l1.length c1] w fun e w' => e = .returned (.bool r) ∧ Below w.heap.size w w' := by
 have hu26 := Try.underlying26
 have HR0 := aS_ hr0
 have HC0 := aS_ hc0
 clear hr0 hc0
 have HR1 := aS_ hr1
 have HC1 := aS_ hc1
 clear hr1 hc1
 have HB := aS_ (Below.refl w.heap.size w)
 have H : ((laws_big.f l0 l1).bind fun t447 => (if t447 = true then (some true) else ((spec_DrawInsertKey.f k l0).bind fun bt448 => ((impl_InsertKey.f k bt448.1 bt448.2).bind fun bt453 => ((spec_InsertKey.f k bt448.1 bt448.2).bind fun bt459 => (if (bt453.2.2 != bt459.2.2) = true then (laws_FnInsertAndRemove.j0 k l1 bt448.2 bt453.2.1 bt453.2.2 true bt448.1 bt453.1) else ((laws_jTable.f k bt453.1 bt459.1).bind fun t465 => (if t465 = true then (laws_FnInsertAndRemove.j0 k l1 bt448.2 bt453.2.1 bt453.2.2 (bt453.2.1 != bt459.2.1) bt448.1 bt453.1) else (laws_FnInsertAndRemove.j0 k l1 bt448.2 bt453.2.1 bt453.2.2 true bt448.1 bt453.1))))))))) = some r := h
 clear h
 replace H := Option.bind_eq_some_iff.mp H
 obtain ⟨t447, A30, H⟩ := H
 have A3 := aS_ A30
 clear A30
 by_cases c4 : t447 = true
 ·subst c4
  rw [if_pos rfl] at H
  obtain rfl := Option.some.inj H
  go_enter Try.func3, Try.ntmps3
  go_wp2_with (first | ((with_reducible refine gate_callee (f := 4) rfl ?_); refine goesL_ (some 45) rfl rfl Try.func4 (by kernel_rfl) rfl #[.slice A0 l0.length c0, .slice A1 l1.length c1] rfl aR_ ?_; (with_reducible refine (laws_big.calls _ _ l0 _ _ l1 true _ ?side1 ?side2 ?side3 ?side4 A3.out).mono ?_); (case side1 => repeat (first | exact HR0.out | (with_reducible refine Kd.C_alloc ?_ _) | (with_reducible refine Kd.C_drewN ?_ _) | (with_reducible refine Kd.C_drew ?_))); (case side2 => exact HC0.out); (case side3 => repeat (first | exact HR1.out | (with_reducible refine Kd.C_alloc ?_ _) | (with_reducible refine Kd.C_drewN ?_ _) | (with_reducible refine Kd.C_drew ?_))); (case side4 => exact HC1.out); rintro e w' ⟨rfl, ⟨nd, rfl⟩⟩; refine ⟨_, rfl, ?_⟩))
  go_ret
  exact ⟨eR_, bb_ HB⟩
 ·as_aux_lemma =>
  replace c4 := Bool.eq_false_iff.mpr c4
  subst c4
  rw [if_neg (show ¬ (false = true) by decide)] at H
  replace H := Option.bind_eq_some_iff.mp H
  obtain ⟨⟨t448, t451⟩, A50, H⟩ := H
  have A5 := aS_ A50
  clear A50
  replace H := Option.bind_eq_some_iff.mp H
  obtain ⟨⟨t453, t456, t457⟩, A60, H⟩ := H
  have A6 := aS_ A60
  clear A60
  replace H := Option.bind_eq_some_iff.mp H
  obtain ⟨⟨t459, t462, t463⟩, A70, H⟩ := H
  have A7 := aS_ A70
  clear A70
  have HC8 := aS_ H
  clear H
  go_enter Try.func3, Try.ntmps3
  go_upto_region 6 with (first | ((with_reducible refine gate_callee (f := 4) rfl ?_); refine goesL_ (some 45) rfl rfl Try.func4 (by kernel_rfl) rfl #[.slice A0 l0.length c0, .slice A1 l1.length c1] rfl aR_ ?_; (with_reducible refine (laws_big.calls _ _ l0 _ _ l1 false _ ?side1 ?side2 ?side3 ?side4 A3.out).mono ?_); (case side1 => repeat (first | exact HR0.out | (with_reducible refine Kd.C_alloc ?_ _) | (with_reducible refine Kd.C_drewN ?_ _) | (with_reducible refine Kd.C_drew ?_))); (case side2 => exact HC0.out); (case side3 => repeat (first | exact HR1.out | (with_reducible refine Kd.C_alloc ?_ _) | (with_reducible refine Kd.C_drewN ?_ _) | (with_reducible refine Kd.C_drew ?_))); (case side4 => exact HC1.out); rintro e w' ⟨rfl, ⟨nd, rfl⟩⟩; refine ⟨_, rfl, ?_⟩) | ((with_reducible refine gate_callee (f := 5) rfl ?_); refine goesL_ (some 48) rfl rfl Try.func5 (by kernel_rfl) rfl #[.slice A0 l0.length c0] rfl aR_ ?_; (with_reducible refine (spec_DrawInsertKey.calls k _ _ l0 t448 t451 _ ?side1 ?side2 A5.out).mono ?_); (case side1 => repeat (first | exact HR0.out | (with_reducible refine Kd.C_alloc ?_ _) | (with_reducible refine Kd.C_drewN ?_ _) | (with_reducible refine Kd.C_drew ?_))); (case side2 => exact HC0.out); rintro e w9 ⟨v449, rfl, ho0, hb⟩; refine ⟨_, rfl, ?_⟩; have HO450 := aS_ (Kd.R_lower ho0 (below_size (bb_ HB))); replace HB := bE_ HB hb; (try clear hb); (try clear ho0)) | ((with_reducible refine gate_dst (N := 5) rfl ?_); (try (refine gate_guard (by rfl) ?_; dsimp only)); refine box_event ?hg (N := 5) ?hd (cs := #[.slice none 0 0]) (t := 26) ?hr ?_; (case hd => rfl); (case hg => rfl); (case hr => first | (go_simp; done) | (go_simp; rfl)); intro gb452 hg w10 hbox hb; replace HO450 := aS_ (Kd.R_below (rr_ HO450) hb); have BK452 := aS_ (hbox); have GW452 := gE_ HB hg; have GE452 := gE_ HB hg; replace HB := bE_ HB hb; clear hb hbox hg; obtain ⟨Ao11, co11, eo11⟩ := Kd.R_slice HO450.out; subst eo11; have hcz12_0 : w10.cell? ⟨gb452, 0, none⟩ = some (.slice none 0 0) := (blk_cell BK452.out 0).trans rfl; have hfz12_0 := blk_frozen BK452.out 0) | ((with_reducible refine gate_callee (f := 6) rfl ?_); refine goesL_ (some 54) rfl rfl Try.func6 (by kernel_rfl) rfl #[.agg #[.slice Ao11 t448.length co11], .int .i64 t451] rfl aR_ ?_; (with_reducible refine (impl_InsertKey.calls k _ _ t448 t451 t453 t456 t457 _ ?side1 ?side2 A6.out).mono ?_); (case side1 => refine (Kd.R_reads' (e := 3) (base := w.heap.size) (ok := fun k_ => True) (n := t448.length) (c := co11) ?_).2.2; exact (by (with_reducible repeat (first | apply rA_ | apply rN_ | apply rD_)); exact (Kd.R_mono (Kd.R_far (p := ⟨gb452, 0, none⟩) (Kd.R_types HO450.out BK452.out (by decide)) (fun _ hk => hk.2) (.slice Ao11 t448.length co11)) (fun _ h_ => h_.1)))); (case side2 => exact (Kd.R_reads' HO450.out).2.1); rintro e w13 ⟨v454, rfl, ho0, hb⟩; refine ⟨_, rfl, ?_⟩; have HO455 := aS_ (Kd.R_lower (Kd.R_new' ho0 (Kd.R_lt (by (with_reducible repeat (first | apply rA_ | apply rN_ | apply rD_)); exact (Kd.R_mono (Kd.R_far (p := ⟨gb452, 0, none⟩) (Kd.R_types HO450.out BK452.out (by decide)) (fun _ hk => hk.2) (.slice Ao11 t448.length co11)) (fun _ h_ => h_.1))))) (below_size (bb_ HB))); replace HO450 := aS_ (Kd.R_elder' (by (with_reducible repeat (first | apply rA_ | apply rN_ | apply rD_)); exact (Kd.R_mono (Kd.R_far (p := ⟨gb452, 0, none⟩) (Kd.R_types HO450.out BK452.out (by decide)) (fun _ hk => hk.2) (.slice Ao11 t448.length co11)) (fun _ h_ => h_.1))) (Kd.R_base ho0) hb); replace BK452 := aS_ (blk_below (g := gb452) (o := .cells #[.slice Ao11 t448.length co11] 26 (0, 0)) (by (with_reducible repeat (first | refine kN_ ?_ _ | refine kD_ ?_ | refine kA_ ?_ _)); refine blk_put (cs := #[.slice none 0 0]) ?_ 0 _ rfl; (with_reducible repeat (first | refine kN_ ?_ _ | refine kD_ ?_ | refine kA_ ?_ _)); exact BK452.out) hb); replace HB := bE_ HB hb; (try clear hb); (try clear hk); (try clear ho0)) | ((with_reducible refine gate_dst (N := 7) rfl ?_); (try (refine gate_guard (by rfl) ?_; dsimp only)); refine box_event ?hg (N := 7) ?hd (cs := #[.slice none 0 0]) (t := 26) ?hr ?_; (case hd => rfl); (case hg => rfl); (case hr => first | (go_simp; done) | (go_simp; rfl)); intro gb458 hg w14 hbox hb; replace HO450 := aS_ (Kd.R_below (rr_ HO450) hb); replace HO455 := aS_ (Kd.R_below (rr_ HO455) hb); have BK458 := aS_ (hbox); have GW458 := gE_ HB hg; have GE458 := gE_ HB hg; replace HB := bE_ HB hb; have NB452_458 := nL_ BK452 hg; have NB458_452 := nG_ BK452 hg; replace BK452 := kO_ BK452 hb; clear hb hbox hg; obtain ⟨Ao15, co15, eo15⟩ := Kd.R_slice HO455.out; subst eo15; have hnb16 := NB458_452.out; have hnc16 := NB452_458.out; have hcz17_0 : w14.cell? ⟨gb458, 0, none⟩ = some (.slice none 0 0) := (blk_cell BK458.out 0).trans rfl; have hfz17_0 := blk_frozen BK458.out 0; have hcz18_0 : w14.cell? ⟨gb452, 0, none⟩ = some (.slice Ao11 t448.length co11) := (blk_cell BK452.out 0).trans rfl; have hfz18_0 := blk_frozen BK452.out 0) | ((with_reducible refine gate_callee (f := 7) rfl ?_); refine goesL_ (some 61) rfl rfl Try.func7 (by kernel_rfl) rfl #[.agg #[.slice Ao11 t448.length co11], .int .i64 t451] rfl aR_ ?_; (with_reducible refine (spec_InsertKey.calls k _ _ t448 t451 t459 t462 t463 _ ?side1 ?side2 A7.out).mono ?_); (case side1 => refine (Kd.R_reads' (e := 3) (base := w.heap.size) (ok := fun k_ => (True ∧ some k_ ≠ (.slice Ao15 t453.length co15 : Value).ownBlock)) (n := t448.length) (c := co11) ?_).2.2; exact (by (with_reducible repeat (first | apply rA_ | apply rN_ | apply rD_)); exact (Kd.R_mono (Kd.R_far (p := ⟨gb458, 0, none⟩) (Kd.R_types HO450.out BK458.out (by decide)) (fun _ hk => hk.2) (.slice Ao15 t453.length co15)) (fun _ h_ => h_.1)))); (case side2 => exact (Kd.R_reads' HO450.out).2.1); rintro e w19 ⟨v460, rfl, ho0, hb⟩; refine ⟨_, rfl, ?_⟩; have HO461 := aS_ (Kd.R_lower (Kd.R_new' (Kd.R_new' ho0 (Kd.R_lt (by (with_reducible repeat (first | apply rA_ | apply rN_ | apply rD_)); exact (Kd.R_mono (Kd.R_far (p := ⟨gb458, 0, none⟩) (Kd.R_types HO450.out BK458.out (by decide)) (fun _ hk => hk.2) (.slice Ao15 t453.length co15)) (fun _ h_ => h_.1))))) (Kd.R_lt (by (with_reducible repeat (first | apply rA_ | apply rN_ | apply rD_)); exact (Kd.R_mono (Kd.R_far (p := ⟨gb458, 0, none⟩) (Kd.R_types HO455.out BK458.out (by decide)) (fun _ hk => hk.2) (.slice Ao15 t453.length co15)) (fun _ h_ => h_.1))))) (below_size (bb_ HB))); replace HO450 := aS_ (Kd.R_elder' (by (with_reducible repeat (first | apply rA_ | apply rN_ | apply rD_)); exact (Kd.R_mono (Kd.R_far (p := ⟨gb458, 0, none⟩) (Kd.R_types HO450.out BK458.out (by decide)) (fun _ hk => hk.2) (.slice Ao15 t453.length co15)) (fun _ h_ => h_.1))) (Kd.R_base ho0) hb); replace HO455 := aS_ (Kd.R_elder' (by (with_reducible repeat (first | apply rA_ | apply rN_ | apply rD_)); exact (Kd.R_mono (Kd.R_far (p := ⟨gb458, 0, none⟩) (Kd.R_types HO455.out BK458.out (by decide)) (fun _ hk => hk.2) (.slice Ao15 t453.length co15)) (fun _ h_ => h_.1))) (Kd.R_base ho0) hb); replace BK452 := aS_ (blk_below (g := gb452) (o := .cells #[.slice Ao11 t448.length co11] 26 (0, 0)) (by (with_reducible repeat (first | refine kN_ ?_ _ | refine kD_ ?_ | refine kA_ ?_ _)); refine blk_far ?_ NB452_458.out _; (with_reducible repeat (first | refine kN_ ?_ _ | refine kD_ ?_ | refine kA_ ?_ _)); exact BK452.out) hb); replace BK458 := aS_ (blk_below (g := gb458) (o := .cells #[.slice Ao15 t453.length co15] 26 (0, 0)) (by (with_reducible repeat (first | refine kN_ ?_ _ | refine kD_ ?_ | refine kA_ ?_ _)); refine blk_put (cs := #[.slice none 0 0]) ?_ 0 _ rfl; (with_reducible repeat (first | refine kN_ ?_ _ | refine kD_ ?_ | refine kA_ ?_ _)); exact BK458.out) hb); replace HB := bE_ HB hb; (try clear hb); (try clear hk); (try clear ho0)) | ((with_reducible refine gate_dst (N := 10) rfl ?_); (try (refine gate_guard (by rfl) ?_; dsimp only)); refine box_event ?hg (N := 10) ?hd (cs := #[.slice none 0 0]) (t := 26) ?hr ?_; (case hd => rfl); (case hg => rfl); (case hr => first | (go_simp; done) | (go_simp; rfl)); intro gb464 hg w20 hbox hb; replace HO450 := aS_ (Kd.R_below (rr_ HO450) hb); replace HO455 := aS_ (Kd.R_below (rr_ HO455) hb); replace HO461 := aS_ (Kd.R_below (rr_ HO461) hb); have BK464 := aS_ (hbox); have GW464 := gE_ HB hg; have GE464 := gE_ HB hg; replace HB := bE_ HB hb; have NB452_464 := nL_ BK452 hg; have NB464_452 := nG_ BK452 hg; replace BK452 := kO_ BK452 hb; have NB458_464 := nL_ BK458 hg; have NB464_458 := nG_ BK458 hg; replace BK458 := kO_ BK458 hb; clear hb hbox hg; obtain ⟨Ao21, co21, eo21⟩ := Kd.R_slice HO461.out; subst eo21; have hnb22 := NB464_452.out; have hnc22 := NB452_464.out; have hnb23 := NB464_458.out; have hnc23 := NB458_464.out; have hcz24_0 : w20.cell? ⟨gb464, 0, none⟩ = some (.slice none 0 0) := (blk_cell BK464.out 0).trans rfl; have hfz24_0 := blk_frozen BK464.out 0))
  (try simp only [Act.put, List.setIfInBounds_toArray, List.set_cons_zero, List.set_cons_succ])
  go_cut [78] (fun v78 wc => ∃ (kq : Nat) (x78_7 : Bool), v78 = .bool x78_7 ∧ Aside0 (laws_FnInsertAndRemove.j0 kq l1 t451 t456 t457 x78_7 t448 t453 = some r) ∧ Aside0 (kq ≤ k) ∧ Aside0 (Kd.R (Kd.int .i64) 3 wc w.heap.size (fun k_ => some k_ ≠ ((.slice Ao15 t453.length co15) : Value).ownBlock ∧ some k_ ≠ ((.slice Ao21 t459.length co21) : Value).ownBlock) (.slice Ao11 t448.length co11) t448) ∧ Aside0 (Kd.R (Kd.int .i64) 3 wc w.heap.size (fun k_ => some k_ ≠ ((.slice Ao11 t448.length co11) : Value).ownBlock ∧ some k_ ≠ ((.slice Ao21 t459.length co21) : Value).ownBlock) (.slice Ao15 t453.length co15) t453) ∧ Aside0 (Kd.R (Kd.int .i64) 3 wc w.heap.size (fun k_ => some k_ ≠ ((.slice Ao11 t448.length co11) : Value).ownBlock ∧ some k_ ≠ ((.slice Ao15 t453.length co15) : Value).ownBlock) (.slice Ao21 t459.length co21) t459) ∧ Aside0 (wc.heap[gb452]? = some (.cells #[(.slice Ao11 t448.length co11)] 26 (0, 0))) ∧ Aside0 (wc.heap[gb458]? = some (.cells #[(.slice Ao15 t453.length co15)] 26 (0, 0))) ∧ Aside0 (wc.heap[gb464]? = some (.cells #[(.slice Ao21 t459.length co21)] 26 (0, 0))) ∧ Aside0 (Below w.heap.size w wc))
  case first =>
   have H := HC8.out
   clear HC8
   by_cases c25 : (t457 != t463) = true
   ·rw [if_pos c25] at H
    have c25b0 : (t457 != t463) = true := c25
    (try (have c25b1 : decide (t457 = t463) = false := by simpa using c25))
    (try (have c25b2 : (t457 == t463) = false := by simpa using c25))
    (try (have c25b3 : ¬ (t457 = t463) := by simpa using c25))
    clear c25
    (first | rw [c25b0] | (simp only [i64_w, i32_w]; rw [c25b0]) | skip)
    have H' := aS_ H
    clear H
    go_wp2
    go_meet
    case rel => exact ⟨_, (true), sR_, H', ⟨by first | omega | exact Nat.le_refl _⟩, ⟨by (with_reducible repeat (first | apply rA_ | apply rN_ | apply rD_)); exact Kd.R_mono (Kd.R_far (p := ⟨gb464, 0, none⟩) (Kd.R_types HO450.out BK464.out (by decide)) (fun _ hk => hk.2) (.slice Ao21 t459.length co21)) (fun _ hk => by first | exact ⟨hk.1.1.2, hk.1.2⟩ | (repeat' first | exact hk.2 | exact hk.1.2 | exact hk.1.1.2 | exact hk.1.1.1.2 | exact hk.1.1.1.1 | exact hk.1.1.1 | exact hk.1.1 | exact hk.1 | refine And.intro ?_ ?_))⟩, ⟨by (with_reducible repeat (first | apply rA_ | apply rN_ | apply rD_)); exact Kd.R_mono (Kd.R_far (p := ⟨gb464, 0, none⟩) (Kd.R_types HO455.out BK464.out (by decide)) (fun _ hk => hk.2) (.slice Ao21 t459.length co21)) (fun _ hk => by first | exact ⟨hk.1.1.2, hk.1.2⟩ | (repeat' first | exact hk.2 | exact hk.1.2 | exact hk.1.1.2 | exact hk.1.1.1.2 | exact hk.1.1.1.1 | exact hk.1.1.1 | exact hk.1.1 | exact hk.1 | refine And.intro ?_ ?_))⟩, ⟨by (with_reducible repeat (first | apply rA_ | apply rN_ | apply rD_)); exact Kd.R_mono (Kd.R_far (p := ⟨gb464, 0, none⟩) (Kd.R_types HO461.out BK464.out (by decide)) (fun _ hk => hk.2) (.slice Ao21 t459.length co21)) (fun _ hk => by first | exact ⟨hk.1.1.2, hk.1.2⟩ | (repeat' first | exact hk.2 | exact hk.1.2 | exact hk.1.1.2 | exact hk.1.1.1.2 | exact hk.1.1.1.1 | exact hk.1.1.1 | exact hk.1.1 | exact hk.1 | refine And.intro ?_ ?_))⟩, ⟨by (with_reducible repeat (first | refine kN_ ?_ _ | refine kD_ ?_ | refine kA_ ?_ _)); refine blk_far ?_ NB452_464.out _; (with_reducible repeat (first | refine kN_ ?_ _ | refine kD_ ?_ | refine kA_ ?_ _)); exact BK452.out⟩, ⟨by (with_reducible repeat (first | refine kN_ ?_ _ | refine kD_ ?_ | refine kA_ ?_ _)); refine blk_far ?_ NB458_464.out _; (with_reducible repeat (first | refine kN_ ?_ _ | refine kD_ ?_ | refine kA_ ?_ _)); exact BK458.out⟩, ⟨by (with_reducible repeat (first | refine kN_ ?_ _ | refine kD_ ?_ | refine kA_ ?_ _)); refine blk_put (cs := #[.slice none 0 0]) ?_ 0 _ rfl; (with_reducible repeat (first | refine kN_ ?_ _ | refine kD_ ?_ | refine kA_ ?_ _)); exact BK464.out⟩, ⟨bb_ HB⟩⟩
   ·as_aux_lemma =>
    rw [if_neg c25] at H
    have c25b0 : (t457 != t463) = false := by simpa using c25
    (try (have c25b1 : decide (t457 = t463) = true := by simpa using c25))
    (try (have c25b2 : (t457 == t463) = true := by simpa using c25))
    clear c25
    (first | rw [c25b0] | (simp only [i64_w, i32_w]; rw [c25b0]) | skip)
    replace H := Option.bind_eq_some_iff.mp H
    obtain ⟨t465, A260, H⟩ := H
    have A26 := aS_ A260
    clear A260
    by_cases c27 : t465 = true
    ·as_aux_lemma =>
     subst c27
     rw [if_pos rfl] at H
     have H' := aS_ H
     clear H
     have hnb28 := NB458_452.out
     have hnc28 := NB452_458.out
     have hnb29 := NB458_464.out
     have hnc29 := NB464_458.out
     have hcz30_0 : w20.cell? ⟨gb458, 0, none⟩ = some (.slice Ao15 t453.length co15) := (blk_cell BK458.out 0).trans rfl
     have hfz30_0 := blk_frozen BK458.out 0
     have hnb31 := NB464_452.out
     have hnc31 := NB452_464.out
     have hcz32_0 : w20.cell? ⟨gb464, 0, none⟩ = some (.slice none 0 0) := (blk_cell BK464.out 0).trans rfl
     have hfz32_0 := blk_frozen BK464.out 0
     go_wp2_with (first | (go_at_call 8; (with_reducible refine (laws_jTable.calls k _ _ t453 _ _ t459 true _ ?side1 ?side2 ?side3 ?side4 A26.out).mono ?_); (case side1 => refine (Kd.R_reads' (e := 3) (base := w.heap.size) (ok := fun k_ => ((True ∧ some k_ ≠ (.slice Ao11 t448.length co11 : Value).ownBlock) ∧ some k_ ≠ (.slice Ao21 t459.length co21 : Value).ownBlock)) (n := t453.length) (c := co15) ?_).2.2; exact (by (with_reducible repeat (first | apply rA_ | apply rN_ | apply rD_)); exact (Kd.R_mono (Kd.R_far (p := ⟨gb464, 0, none⟩) (Kd.R_types HO455.out BK464.out (by decide)) (fun _ hk => hk.2) (.slice Ao21 t459.length co21)) (fun _ h_ => h_.1)))); (case side2 => exact (Kd.R_reads' HO455.out).2.1); (case side3 => refine (Kd.R_reads' (e := 3) (base := w.heap.size) (ok := fun k_ => ((True ∧ some k_ ≠ (.slice Ao11 t448.length co11 : Value).ownBlock) ∧ some k_ ≠ (.slice Ao15 t453.length co15 : Value).ownBlock)) (n := t459.length) (c := co21) ?_).2.2; exact (by (with_reducible repeat (first | apply rA_ | apply rN_ | apply rD_)); exact (Kd.R_mono (Kd.R_far (p := ⟨gb464, 0, none⟩) (Kd.R_types HO461.out BK464.out (by decide)) (fun _ hk => hk.2) (.slice Ao21 t459.length co21)) (fun _ h_ => h_.1)))); (case side4 => exact (Kd.R_reads' HO461.out).2.1); rintro e w33 ⟨rfl, hb⟩; replace HO450 := aS_ (Kd.R_below (by (with_reducible repeat (first | apply rA_ | apply rN_ | apply rD_)); exact (Kd.R_mono (Kd.R_far (p := ⟨gb464, 0, none⟩) (Kd.R_types HO450.out BK464.out (by decide)) (fun _ hk => hk.2) (.slice Ao21 t459.length co21)) (fun _ h_ => h_.1))) hb); replace HO455 := aS_ (Kd.R_below (by (with_reducible repeat (first | apply rA_ | apply rN_ | apply rD_)); exact (Kd.R_mono (Kd.R_far (p := ⟨gb464, 0, none⟩) (Kd.R_types HO455.out BK464.out (by decide)) (fun _ hk => hk.2) (.slice Ao21 t459.length co21)) (fun _ h_ => h_.1))) hb); replace HO461 := aS_ (Kd.R_below (by (with_reducible repeat (first | apply rA_ | apply rN_ | apply rD_)); exact (Kd.R_mono (Kd.R_far (p := ⟨gb464, 0, none⟩) (Kd.R_types HO461.out BK464.out (by decide)) (fun _ hk => hk.2) (.slice Ao21 t459.length co21)) (fun _ h_ => h_.1))) hb); replace BK452 := aS_ (blk_below (g := gb452) (o := .cells #[.slice Ao11 t448.length co11] 26 (0, 0)) (by (with_reducible repeat (first | refine kN_ ?_ _ | refine kD_ ?_ | refine kA_ ?_ _)); refine blk_far ?_ NB452_464.out _; (with_reducible repeat (first | refine kN_ ?_ _ | refine kD_ ?_ | refine kA_ ?_ _)); exact BK452.out) hb); replace BK458 := aS_ (blk_below (g := gb458) (o := .cells #[.slice Ao15 t453.length co15] 26 (0, 0)) (by (with_reducible repeat (first | refine kN_ ?_ _ | refine kD_ ?_ | refine kA_ ?_ _)); refine blk_far ?_ NB458_464.out _; (with_reducible repeat (first | refine kN_ ?_ _ | refine kD_ ?_ | refine kA_ ?_ _)); exact BK458.out) hb); replace BK464 := aS_ (blk_below (g := gb464) (o := .cells #[.slice Ao21 t459.length co21] 26 (0, 0)) (by (with_reducible repeat (first | refine kN_ ?_ _ | refine kD_ ?_ | refine kA_ ?_ _)); refine blk_put (cs := #[.slice none 0 0]) ?_ 0 _ rfl; (with_reducible repeat (first | refine kN_ ?_ _ | refine kD_ ?_ | refine kA_ ?_ _)); exact BK464.out) hb); replace HB := bE_ HB hb; (try clear hb); (try clear hk)))
     go_meet
     case rel => exact ⟨_, ((t456 != t462)), sR_, H', ⟨by first | omega | exact Nat.le_refl _⟩, ⟨by (with_reducible repeat (first | apply rA_ | apply rN_ | apply rD_)); exact Kd.R_mono HO450.out (fun _ hk => by first | exact ⟨hk.1.2, hk.2⟩ | (repeat' first | exact hk.2 | exact hk.1.2 | exact hk.1.1.2 | exact hk.1.1.1.2 | exact hk.1.1.1.1 | exact hk.1.1.1 | exact hk.1.1 | exact hk.1 | refine And.intro ?_ ?_))⟩, ⟨by (with_reducible repeat (first | apply rA_ | apply rN_ | apply rD_)); exact Kd.R_mono HO455.out (fun _ hk => by first | exact ⟨hk.1.2, hk.2⟩ | (repeat' first | exact hk.2 | exact hk.1.2 | exact hk.1.1.2 | exact hk.1.1.1.2 | exact hk.1.1.1.1 | exact hk.1.1.1 | exact hk.1.1 | exact hk.1 | refine And.intro ?_ ?_))⟩, ⟨by (with_reducible repeat (first | apply rA_ | apply rN_ | apply rD_)); exact Kd.R_mono HO461.out (fun _ hk => by first | exact ⟨hk.1.2, hk.2⟩ | (repeat' first | exact hk.2 | exact hk.1.2 | exact hk.1.1.2 | exact hk.1.1.1.2 | exact hk.1.1.1.1 | exact hk.1.1.1 | exact hk.1.1 | exact hk.1 | refine And.intro ?_ ?_))⟩, ⟨kk_ BK452⟩, ⟨kk_ BK458⟩, ⟨kk_ BK464⟩, ⟨bb_ HB⟩⟩
    ·as_aux_lemma =>
     replace c27 := Bool.eq_false_iff.mpr c27
     subst c27
     rw [if_neg (show ¬ (false = true) by decide)] at H
     have H' := aS_ H
     clear H
     have hnb34 := NB458_452.out
     have hnc34 := NB452_458.out
     have hnb35 := NB458_464.out
     have hnc35 := NB464_458.out
     have hcz36_0 : w20.cell? ⟨gb458, 0, none⟩ = some (.slice Ao15 t453.length co15) := (blk_cell BK458.out 0).trans rfl
     have hfz36_0 := blk_frozen BK458.out 0
     have hnb37 := NB464_452.out
     have hnc37 := NB452_464.out
     have hcz38_0 : w20.cell? ⟨gb464, 0, none⟩ = some (.slice none 0 0) := (blk_cell BK464.out 0).trans rfl
     have hfz38_0 := blk_frozen BK464.out 0
     go_wp2_with (first | (go_at_call 8; (with_reducible refine (laws_jTable.calls k _ _ t453 _ _ t459 false _ ?side1 ?side2 ?side3 ?side4 A26.out).mono ?_); (case side1 => refine (Kd.R_reads' (e := 3) (base := w.heap.size) (ok := fun k_ => ((True ∧ some k_ ≠ (.slice Ao11 t448.length co11 : Value).ownBlock) ∧ some k_ ≠ (.slice Ao21 t459.length co21 : Value).ownBlock)) (n := t453.length) (c := co15) ?_).2.2; exact (by (with_reducible repeat (first | apply rA_ | apply rN_ | apply rD_)); exact (Kd.R_mono (Kd.R_far (p := ⟨gb464, 0, none⟩) (Kd.R_types HO455.out BK464.out (by decide)) (fun _ hk => hk.2) (.slice Ao21 t459.length co21)) (fun _ h_ => h_.1)))); (case side2 => exact (Kd.R_reads' HO455.out).2.1); (case side3 => refine (Kd.R_reads' (e := 3) (base := w.heap.size) (ok := fun k_ => ((True ∧ some k_ ≠ (.slice Ao11 t448.length co11 : Value).ownBlock) ∧ some k_ ≠ (.slice Ao15 t453.length co15 : Value).ownBlock)) (n := t459.length) (c := co21) ?_).2.2; exact (by (with_reducible repeat (first | apply rA_ | apply rN_ | apply rD_)); exact (Kd.R_mono (Kd.R_far (p := ⟨gb464, 0, none⟩) (Kd.R_types HO461.out BK464.out (by decide)) (fun _ hk => hk.2) (.slice Ao21 t459.length co21)) (fun _ h_ => h_.1)))); (case side4 => exact (Kd.R_reads' HO461.out).2.1); rintro e w39 ⟨rfl, hb⟩; replace HO450 := aS_ (Kd.R_below (by (with_reducible repeat (first | apply rA_ | apply rN_ | apply rD_)); exact (Kd.R_mono (Kd.R_far (p := ⟨gb464, 0, none⟩) (Kd.R_types HO450.out BK464.out (by decide)) (fun _ hk => hk.2) (.slice Ao21 t459.length co21)) (fun _ h_ => h_.1))) hb); replace HO455 := aS_ (Kd.R_below (by (with_reducible repeat (first | apply rA_ | apply rN_ | apply rD_)); exact (Kd.R_mono (Kd.R_far (p := ⟨gb464, 0, none⟩) (Kd.R_types HO455.out BK464.out (by decide)) (fun _ hk => hk.2) (.slice Ao21 t459.length co21)) (fun _ h_ => h_.1))) hb); replace HO461 := aS_ (Kd.R_below (by (with_reducible repeat (first | apply rA_ | apply rN_ | apply rD_)); exact (Kd.R_mono (Kd.R_far (p := ⟨gb464, 0, none⟩) (Kd.R_types HO461.out BK464.out (by decide)) (fun _ hk => hk.2) (.slice Ao21 t459.length co21)) (fun _ h_ => h_.1))) hb); replace BK452 := aS_ (blk_below (g := gb452) (o := .cells #[.slice Ao11 t448.length co11] 26 (0, 0)) (by (with_reducible repeat (first | refine kN_ ?_ _ | refine kD_ ?_ | refine kA_ ?_ _)); refine blk_far ?_ NB452_464.out _; (with_reducible repeat (first | refine kN_ ?_ _ | refine kD_ ?_ | refine kA_ ?_ _)); exact BK452.out) hb); replace BK458 := aS_ (blk_below (g := gb458) (o := .cells #[.slice Ao15 t453.length co15] 26 (0, 0)) (by (with_reducible repeat (first | refine kN_ ?_ _ | refine kD_ ?_ | refine kA_ ?_ _)); refine blk_far ?_ NB458_464.out _; (with_reducible repeat (first | refine kN_ ?_ _ | refine kD_ ?_ | refine kA_ ?_ _)); exact BK458.out) hb); replace BK464 := aS_ (blk_below (g := gb464) (o := .cells #[.slice Ao21 t459.length co21] 26 (0, 0)) (by (with_reducible repeat (first | refine kN_ ?_ _ | refine kD_ ?_ | refine kA_ ?_ _)); refine blk_put (cs := #[.slice none 0 0]) ?_ 0 _ rfl; (with_reducible repeat (first | refine kN_ ?_ _ | refine kD_ ?_ | refine kA_ ?_ _)); exact BK464.out) hb); replace HB := bE_ HB hb; (try clear hb); (try clear hk)))
     go_meet
     case rel => exact ⟨_, (true), sR_, H', ⟨by first | omega | exact Nat.le_refl _⟩, ⟨by (with_reducible repeat (first | apply rA_ | apply rN_ | apply rD_)); exact Kd.R_mono HO450.out (fun _ hk => by first | exact ⟨hk.1.2, hk.2⟩ | (repeat' first | exact hk.2 | exact hk.1.2 | exact hk.1.1.2 | exact hk.1.1.1.2 | exact hk.1.1.1.1 | exact hk.1.1.1 | exact hk.1.1 | exact hk.1 | refine And.intro ?_ ?_))⟩, ⟨by (with_reducible repeat (first | apply rA_ | apply rN_ | apply rD_)); exact Kd.R_mono HO455.out (fun _ hk => by first | exact ⟨hk.1.2, hk.2⟩ | (repeat' first | exact hk.2 | exact hk.1.2 | exact hk.1.1.2 | exact hk.1.1.1.2 | exact hk.1.1.1.1 | exact hk.1.1.1 | exact hk.1.1 | exact hk.1 | refine And.intro ?_ ?_))⟩, ⟨by (with_reducible repeat (first | apply rA_ | apply rN_ | apply rD_)); exact Kd.R_mono HO461.out (fun _ hk => by first | exact ⟨hk.1.2, hk.2⟩ | (repeat' first | exact hk.2 | exact hk.1.2 | exact hk.1.1.2 | exact hk.1.1.1.2 | exact hk.1.1.1.1 | exact hk.1.1.1 | exact hk.1.1 | exact hk.1 | refine And.intro ?_ ?_))⟩, ⟨kk_ BK452⟩, ⟨kk_ BK458⟩, ⟨kk_ BK464⟩, ⟨bb_ HB⟩⟩
  case rest =>
   clear HC8
   try clear c1
   try clear c2
   try clear p2
   try clear c3
   try clear c4
   try clear c5
   try clear c6
   try clear c7
   try clear c16
   try clear c22
   try clear c23
   try clear c25
   try clear c25b0
   try clear c25b1
   try clear c25b2
   try clear c27
   try clear c28
   try clear c29
   try clear c31
   try clear c34
   try clear c35
   try clear c37
   try clear hcz12_0
   try clear hcz17_0
   try clear hcz18_0
   try clear hcz24_0
   try clear hcz30_0
   try clear hcz32_0
   try clear hcz36_0
   try clear hcz38_0
   try clear hfz12_0
   try clear hfz17_0
   try clear hfz18_0
   try clear hfz24_0
   try clear hfz30_0
   try clear hfz32_0
   try clear hfz36_0
   try clear hfz38_0
   obtain ⟨kq, x78_7, rfl, HA, HJ7, HO_453000, HO_459000, HO_465000, BK452, BK458, BK464, HB⟩ := hcut
   cases kq with
   | zero => exact absurd HA.out (by simp [laws_FnInsertAndRemove.j0])
   | succ kj7 =>
    have H := HA.out
    clear HA
    simp only [laws_FnInsertAndRemove.j0] at H
    by_cases c40 : x78_7 = true
    ·subst c40
     rw [if_pos rfl] at H
     obtain rfl := Option.some.inj H
     go_wp2
     go_ret
     exact ⟨eR_, bb_ HB⟩
    ·as_aux_lemma =>
     replace c40 := Bool.eq_false_iff.mpr c40
     subst c40
     rw [if_neg (show ¬ (false = true) by decide)] at H
     have HC41 := aS_ H
     clear H
     go_upto_if 79 with (fail)
     go_cut [] (fun wc => ∃ (kq : Nat), Aside0 (laws_FnInsertAndRemove.j1 kq l1 = some r) ∧ Aside0 (kq ≤ kj7) ∧ Aside0 (Kd.R (Kd.int .i64) 3 wc w.heap.size (fun k_ => some k_ ≠ ((.slice Ao15 t453.length co15) : Value).ownBlock ∧ some k_ ≠ ((.slice Ao21 t459.length co21) : Value).ownBlock) (.slice Ao11 t448.length co11) t448) ∧ Aside0 (Kd.R (Kd.int .i64) 3 wc w.heap.size (fun k_ => some k_ ≠ ((.slice Ao11 t448.length co11) : Value).ownBlock ∧ some k_ ≠ ((.slice Ao21 t459.length co21) : Value).ownBlock) (.slice Ao15 t453.length co15) t453) ∧ Aside0 (Kd.R (Kd.int .i64) 3 wc w.heap.size (fun k_ => some k_ ≠ ((.slice Ao11 t448.length co11) : Value).ownBlock ∧ some k_ ≠ ((.slice Ao15 t453.length co15) : Value).ownBlock) (.slice Ao21 t459.length co21) t459) ∧ Aside0 (wc.heap[gb452]? = some (.cells #[(.slice Ao11 t448.length co11)] 26 (0, 0))) ∧ Aside0 (wc.heap[gb458]? = some (.cells #[(.slice Ao15 t453.length co15)] 26 (0, 0))) ∧ Aside0 (wc.heap[gb464]? = some (.cells #[(.slice Ao21 t459.length co21)] 26 (0, 0))) ∧ Aside0 (Below w.heap.size w wc))
     case first =>
      have H := HC41.out
      clear HC41
      by_cases c42 : t457 = true
      focus
       subst c42
       rw [if_pos rfl] at H
       replace H := Option.bind_eq_some_iff.mp H
       obtain ⟨⟨t466, t467, t468⟩, A430, H⟩ := H
       have A43 := aS_ A430
       clear A430
       replace H := Option.bind_eq_some_iff.mp H
       obtain ⟨⟨t469, t472⟩, A440, H⟩ := H
       have A44 := aS_ A440
       clear A440
       replace H := Option.bind_eq_some_iff.mp H
       obtain ⟨⟨t474, t477⟩, A450, H⟩ := H
       have A45 := aS_ A450
       clear A450
       replace H := Option.bind_eq_some_iff.mp H
       obtain ⟨⟨t478, t481⟩, A460, H⟩ := H
       have A46 := aS_ A460
       clear A460
       replace H := Option.bind_eq_some_iff.mp H
       obtain ⟨⟨t482, t483⟩, A470, H⟩ := H
       have A47 := aS_ A470
       clear A470
       replace H := Option.bind_eq_some_iff.mp H
       obtain ⟨⟨t484, t485⟩, A480, H⟩ := H
       have A48 := aS_ A480
       clear A480
       by_cases c49 : t468 = true
       focus
        subst c49
        rw [if_pos rfl] at H
        by_cases c50 : t466 = t456
        focus
         rw [if_pos c50] at H
         have c50b0 : (t466 == t456) = true := beq_iff_eq.mpr c50
         have c50b1 : (t466 != t456) = false := bne_eq_false_iff_eq.mpr c50
         clear c50
         (first | rw [c50b0] | (simp only [i64_w, i32_w]; rw [c50b0]) | skip)
         by_cases c51 : t472 = true
         focus
          subst c51
          rw [if_pos rfl] at H
          by_cases c52 : t477 = true
          focus
           subst c52
           rw [if_pos rfl] at H
           by_cases c53 : t481 = true
           focus
            subst c53
            rw [if_pos rfl] at H
            replace H := Option.bind_eq_some_iff.mp H
            obtain ⟨t486, A540, H⟩ := H
            have A54 := aS_ A540
            clear A540
            by_cases c55 : t486 = true
            focus
             subst c55
             rw [if_pos rfl] at H
             by_cases c56 : t483 = true
             focus
              subst c56
              rw [if_pos rfl] at H
              by_cases c57 : t485 = true
              focus
               subst c57
               rw [if_pos rfl] at H
               by_cases c58 : t482 = t484
               focus
                rw [if_pos c58] at H
                have c58b0 : (t482 == t484) = true := beq_iff_eq.mpr c58
                have c58b1 : (t482 != t484) = false := bne_eq_false_iff_eq.mpr c58
                clear c58
                by_cases c59 : 0 ≤ t456
                focus
                 rw [if_pos c59] at H
                 have c59b0 : decide (0 ≤ t456) = true := decide_eq_true c59
                 clear c59
                 by_cases c60 : t456 < (t448.length : Int)
                 focus
                  rw [if_pos c60] at H
                  have c60b0 : decide (t456 < (t448.length : Int)) = true := decide_eq_true c60
                  clear c60
                  by_cases c61 : (rd t448 t456) = (-1)
                  ·as_aux_lemma =>
                   rw [if_pos c61] at H
                   have c61b0 : ((rd t448 t456) == (-1)) = true := beq_iff_eq.mpr c61
                   have c61b1 : ((rd t448 t456) != (-1)) = false := bne_eq_false_iff_eq.mpr c61
                   clear c61
                   have H' := aS_ H
                   clear H
                   have hnb62 := NB458_452.out
                   have hnc62 := NB452_458.out
                   have hnb63 := NB458_464.out
                   have hnc63 := NB464_458.out
                   have hcz64_0 : wc.cell? ⟨gb458, 0, none⟩ = some (.slice Ao15 t453.length co15) := (blk_cell BK458.out 0).trans rfl
                   have hfz64_0 := blk_frozen BK458.out 0
                   go_wp2_with (first | ((with_reducible refine gate_callee (f := 9) rfl ?_); refine goesL_ (some 83) rfl rfl Try.func9 (by kernel_rfl) rfl #[.agg #[.slice Ao15 t453.length co15], .int .i64 t451] rfl aR_ ?_; (with_reducible refine (impl_FindKey.calls kj7 _ _ t453 t451 t466 t467 true _ ?side1 ?side2 A43.out).mono ?_); (case side1 => exact cR_ HO_459000); (case side2 => exact (Kd.R_reads' HO_459000.out).2.1); rintro e w65 ⟨rfl, hb⟩; refine ⟨_, rfl, ?_⟩; replace HO_453000 := aS_ (Kd.R_below (rr_ HO_453000) hb); replace HO_459000 := aS_ (Kd.R_below (rr_ HO_459000) hb); replace HO_465000 := aS_ (Kd.R_below (rr_ HO_465000) hb); replace BK452 := kO_ BK452 hb; replace BK458 := kO_ BK458 hb; replace BK464 := kO_ BK464 hb; replace HB := bE_ HB hb; (try clear hb); have hcz66_0 : w65.cell? ⟨gb458, 0, none⟩ = some (.slice Ao15 t453.length co15) := (blk_cell BK458.out 0).trans rfl; have hfz66_0 := blk_frozen BK458.out 0) | ((with_reducible refine gate_callee (f := 10) rfl ?_); refine goesL_ (some 90) rfl rfl Try.func10 (by kernel_rfl) rfl #[.agg #[.slice Ao15 t453.length co15], .int .i64 t451] rfl aR_ ?_; (with_reducible refine (impl_RemoveKey.calls kj7 _ _ t453 t451 t469 true _ ?side1 ?side2 A44.out).mono ?_); (case side1 => exact cR_ HO_459000); (case side2 => exact (Kd.R_reads' HO_459000.out).2.1); rintro e w67 ⟨v470, rfl, ho0, hb⟩; refine ⟨_, rfl, ?_⟩; have HO471 := aS_ (Kd.R_lower (Kd.R_new' (Kd.R_new' (Kd.R_new' ho0 (Kd.R_lt (rr_ HO_453000))) (Kd.R_lt (rr_ HO_459000))) (Kd.R_lt (rr_ HO_465000))) (below_size (bb_ HB))); replace HO_453000 := aS_ (Kd.R_elder' (rr_ HO_453000) (Kd.R_base ho0) hb); replace HO_459000 := aS_ (Kd.R_elder' (rr_ HO_459000) (Kd.R_base ho0) hb); replace HO_465000 := aS_ (Kd.R_elder' (rr_ HO_465000) (Kd.R_base ho0) hb); replace BK452 := kO_ BK452 hb; replace BK458 := kO_ BK458 hb; replace BK464 := kO_ BK464 hb; replace HB := bE_ HB hb; (try clear hb); (try clear ho0)) | ((with_reducible refine gate_dst (N := 16) rfl ?_); (try (refine gate_guard (by rfl) ?_; dsimp only)); refine box_event ?hg (N := 16) ?hd (cs := #[.slice none 0 0]) (t := 26) ?hr ?_; (case hd => rfl); (case hg => rfl); (case hr => first | (go_simp; done) | (go_simp; rfl)); intro gb473 hg w68 hbox hb; replace HO_453000 := aS_ (Kd.R_below (rr_ HO_453000) hb); replace HO_459000 := aS_ (Kd.R_below (rr_ HO_459000) hb); replace HO_465000 := aS_ (Kd.R_below (rr_ HO_465000) hb); replace HO471 := aS_ (Kd.R_below (rr_ HO471) hb); have BK473 := aS_ (hbox); have GW473 := gE_ HB hg; have GE473 := gE_ HB hg; replace HB := bE_ HB hb; have NB452_473 := nL_ BK452 hg; have NB473_452 := nG_ BK452 hg; replace BK452 := kO_ BK452 hb; have NB458_473 := nL_ BK458 hg; have NB473_458 := nG_ BK458 hg; replace BK458 := kO_ BK458 hb; have NB464_473 := nL_ BK464 hg; have NB473_464 := nG_ BK464 hg; replace BK464 := kO_ BK464 hb; clear hb hbox hg; obtain ⟨Ao69, co69, eo69⟩ := Kd.R_slice HO471.out; subst eo69; have hnb70 := NB473_452.out; have hnc70 := NB452_473.out; have hnb71 := NB473_458.out; have hnc71 := NB458_473.out; have hnb72 := NB473_464.out; have hnc72 := NB464_473.out; have hcz73_0 : w68.cell? ⟨gb473, 0, none⟩ = some (.slice none 0 0) := (blk_cell BK473.out 0).trans rfl; have hfz73_0 := blk_frozen BK473.out 0; have hnb74 := NB452_464.out; have hnc74 := NB464_452.out; have hcz75_0 : w68.cell? ⟨gb452, 0, none⟩ = some (.slice Ao11 t448.length co11) := (blk_cell BK452.out 0).trans rfl; have hfz75_0 := blk_frozen BK452.out 0) | ((with_reducible refine gate_callee (f := 11) rfl ?_); refine goesL_ (some 95) rfl rfl Try.func11 (by kernel_rfl) rfl #[.agg #[.slice Ao11 t448.length co11]] rfl aR_ ?_; (with_reducible refine (impl_UsedCells.calls kj7 _ _ t448 t474 true _ ?side1 ?side2 A45.out).mono ?_); (case side1 => refine (Kd.R_reads' (e := 3) (base := w.heap.size) (ok := fun k_ => ((some k_ ≠ (.slice Ao15 t453.length co15 : Value).ownBlock ∧ some k_ ≠ (.slice Ao21 t459.length co21 : Value).ownBlock) ∧ some k_ ≠ (.slice Ao69 t469.length co69 : Value).ownBlock)) (n := t448.length) (c := co11) ?_).2.2; exact (by (with_reducible repeat (first | apply rA_ | apply rN_ | apply rD_)); exact (Kd.R_mono (Kd.R_far (p := ⟨gb473, 0, none⟩) (Kd.R_types HO_453000.out BK473.out (by decide)) (fun _ hk => hk.2) (.slice Ao69 t469.length co69)) (fun _ h_ => h_.1)))); (case side2 => exact (Kd.R_reads' HO_453000.out).2.1); rintro e w76 ⟨v475, rfl, ho0, hb⟩; refine ⟨_, rfl, ?_⟩; have HO476 := aS_ (Kd.R_lower (Kd.R_new' (Kd.R_new' (Kd.R_new' (Kd.R_new' ho0 (Kd.R_lt (by (with_reducible repeat (first | apply rA_ | apply rN_ | apply rD_)); exact (Kd.R_mono (Kd.R_far (p := ⟨gb473, 0, none⟩) (Kd.R_types HO_453000.out BK473.out (by decide)) (fun _ hk => hk.2) (.slice Ao69 t469.length co69)) (fun _ h_ => h_.1))))) (Kd.R_lt (by (with_reducible repeat (first | apply rA_ | apply rN_ | apply rD_)); exact (Kd.R_mono (Kd.R_far (p := ⟨gb473, 0, none⟩) (Kd.R_types HO_459000.out BK473.out (by decide)) (fun _ hk => hk.2) (.slice Ao69 t469.length co69)) (fun _ h_ => h_.1))))) (Kd.R_lt (by (with_reducible repeat (first | apply rA_ | apply rN_ | apply rD_)); exact (Kd.R_mono (Kd.R_far (p := ⟨gb473, 0, none⟩) (Kd.R_types HO_465000.out BK473.out (by decide)) (fun _ hk => hk.2) (.slice Ao69 t469.length co69)) (fun _ h_ => h_.1))))) (Kd.R_lt (by (with_reducible repeat (first | apply rA_ | apply rN_ | apply rD_)); exact (Kd.R_mono (Kd.R_far (p := ⟨gb473, 0, none⟩) (Kd.R_types HO471.out BK473.out (by decide)) (fun _ hk => hk.2) (.slice Ao69 t469.length co69)) (fun _ h_ => h_.1))))) (below_size (bb_ HB))); replace HO_453000 := aS_ (Kd.R_elder' (by (with_reducible repeat (first | apply rA_ | apply rN_ | apply rD_)); exact (Kd.R_mono (Kd.R_far (p := ⟨gb473, 0, none⟩) (Kd.R_types HO_453000.out BK473.out (by decide)) (fun _ hk => hk.2) (.slice Ao69 t469.length co69)) (fun _ h_ => h_.1))) (Kd.R_base ho0) hb); replace HO_459000 := aS_ (Kd.R_elder' (by (with_reducible repeat (first | apply rA_ | apply rN_ | apply rD_)); exact (Kd.R_mono (Kd.R_far (p := ⟨gb473, 0, none⟩) (Kd.R_types HO_459000.out BK473.out (by decide)) (fun _ hk => hk.2) (.slice Ao69 t469.length co69)) (fun _ h_ => h_.1))) (Kd.R_base ho0) hb); replace HO_465000 := aS_ (Kd.R_elder' (by (with_reducible repeat (first | apply rA_ | apply rN_ | apply rD_)); exact (Kd.R_mono (Kd.R_far (p := ⟨gb473, 0, none⟩) (Kd.R_types HO_465000.out BK473.out (by decide)) (fun _ hk => hk.2) (.slice Ao69 t469.length co69)) (fun _ h_ => h_.1))) (Kd.R_base ho0) hb); replace HO471 := aS_ (Kd.R_elder' (by (with_reducible repeat (first | apply rA_ | apply rN_ | apply rD_)); exact (Kd.R_mono (Kd.R_far (p := ⟨gb473, 0, none⟩) (Kd.R_types HO471.out BK473.out (by decide)) (fun _ hk => hk.2) (.slice Ao69 t469.length co69)) (fun _ h_ => h_.1))) (Kd.R_base ho0) hb); replace BK452 := aS_ (blk_below (g := gb452) (o := .cells #[.slice Ao11 t448.length co11] 26 (0, 0)) (by (with_reducible repeat (first | refine kN_ ?_ _ | refine kD_ ?_ | refine kA_ ?_ _)); refine blk_far ?_ NB452_473.out _; (with_reducible repeat (first | refine kN_ ?_ _ | refine kD_ ?_ | refine kA_ ?_ _)); exact BK452.out) hb); replace BK458 := aS_ (blk_below (g := gb458) (o := .cells #[.slice Ao15 t453.length co15] 26 (0, 0)) (by (with_reducible repeat (first | refine kN_ ?_ _ | refine kD_ ?_ | refine kA_ ?_ _)); refine blk_far ?_ NB458_473.out _; (with_reducible repeat (first | refine kN_ ?_ _ | refine kD_ ?_ | refine kA_ ?_ _)); exact BK458.out) hb); replace BK464 := aS_ (blk_below (g := gb464) (o := .cells #[.slice Ao21 t459.length co21] 26 (0, 0)) (by (with_reducible repeat (first | refine kN_ ?_ _ | refine kD_ ?_ | refine kA_ ?_ _)); refine blk_far ?_ NB464_473.out _; (with_reducible repeat (first | refine kN_ ?_ _ | refine kD_ ?_ | refine kA_ ?_ _)); exact BK464.out) hb); replace BK473 := aS_ (blk_below (g := gb473) (o := .cells #[.slice Ao69 t469.length co69] 26 (0, 0)) (by (with_reducible repeat (first | refine kN_ ?_ _ | refine kD_ ?_ | refine kA_ ?_ _)); refine blk_put (cs := #[.slice none 0 0]) ?_ 0 _ rfl; (with_reducible repeat (first | refine kN_ ?_ _ | refine kD_ ?_ | refine kA_ ?_ _)); exact BK473.out) hb); replace HB := bE_ HB hb; (try clear hb); (try clear hk); (try clear ho0); have hcz77_0 : w76.cell? ⟨gb473, 0, none⟩ = some (.slice Ao69 t469.length co69) := (blk_cell BK473.out 0).trans rfl; have hfz77_0 := blk_frozen BK473.out 0) | ((with_reducible refine gate_callee (f := 11) rfl ?_); refine goesL_ (some 100) rfl rfl Try.func11 (by kernel_rfl) rfl #[.agg #[.slice Ao69 t469.length co69]] rfl aR_ ?_; (with_reducible refine (impl_UsedCells.calls kj7 _ _ t469 t478 true _ ?side1 ?side2 A46.out).mono ?_); (case side1 => exact cR_ HO471); (case side2 => exact (Kd.R_reads' HO471.out).2.1); rintro e w78 ⟨v479, rfl, ho0, hb⟩; refine ⟨_, rfl, ?_⟩; have HO480 := aS_ (Kd.R_lower (Kd.R_new' (Kd.R_new' (Kd.R_new' (Kd.R_new' (Kd.R_new' ho0 (Kd.R_lt (rr_ HO_453000))) (Kd.R_lt (rr_ HO_459000))) (Kd.R_lt (rr_ HO_465000))) (Kd.R_lt (rr_ HO471))) (Kd.R_lt (rr_ HO476))) (below_size (bb_ HB))); replace HO_453000 := aS_ (Kd.R_elder' (rr_ HO_453000) (Kd.R_base ho0) hb); replace HO_459000 := aS_ (Kd.R_elder' (rr_ HO_459000) (Kd.R_base ho0) hb); replace HO_465000 := aS_ (Kd.R_elder' (rr_ HO_465000) (Kd.R_base ho0) hb); replace HO471 := aS_ (Kd.R_elder' (rr_ HO471) (Kd.R_base ho0) hb); replace HO476 := aS_ (Kd.R_elder' (rr_ HO476) (Kd.R_base ho0) hb); replace BK452 := kO_ BK452 hb; replace BK458 := kO_ BK458 hb; replace BK464 := kO_ BK464 hb; replace BK473 := kO_ BK473 hb; replace HB := bE_ HB hb; (try clear hb); (try clear ho0); have hcz79_0 : w78.cell? ⟨gb452, 0, none⟩ = some (.slice Ao11 t448.length co11) := (blk_cell BK452.out 0).trans rfl; have hfz79_0 := blk_frozen BK452.out 0) | ((with_reducible refine gate_callee (f := 12) rfl ?_); refine goesL_ (some 105) rfl rfl Try.func12 (by kernel_rfl) rfl #[.agg #[.slice Ao11 t448.length co11]] rfl aR_ ?_; (with_reducible refine (impl_CostOf.calls kj7 _ _ t448 t482 true _ ?side1 ?side2 A47.out).mono ?_); (case side1 => exact cR_ HO_453000); (case side2 => exact (Kd.R_reads' HO_453000.out).2.1); rintro e w80 ⟨rfl, hb⟩; refine ⟨_, rfl, ?_⟩; replace HO_453000 := aS_ (Kd.R_below (rr_ HO_453000) hb); replace HO_459000 := aS_ (Kd.R_below (rr_ HO_459000) hb); replace HO_465000 := aS_ (Kd.R_below (rr_ HO_465000) hb); replace HO471 := aS_ (Kd.R_below (rr_ HO471) hb); replace HO476 := aS_ (Kd.R_below (rr_ HO476) hb); replace HO480 := aS_ (Kd.R_below (rr_ HO480) hb); replace BK452 := kO_ BK452 hb; replace BK458 := kO_ BK458 hb; replace BK464 := kO_ BK464 hb; replace BK473 := kO_ BK473 hb; replace HB := bE_ HB hb; (try clear hb); have hcz81_0 : w80.cell? ⟨gb473, 0, none⟩ = some (.slice Ao69 t469.length co69) := (blk_cell BK473.out 0).trans rfl; have hfz81_0 := blk_frozen BK473.out 0) | ((with_reducible refine gate_callee (f := 12) rfl ?_); refine goesL_ (some 110) rfl rfl Try.func12 (by kernel_rfl) rfl #[.agg #[.slice Ao69 t469.length co69]] rfl aR_ ?_; (with_reducible refine (impl_CostOf.calls kj7 _ _ t469 t484 true _ ?side1 ?side2 A48.out).mono ?_); (case side1 => exact cR_ HO471); (case side2 => exact (Kd.R_reads' HO471.out).2.1); rintro e w82 ⟨rfl, hb⟩; refine ⟨_, rfl, ?_⟩; replace HO_453000 := aS_ (Kd.R_below (rr_ HO_453000) hb); replace HO_459000 := aS_ (Kd.R_below (rr_ HO_459000) hb); replace HO_465000 := aS_ (Kd.R_below (rr_ HO_465000) hb); replace HO471 := aS_ (Kd.R_below (rr_ HO471) hb); replace HO476 := aS_ (Kd.R_below (rr_ HO476) hb); replace HO480 := aS_ (Kd.R_below (rr_ HO480) hb); replace BK452 := kO_ BK452 hb; replace BK458 := kO_ BK458 hb; replace BK464 := kO_ BK464 hb; replace BK473 := kO_ BK473 hb; replace HB := bE_ HB hb; (try clear hb); obtain ⟨Ao83, co83, eo83⟩ := Kd.R_slice HO476.out; subst eo83; obtain ⟨Ao84, co84, eo84⟩ := Kd.R_slice HO480.out; subst eo84) | (go_at_call 13; (with_reducible refine (laws_jSame.calls kj7 _ _ t474 _ _ t478 true _ ?side1 ?side2 ?side3 ?side4 A54.out).mono ?_); (case side1 => exact cR_ HO476); (case side2 => exact (Kd.R_reads' HO476.out).2.1); (case side3 => exact cR_ HO480); (case side4 => exact (Kd.R_reads' HO480.out).2.1); rintro e w' ⟨rfl, ⟨nd, rfl⟩⟩; have hcz85_0 : w82.cell? ⟨gb452, 0, none⟩ = some (.slice Ao11 t448.length co11) := (blk_cell BK452.out 0).trans rfl; have hfz85_0 := blk_frozen BK452.out 0; have p487 : 0 ≤ (t456 : Int) := of_decide_eq_true (by assumption); have q487 : t456 < (t448.length : Int) := of_decide_eq_true (by assumption); obtain ⟨ad487, e487, hx487_0⟩ := Kd.at_int (Kd.R_reads' HO_453000.out).2.2 t456 p487 q487; cases e487; replace p487 := eq_true p487; replace q487 := eq_true q487))
                   go_meet
                   case rel => exact ⟨_, H', ⟨by have := HJ7.out; first | omega | exact Nat.le_refl _⟩, ⟨by (with_reducible repeat (first | apply rA_ | apply rN_ | apply rD_)); exact Kd.R_mono HO_453000.out (fun _ hk => by first | exact ⟨hk.1.1.1.1, hk.1.1.1.2⟩ | (repeat' first | exact hk.2 | exact hk.1.2 | exact hk.1.1.2 | exact hk.1.1.1.2 | exact hk.1.1.1.1 | exact hk.1.1.1 | exact hk.1.1 | exact hk.1 | refine And.intro ?_ ?_))⟩, ⟨by (with_reducible repeat (first | apply rA_ | apply rN_ | apply rD_)); exact Kd.R_mono HO_459000.out (fun _ hk => by first | exact ⟨hk.1.1.1.1, hk.1.1.1.2⟩ | (repeat' first | exact hk.2 | exact hk.1.2 | exact hk.1.1.2 | exact hk.1.1.1.2 | exact hk.1.1.1.1 | exact hk.1.1.1 | exact hk.1.1 | exact hk.1 | refine And.intro ?_ ?_))⟩, ⟨by (with_reducible repeat (first | apply rA_ | apply rN_ | apply rD_)); exact Kd.R_mono HO_465000.out (fun _ hk => by first | exact ⟨hk.1.1.1.1, hk.1.1.1.2⟩ | (repeat' first | exact hk.2 | exact hk.1.2 | exact hk.1.1.2 | exact hk.1.1.1.2 | exact hk.1.1.1.1 | exact hk.1.1.1 | exact hk.1.1 | exact hk.1 | refine And.intro ?_ ?_))⟩, ⟨kk_ BK452⟩, ⟨kk_ BK458⟩, ⟨kk_ BK464⟩, ⟨bb_ HB⟩⟩
                  focus
                   rw [if_neg c61] at H
                   have c61b0 : ((rd t448 t456) == (-1)) = false := beq_eq_false_iff_ne.mpr c61
                   have c61b1 : ((rd t448 t456) != (-1)) = true := bne_iff_ne.mpr c61
                   obtain rfl := Option.some.inj H
                   have hnb86 := NB458_452.out
                   have hnc86 := NB452_458.out
                   have hnb87 := NB458_464.out
                   have hnc87 := NB464_458.out
                   have hcz88_0 : wc.cell? ⟨gb458, 0, none⟩ = some (.slice Ao15 t453.length co15) := (blk_cell BK458.out 0).trans rfl
                   have hfz88_0 := blk_frozen BK458.out 0
                  rotate_left 1
                 rotate_left 1
                 ·rw [if_neg c60] at H
                  exact absurd H (by simp)
                rotate_left 1
                ·rw [if_neg c59] at H
                 exact absurd H (by simp)
               rotate_left 1
               focus
                rw [if_neg c58] at H
                have c58b0 : (t482 == t484) = false := beq_eq_false_iff_ne.mpr c58
                have c58b1 : (t482 != t484) = true := bne_iff_ne.mpr c58
                obtain rfl := Option.some.inj H
                have hnb110 := NB458_452.out
                have hnc110 := NB452_458.out
                have hnb111 := NB458_464.out
                have hnc111 := NB464_458.out
                have hcz112_0 : wc.cell? ⟨gb458, 0, none⟩ = some (.slice Ao15 t453.length co15) := (blk_cell BK458.out 0).trans rfl
                have hfz112_0 := blk_frozen BK458.out 0
               rotate_left 1
              rotate_left 2
              focus
               replace c57 := Bool.eq_false_iff.mpr c57
               subst c57
               rw [if_neg (show ¬ (false = true) by decide)] at H
               obtain rfl := Option.some.inj H
               have hnb133 := NB458_452.out
               have hnc133 := NB452_458.out
               have hnb134 := NB458_464.out
               have hnc134 := NB464_458.out
               have hcz135_0 : wc.cell? ⟨gb458, 0, none⟩ = some (.slice Ao15 t453.length co15) := (blk_cell BK458.out 0).trans rfl
               have hfz135_0 := blk_frozen BK458.out 0
              rotate_left 1
             rotate_left 3
             focus
              replace c56 := Bool.eq_false_iff.mpr c56
              subst c56
              rw [if_neg (show ¬ (false = true) by decide)] at H
              obtain rfl := Option.some.inj H
              have hnb156 := NB458_452.out
              have hnc156 := NB452_458.out
              have hnb157 := NB458_464.out
              have hnc157 := NB464_458.out
              have hcz158_0 : wc.cell? ⟨gb458, 0, none⟩ = some (.slice Ao15 t453.length co15) := (blk_cell BK458.out 0).trans rfl
              have hfz158_0 := blk_frozen BK458.out 0
             rotate_left 1
            rotate_left 4
            focus
             replace c55 := Bool.eq_false_iff.mpr c55
             subst c55
             rw [if_neg (show ¬ (false = true) by decide)] at H
             obtain rfl := Option.some.inj H
             have hnb179 := NB458_452.out
             have hnc179 := NB452_458.out
             have hnb180 := NB458_464.out
             have hnc180 := NB464_458.out
             have hcz181_0 : wc.cell? ⟨gb458, 0, none⟩ = some (.slice Ao15 t453.length co15) := (blk_cell BK458.out 0).trans rfl
             have hfz181_0 := blk_frozen BK458.out 0
            rotate_left 1
           rotate_left 5
           focus
            replace c53 := Bool.eq_false_iff.mpr c53
            subst c53
            rw [if_neg (show ¬ (false = true) by decide)] at H
            obtain rfl := Option.some.inj H
            have hnb202 := NB458_452.out
            have hnc202 := NB452_458.out
            have hnb203 := NB458_464.out
            have hnc203 := NB464_458.out
            have hcz204_0 : wc.cell? ⟨gb458, 0, none⟩ = some (.slice Ao15 t453.length co15) := (blk_cell BK458.out 0).trans rfl
            have hfz204_0 := blk_frozen BK458.out 0
           rotate_left 1
          rotate_left 6
          focus
           replace c52 := Bool.eq_false_iff.mpr c52
           subst c52
           rw [if_neg (show ¬ (false = true) by decide)] at H
           obtain rfl := Option.some.inj H
           have hnb223 := NB458_452.out
           have hnc223 := NB452_458.out
           have hnb224 := NB458_464.out
           have hnc224 := NB464_458.out
           have hcz225_0 : wc.cell? ⟨gb458, 0, none⟩ = some (.slice Ao15 t453.length co15) := (blk_cell BK458.out 0).trans rfl
           have hfz225_0 := blk_frozen BK458.out 0
          rotate_left 1
         rotate_left 7
         focus
          replace c51 := Bool.eq_false_iff.mpr c51
          subst c51
          rw [if_neg (show ¬ (false = true) by decide)] at H
          obtain rfl := Option.some.inj H
          have hnb244 := NB458_452.out
          have hnc244 := NB452_458.out
          have hnb245 := NB458_464.out
          have hnc245 := NB464_458.out
          have hcz246_0 : wc.cell? ⟨gb458, 0, none⟩ = some (.slice Ao15 t453.length co15) := (blk_cell BK458.out 0).trans rfl
          have hfz246_0 := blk_frozen BK458.out 0
         rotate_left 1
        rotate_left 8
        focus
         rw [if_neg c50] at H
         have c50b0 : (t466 == t456) = false := beq_eq_false_iff_ne.mpr c50
         have c50b1 : (t466 != t456) = true := bne_iff_ne.mpr c50
         (first | rw [c50b0] | (simp only [i64_w, i32_w]; rw [c50b0]) | skip)
         obtain rfl := Option.some.inj H
         have hnb265 := NB458_452.out
         have hnc265 := NB452_458.out
         have hnb266 := NB458_464.out
         have hnc266 := NB464_458.out
         have hcz267_0 : wc.cell? ⟨gb458, 0, none⟩ = some (.slice Ao15 t453.length co15) := (blk_cell BK458.out 0).trans rfl
         have hfz267_0 := blk_frozen BK458.out 0
        rotate_left 1
       rotate_left 9
       focus
        replace c49 := Bool.eq_false_iff.mpr c49
        subst c49
        rw [if_neg (show ¬ (false = true) by decide)] at H
        obtain rfl := Option.some.inj H
        have hnb286 := NB458_452.out
        have hnc286 := NB452_458.out
        have hnb287 := NB458_464.out
        have hnc287 := NB464_458.out
        have hcz288_0 : wc.cell? ⟨gb458, 0, none⟩ = some (.slice Ao15 t453.length co15) := (blk_cell BK458.out 0).trans rfl
        have hfz288_0 := blk_frozen BK458.out 0
       rotate_left 1
      rotate_left 10
      ·replace c42 := Bool.eq_false_iff.mpr c42
       subst c42
       rw [if_neg (show ¬ (false = true) by decide)] at H
       have H' := aS_ H
       clear H
       go_wp2
       go_meet
       case rel => exact ⟨_, H', ⟨by have := HJ7.out; first | omega | exact Nat.le_refl _⟩, ⟨rr_ HO_453000⟩, ⟨rr_ HO_459000⟩, ⟨rr_ HO_465000⟩, ⟨kk_ BK452⟩, ⟨kk_ BK458⟩, ⟨kk_ BK464⟩, ⟨bb_ HB⟩⟩
      all_goals as_aux_lemma =>
       go_wp2_with (first | ((with_reducible refine gate_callee (f := 9) rfl ?_); refine goesL_ (some 83) rfl rfl Try.func9 (by kernel_rfl) rfl #[.agg #[.slice Ao15 t453.length co15], .int .i64 t451] rfl aR_ ?_; (with_reducible refine (impl_FindKey.calls _ _ _ _ _ _ _ _ _ ?side1 ?side2 A43.out).mono ?_); (case side1 => exact cR_ HO_459000); (case side2 => exact (Kd.R_reads' HO_459000.out).2.1); rintro e w89 ⟨rfl, hb⟩; refine ⟨_, rfl, ?_⟩; replace HO_453000 := aS_ (Kd.R_below (rr_ HO_453000) hb); replace HO_459000 := aS_ (Kd.R_below (rr_ HO_459000) hb); replace HO_465000 := aS_ (Kd.R_below (rr_ HO_465000) hb); replace BK452 := kO_ BK452 hb; replace BK458 := kO_ BK458 hb; replace BK464 := kO_ BK464 hb; replace HB := bE_ HB hb; (try clear hb); have hcz90_0 : w89.cell? ⟨gb458, 0, none⟩ = some (.slice Ao15 t453.length co15) := (blk_cell BK458.out 0).trans rfl; have hfz90_0 := blk_frozen BK458.out 0) | ((with_reducible refine gate_callee (f := 10) rfl ?_); refine goesL_ (some 90) rfl rfl Try.func10 (by kernel_rfl) rfl #[.agg #[.slice Ao15 t453.length co15], .int .i64 t451] rfl aR_ ?_; (with_reducible refine (impl_RemoveKey.calls _ _ _ _ _ _ _ _ ?side1 ?side2 A44.out).mono ?_); (case side1 => exact cR_ HO_459000); (case side2 => exact (Kd.R_reads' HO_459000.out).2.1); rintro e w91 ⟨v470, rfl, ho0, hb⟩; refine ⟨_, rfl, ?_⟩; have HO471 := aS_ (Kd.R_lower (Kd.R_new' (Kd.R_new' (Kd.R_new' ho0 (Kd.R_lt (rr_ HO_453000))) (Kd.R_lt (rr_ HO_459000))) (Kd.R_lt (rr_ HO_465000))) (below_size (bb_ HB))); replace HO_453000 := aS_ (Kd.R_elder' (rr_ HO_453000) (Kd.R_base ho0) hb); replace HO_459000 := aS_ (Kd.R_elder' (rr_ HO_459000) (Kd.R_base ho0) hb); replace HO_465000 := aS_ (Kd.R_elder' (rr_ HO_465000) (Kd.R_base ho0) hb); replace BK452 := kO_ BK452 hb; replace BK458 := kO_ BK458 hb; replace BK464 := kO_ BK464 hb; replace HB := bE_ HB hb; (try clear hb); (try clear ho0)) | ((with_reducible refine gate_dst (N := 16) rfl ?_); (try (refine gate_guard (by rfl) ?_; dsimp only)); refine box_event ?hg (N := 16) ?hd (cs := #[.slice none 0 0]) (t := 26) ?hr ?_; (case hd => rfl); (case hg => rfl); (case hr => first | (go_simp; done) | (go_simp; rfl)); intro gb473 hg w92 hbox hb; replace HO_453000 := aS_ (Kd.R_below (rr_ HO_453000) hb); replace HO_459000 := aS_ (Kd.R_below (rr_ HO_459000) hb); replace HO_465000 := aS_ (Kd.R_below (rr_ HO_465000) hb); replace HO471 := aS_ (Kd.R_below (rr_ HO471) hb); have BK473 := aS_ (hbox); have GW473 := gE_ HB hg; have GE473 := gE_ HB hg; replace HB := bE_ HB hb; have NB452_473 := nL_ BK452 hg; have NB473_452 := nG_ BK452 hg; replace BK452 := kO_ BK452 hb; have NB458_473 := nL_ BK458 hg; have NB473_458 := nG_ BK458 hg; replace BK458 := kO_ BK458 hb; have NB464_473 := nL_ BK464 hg; have NB473_464 := nG_ BK464 hg; replace BK464 := kO_ BK464 hb; clear hb hbox hg; obtain ⟨Ao93, co93, eo93⟩ := Kd.R_slice HO471.out; subst eo93; have hnb94 := NB473_452.out; have hnc94 := NB452_473.out; have hnb95 := NB473_458.out; have hnc95 := NB458_473.out; have hnb96 := NB473_464.out; have hnc96 := NB464_473.out; have hcz97_0 : w92.cell? ⟨gb473, 0, none⟩ = some (.slice none 0 0) := (blk_cell BK473.out 0).trans rfl; have hfz97_0 := blk_frozen BK473.out 0; have hnb98 := NB452_464.out; have hnc98 := NB464_452.out; have hcz99_0 : w92.cell? ⟨gb452, 0, none⟩ = some (.slice Ao11 t448.length co11) := (blk_cell BK452.out 0).trans rfl; have hfz99_0 := blk_frozen BK452.out 0) | ((with_reducible refine gate_callee (f := 11) rfl ?_); refine goesL_ (some 95) rfl rfl Try.func11 (by kernel_rfl) rfl #[.agg #[.slice Ao11 t448.length co11]] rfl aR_ ?_; (with_reducible refine (impl_UsedCells.calls _ _ _ _ _ _ _ ?side1 ?side2 A45.out).mono ?_); (case side1 => refine (Kd.R_reads' (e := 3) (base := w.heap.size) (ok := fun k_ => ((some k_ ≠ (.slice Ao15 t453.length co15 : Value).ownBlock ∧ some k_ ≠ (.slice Ao21 t459.length co21 : Value).ownBlock) ∧ some k_ ≠ (.slice Ao93 t469.length co93 : Value).ownBlock)) (n := t448.length) (c := co11) ?_).2.2; exact (by (with_reducible repeat (first | apply rA_ | apply rN_ | apply rD_)); exact (Kd.R_mono (Kd.R_far (p := ⟨gb473, 0, none⟩) (Kd.R_types HO_453000.out BK473.out (by decide)) (fun _ hk => hk.2) (.slice Ao93 t469.length co93)) (fun _ h_ => h_.1)))); (case side2 => exact (Kd.R_reads' HO_453000.out).2.1); rintro e w100 ⟨v475, rfl, ho0, hb⟩; refine ⟨_, rfl, ?_⟩; have HO476 := aS_ (Kd.R_lower (Kd.R_new' (Kd.R_new' (Kd.R_new' (Kd.R_new' ho0 (Kd.R_lt (by (with_reducible repeat (first | apply rA_ | apply rN_ | apply rD_)); exact (Kd.R_mono (Kd.R_far (p := ⟨gb473, 0, none⟩) (Kd.R_types HO_453000.out BK473.out (by decide)) (fun _ hk => hk.2) (.slice Ao93 t469.length co93)) (fun _ h_ => h_.1))))) (Kd.R_lt (by (with_reducible repeat (first | apply rA_ | apply rN_ | apply rD_)); exact (Kd.R_mono (Kd.R_far (p := ⟨gb473, 0, none⟩) (Kd.R_types HO_459000.out BK473.out (by decide)) (fun _ hk => hk.2) (.slice Ao93 t469.length co93)) (fun _ h_ => h_.1))))) (Kd.R_lt (by (with_reducible repeat (first | apply rA_ | apply rN_ | apply rD_)); exact (Kd.R_mono (Kd.R_far (p := ⟨gb473, 0, none⟩) (Kd.R_types HO_465000.out BK473.out (by decide)) (fun _ hk => hk.2) (.slice Ao93 t469.length co93)) (fun _ h_ => h_.1))))) (Kd.R_lt (by (with_reducible repeat (first | apply rA_ | apply rN_ | apply rD_)); exact (Kd.R_mono (Kd.R_far (p := ⟨gb473, 0, none⟩) (Kd.R_types HO471.out BK473.out (by decide)) (fun _ hk => hk.2) (.slice Ao93 t469.length co93)) (fun _ h_ => h_.1))))) (below_size (bb_ HB))); replace HO_453000 := aS_ (Kd.R_elder' (by (with_reducible repeat (first | apply rA_ | apply rN_ | apply rD_)); exact (Kd.R_mono (Kd.R_far (p := ⟨gb473, 0, none⟩) (Kd.R_types HO_453000.out BK473.out (by decide)) (fun _ hk => hk.2) (.slice Ao93 t469.length co93)) (fun _ h_ => h_.1))) (Kd.R_base ho0) hb); replace HO_459000 := aS_ (Kd.R_elder' (by (with_reducible repeat (first | apply rA_ | apply rN_ | apply rD_)); exact (Kd.R_mono (Kd.R_far (p := ⟨gb473, 0, none⟩) (Kd.R_types HO_459000.out BK473.out (by decide)) (fun _ hk => hk.2) (.slice Ao93 t469.length co93)) (fun _ h_ => h_.1))) (Kd.R_base ho0) hb); replace HO_465000 := aS_ (Kd.R_elder' (by (with_reducible repeat (first | apply rA_ | apply rN_ | apply rD_)); exact (Kd.R_mono (Kd.R_far (p := ⟨gb473, 0, none⟩) (Kd.R_types HO_465000.out BK473.out (by decide)) (fun _ hk => hk.2) (.slice Ao93 t469.length co93)) (fun _ h_ => h_.1))) (Kd.R_base ho0) hb); replace HO471 := aS_ (Kd.R_elder' (by (with_reducible repeat (first | apply rA_ | apply rN_ | apply rD_)); exact (Kd.R_mono (Kd.R_far (p := ⟨gb473, 0, none⟩) (Kd.R_types HO471.out BK473.out (by decide)) (fun _ hk => hk.2) (.slice Ao93 t469.length co93)) (fun _ h_ => h_.1))) (Kd.R_base ho0) hb); replace BK452 := aS_ (blk_below (g := gb452) (o := .cells #[.slice Ao11 t448.length co11] 26 (0, 0)) (by (with_reducible repeat (first | refine kN_ ?_ _ | refine kD_ ?_ | refine kA_ ?_ _)); refine blk_far ?_ NB452_473.out _; (with_reducible repeat (first | refine kN_ ?_ _ | refine kD_ ?_ | refine kA_ ?_ _)); exact BK452.out) hb); replace BK458 := aS_ (blk_below (g := gb458) (o := .cells #[.slice Ao15 t453.length co15] 26 (0, 0)) (by (with_reducible repeat (first | refine kN_ ?_ _ | refine kD_ ?_ | refine kA_ ?_ _)); refine blk_far ?_ NB458_473.out _; (with_reducible repeat (first | refine kN_ ?_ _ | refine kD_ ?_ | refine kA_ ?_ _)); exact BK458.out) hb); replace BK464 := aS_ (blk_below (g := gb464) (o := .cells #[.slice Ao21 t459.length co21] 26 (0, 0)) (by (with_reducible repeat (first | refine kN_ ?_ _ | refine kD_ ?_ | refine kA_ ?_ _)); refine blk_far ?_ NB464_473.out _; (with_reducible repeat (first | refine kN_ ?_ _ | refine kD_ ?_ | refine kA_ ?_ _)); exact BK464.out) hb); replace BK473 := aS_ (blk_below (g := gb473) (o := .cells #[.slice Ao93 t469.length co93] 26 (0, 0)) (by (with_reducible repeat (first | refine kN_ ?_ _ | refine kD_ ?_ | refine kA_ ?_ _)); refine blk_put (cs := #[.slice none 0 0]) ?_ 0 _ rfl; (with_reducible repeat (first | refine kN_ ?_ _ | refine kD_ ?_ | refine kA_ ?_ _)); exact BK473.out) hb); replace HB := bE_ HB hb; (try clear hb); (try clear hk); (try clear ho0); have hcz101_0 : w100.cell? ⟨gb473, 0, none⟩ = some (.slice Ao93 t469.length co93) := (blk_cell BK473.out 0).trans rfl; have hfz101_0 := blk_frozen BK473.out 0) | ((with_reducible refine gate_callee (f := 11) rfl ?_); refine goesL_ (some 100) rfl rfl Try.func11 (by kernel_rfl) rfl #[.agg #[.slice Ao93 t469.length co93]] rfl aR_ ?_; (with_reducible refine (impl_UsedCells.calls _ _ _ _ _ _ _ ?side1 ?side2 A46.out).mono ?_); (case side1 => exact cR_ HO471); (case side2 => exact (Kd.R_reads' HO471.out).2.1); rintro e w102 ⟨v479, rfl, ho0, hb⟩; refine ⟨_, rfl, ?_⟩; have HO480 := aS_ (Kd.R_lower (Kd.R_new' (Kd.R_new' (Kd.R_new' (Kd.R_new' (Kd.R_new' ho0 (Kd.R_lt (rr_ HO_453000))) (Kd.R_lt (rr_ HO_459000))) (Kd.R_lt (rr_ HO_465000))) (Kd.R_lt (rr_ HO471))) (Kd.R_lt (rr_ HO476))) (below_size (bb_ HB))); replace HO_453000 := aS_ (Kd.R_elder' (rr_ HO_453000) (Kd.R_base ho0) hb); replace HO_459000 := aS_ (Kd.R_elder' (rr_ HO_459000) (Kd.R_base ho0) hb); replace HO_465000 := aS_ (Kd.R_elder' (rr_ HO_465000) (Kd.R_base ho0) hb); replace HO471 := aS_ (Kd.R_elder' (rr_ HO471) (Kd.R_base ho0) hb); replace HO476 := aS_ (Kd.R_elder' (rr_ HO476) (Kd.R_base ho0) hb); replace BK452 := kO_ BK452 hb; replace BK458 := kO_ BK458 hb; replace BK464 := kO_ BK464 hb; replace BK473 := kO_ BK473 hb; replace HB := bE_ HB hb; (try clear hb); (try clear ho0); have hcz103_0 : w102.cell? ⟨gb452, 0, none⟩ = some (.slice Ao11 t448.length co11) := (blk_cell BK452.out 0).trans rfl; have hfz103_0 := blk_frozen BK452.out 0) | ((with_reducible refine gate_callee (f := 12) rfl ?_); refine goesL_ (some 105) rfl rfl Try.func12 (by kernel_rfl) rfl #[.agg #[.slice Ao11 t448.length co11]] rfl aR_ ?_; (with_reducible refine (impl_CostOf.calls _ _ _ _ _ _ _ ?side1 ?side2 A47.out).mono ?_); (case side1 => exact cR_ HO_453000); (case side2 => exact (Kd.R_reads' HO_453000.out).2.1); rintro e w104 ⟨rfl, hb⟩; refine ⟨_, rfl, ?_⟩; replace HO_453000 := aS_ (Kd.R_below (rr_ HO_453000) hb); replace HO_459000 := aS_ (Kd.R_below (rr_ HO_459000) hb); replace HO_465000 := aS_ (Kd.R_below (rr_ HO_465000) hb); replace HO471 := aS_ (Kd.R_below (rr_ HO471) hb); replace HO476 := aS_ (Kd.R_below (rr_ HO476) hb); replace HO480 := aS_ (Kd.R_below (rr_ HO480) hb); replace BK452 := kO_ BK452 hb; replace BK458 := kO_ BK458 hb; replace BK464 := kO_ BK464 hb; replace BK473 := kO_ BK473 hb; replace HB := bE_ HB hb; (try clear hb); have hcz105_0 : w104.cell? ⟨gb473, 0, none⟩ = some (.slice Ao93 t469.length co93) := (blk_cell BK473.out 0).trans rfl; have hfz105_0 := blk_frozen BK473.out 0) | ((with_reducible refine gate_callee (f := 12) rfl ?_); refine goesL_ (some 110) rfl rfl Try.func12 (by kernel_rfl) rfl #[.agg #[.slice Ao93 t469.length co93]] rfl aR_ ?_; (with_reducible refine (impl_CostOf.calls _ _ _ _ _ _ _ ?side1 ?side2 A48.out).mono ?_); (case side1 => exact cR_ HO471); (case side2 => exact (Kd.R_reads' HO471.out).2.1); rintro e w106 ⟨rfl, hb⟩; refine ⟨_, rfl, ?_⟩; replace HO_453000 := aS_ (Kd.R_below (rr_ HO_453000) hb); replace HO_459000 := aS_ (Kd.R_below (rr_ HO_459000) hb); replace HO_465000 := aS_ (Kd.R_below (rr_ HO_465000) hb); replace HO471 := aS_ (Kd.R_below (rr_ HO471) hb); replace HO476 := aS_ (Kd.R_below (rr_ HO476) hb); replace HO480 := aS_ (Kd.R_below (rr_ HO480) hb); replace BK452 := kO_ BK452 hb; replace BK458 := kO_ BK458 hb; replace BK464 := kO_ BK464 hb; replace BK473 := kO_ BK473 hb; replace HB := bE_ HB hb; (try clear hb); obtain ⟨Ao107, co107, eo107⟩ := Kd.R_slice HO476.out; subst eo107; obtain ⟨Ao108, co108, eo108⟩ := Kd.R_slice HO480.out; subst eo108) | (go_at_call 13; (with_reducible refine (laws_jSame.calls _ _ _ _ _ _ _ _ _ ?side1 ?side2 ?side3 ?side4 A54.out).mono ?_); (case side1 => exact cR_ HO476); (case side2 => exact (Kd.R_reads' HO476.out).2.1); (case side3 => exact cR_ HO480); (case side4 => exact (Kd.R_reads' HO480.out).2.1); rintro e w' ⟨rfl, ⟨nd, rfl⟩⟩; have hcz109_0 : w106.cell? ⟨gb452, 0, none⟩ = some (.slice Ao11 t448.length co11) := (blk_cell BK452.out 0).trans rfl; have hfz109_0 := blk_frozen BK452.out 0; (try (have p487 : 0 ≤ (t456 : Int) := of_decide_eq_true (by assumption); have q487 : t456 < (t448.length : Int) := of_decide_eq_true (by assumption); obtain ⟨ad487, e487, hx487_0⟩ := Kd.at_int (Kd.R_reads' HO_453000.out).2.2 t456 p487 q487; cases e487; replace p487 := eq_true p487; replace q487 := eq_true q487))))
       go_ret
       exact ⟨eR_, bb_ HB⟩
     case rest =>
      clear HC41
      try clear c1
      try clear c2
      try clear p2
      try clear c3
      try clear c4
      try clear p4
      try clear q4
      try clear hx4
      try clear c5
      try clear c6
      try clear c7
      try clear c8
      try clear c9
      try clear c10
      try clear c11
      try clear c12
      try clear c13
      try clear c14
      try clear c15
      try clear c16
      try clear c17
      try clear c18
      try clear c19
      try clear c20
      try clear c21
      try clear c22
      try clear c23
      try clear c24
      try clear c25
      try clear c25b0
      try clear c25b1
      try clear c25b2
      try clear c26
      try clear c27
      try clear c28
      try clear c29
      try clear c31
      try clear c34
      try clear c35
      try clear c37
      try clear c40
      try clear c42
      try clear p48
      try clear q48
      try clear hx48
      try clear c49
      try clear c50
      try clear c50b0
      try clear c50b1
      try clear c51
      try clear c52
      try clear c53
      try clear c55
      try clear c56
      try clear c57
      try clear c58
      try clear c58b0
      try clear c58b1
      try clear c59
      try clear c59b0
      try clear c60
      try clear c60b0
      try clear c61
      try clear c61b0
      try clear c61b1
      try clear c62
      try clear c63
      try clear c70
      try clear c71
      try clear c72
      try clear c74
      try clear c86
      try clear c87
      try clear c94
      try clear c95
      try clear c96
      try clear c98
      try clear c110
      try clear c111
      try clear c118
      try clear c119
      try clear c120
      try clear c122
      try clear c133
      try clear c134
      try clear c141
      try clear c142
      try clear c143
      try clear c145
      try clear c156
      try clear c157
      try clear c164
      try clear c165
      try clear c166
      try clear c168
      try clear c179
      try clear c180
      try clear c187
      try clear c188
      try clear c189
      try clear c191
      try clear c202
      try clear c203
      try clear c210
      try clear c211
      try clear c212
      try clear c214
      try clear c223
      try clear c224
      try clear c231
      try clear c232
      try clear c233
      try clear c235
      try clear c244
      try clear c245
      try clear c252
      try clear c253
      try clear c254
      try clear c256
      try clear c265
      try clear c266
      try clear c273
      try clear c274
      try clear c275
      try clear c277
      try clear c286
      try clear c287
      try clear c294
      try clear c295
      try clear c296
      try clear c298
      try clear hcz101_0
      try clear hcz103_0
      try clear hcz105_0
      try clear hcz109_0
      try clear hcz112_0
      try clear hcz114_0
      try clear hcz121_0
      try clear hcz123_0
      try clear hcz125_0
      try clear hcz127_0
      try clear hcz129_0
      try clear hcz12_0
      try clear hcz135_0
      try clear hcz137_0
      try clear hcz144_0
      try clear hcz146_0
      try clear hcz148_0
      try clear hcz150_0
      try clear hcz152_0
      try clear hcz158_0
      try clear hcz160_0
      try clear hcz167_0
      try clear hcz169_0
      try clear hcz171_0
      try clear hcz173_0
      try clear hcz175_0
      try clear hcz17_0
      try clear hcz181_0
      try clear hcz183_0
      try clear hcz18_0
      try clear hcz190_0
      try clear hcz192_0
      try clear hcz194_0
      try clear hcz196_0
      try clear hcz198_0
      try clear hcz204_0
      try clear hcz206_0
      try clear hcz213_0
      try clear hcz215_0
      try clear hcz217_0
      try clear hcz219_0
      try clear hcz221_0
      try clear hcz225_0
      try clear hcz227_0
      try clear hcz234_0
      try clear hcz236_0
      try clear hcz238_0
      try clear hcz240_0
      try clear hcz242_0
      try clear hcz246_0
      try clear hcz248_0
      try clear hcz24_0
      try clear hcz255_0
      try clear hcz257_0
      try clear hcz259_0
      try clear hcz261_0
      try clear hcz263_0
      try clear hcz267_0
      try clear hcz269_0
      try clear hcz276_0
      try clear hcz278_0
      try clear hcz280_0
      try clear hcz282_0
      try clear hcz284_0
      try clear hcz288_0
      try clear hcz290_0
      try clear hcz297_0
      try clear hcz299_0
      try clear hcz301_0
      try clear hcz303_0
      try clear hcz305_0
      try clear hcz30_0
      try clear hcz32_0
      try clear hcz36_0
      try clear hcz38_0
      try clear hcz64_0
      try clear hcz66_0
      try clear hcz73_0
      try clear hcz75_0
      try clear hcz77_0
      try clear hcz79_0
      try clear hcz81_0
      try clear hcz85_0
      try clear hcz88_0
      try clear hcz90_0
      try clear hcz97_0
      try clear hcz99_0
      try clear hfz101_0
      try clear hfz103_0
      try clear hfz105_0
      try clear hfz109_0
      try clear hfz112_0
      try clear hfz114_0
      try clear hfz121_0
      try clear hfz123_0
      try clear hfz125_0
      try clear hfz127_0
      try clear hfz129_0
      try clear hfz12_0
      try clear hfz135_0
      try clear hfz137_0
      try clear hfz144_0
      try clear hfz146_0
      try clear hfz148_0
      try clear hfz150_0
      try clear hfz152_0
      try clear hfz158_0
      try clear hfz160_0
      try clear hfz167_0
      try clear hfz169_0
      try clear hfz171_0
      try clear hfz173_0
      try clear hfz175_0
      try clear hfz17_0
      try clear hfz181_0
      try clear hfz183_0
      try clear hfz18_0
      try clear hfz190_0
      try clear hfz192_0
      try clear hfz194_0
      try clear hfz196_0
      try clear hfz198_0
      try clear hfz204_0
      try clear hfz206_0
      try clear hfz213_0
      try clear hfz215_0
      try clear hfz217_0
      try clear hfz219_0
      try clear hfz221_0
      try clear hfz225_0
      try clear hfz227_0
      try clear hfz234_0
      try clear hfz236_0
      try clear hfz238_0
      try clear hfz240_0
      try clear hfz242_0
      try clear hfz246_0
      try clear hfz248_0
      try clear hfz24_0
      try clear hfz255_0
      try clear hfz257_0
      try clear hfz259_0
      try clear hfz261_0
      try clear hfz263_0
      try clear hfz267_0
      try clear hfz269_0
      try clear hfz276_0
      try clear hfz278_0
      try clear hfz280_0
      try clear hfz282_0
      try clear hfz284_0
      try clear hfz288_0
      try clear hfz290_0
      try clear hfz297_0
      try clear hfz299_0
      try clear hfz301_0
      try clear hfz303_0
      try clear hfz305_0
      try clear hfz30_0
      try clear hfz32_0
      try clear hfz36_0
      try clear hfz38_0
      try clear hfz64_0
      try clear hfz66_0
      try clear hfz73_0
      try clear hfz75_0
      try clear hfz77_0
      try clear hfz79_0
      try clear hfz81_0
      try clear hfz85_0
      try clear hfz88_0
      try clear hfz90_0
      try clear hfz97_0
      try clear hfz99_0
      try clear hx487_0
      try clear p2
      try clear p487
      try clear q487
      obtain ⟨kq, HA, HJ40, HO_453000, HO_459000, HO_465000, BK452, BK458, BK464, HB⟩ := hcut
      cases kq with
      | zero => exact absurd HA.out (by simp [laws_FnInsertAndRemove.j1])
      | succ kj40 =>
       have H := HA.out
       clear HA
       simp only [laws_FnInsertAndRemove.j1] at H
       replace H := Option.bind_eq_some_iff.mp H
       obtain ⟨⟨t488, t491⟩, A3070, H⟩ := H
       have A307 := aS_ A3070
       clear A3070
       replace H := Option.bind_eq_some_iff.mp H
       obtain ⟨⟨t493, t496⟩, A3080, H⟩ := H
       have A308 := aS_ A3080
       clear A3080
       replace H := Option.bind_eq_some_iff.mp H
       obtain ⟨⟨t498, t501⟩, A3090, H⟩ := H
       have A309 := aS_ A3090
       clear A3090
       replace H := Option.bind_eq_some_iff.mp H
       obtain ⟨⟨t503, t504, t505⟩, A3100, H⟩ := H
       have A310 := aS_ A3100
       clear A3100
       have HC311 := aS_ H
       clear H
       go_upto_region 21 with (first | ((with_reducible refine gate_callee (f := 14) rfl ?_); refine goesL_ (some 161) rfl rfl Try.func14 (by kernel_rfl) rfl #[.slice A1 l1.length c1] rfl aR_ ?_; (with_reducible refine (spec_DrawRemoveKey.calls kj40 _ _ l1 t488 t491 _ ?side1 ?side2 A307.out).mono ?_); (case side1 => exact cB_ HR1 HB); (case side2 => exact HC1.out); rintro e w312 ⟨v489, rfl, ho0, hb⟩; refine ⟨_, rfl, ?_⟩; have HO490 := aS_ (Kd.R_lower (Kd.R_new' (Kd.R_new' (Kd.R_new' ho0 (Kd.R_lt (rr_ HO_453000))) (Kd.R_lt (rr_ HO_459000))) (Kd.R_lt (rr_ HO_465000))) (below_size (bb_ HB))); replace HO_453000 := aS_ (Kd.R_elder' (rr_ HO_453000) (Kd.R_base ho0) hb); replace HO_459000 := aS_ (Kd.R_elder' (rr_ HO_459000) (Kd.R_base ho0) hb); replace HO_465000 := aS_ (Kd.R_elder' (rr_ HO_465000) (Kd.R_base ho0) hb); replace BK452 := kO_ BK452 hb; replace BK458 := kO_ BK458 hb; replace BK464 := kO_ BK464 hb; replace HB := bE_ HB hb; (try clear hb); (try clear ho0)) | ((with_reducible refine gate_dst (N := 26) rfl ?_); (try (refine gate_guard (by rfl) ?_; dsimp only)); refine box_event ?hg (N := 26) ?hd (cs := #[.slice none 0 0]) (t := 26) ?hr ?_; (case hd => rfl); (case hg => rfl); (case hr => first | (go_simp; done) | (go_simp; rfl)); intro gb492 hg w313 hbox hb; replace HO_453000 := aS_ (Kd.R_below (rr_ HO_453000) hb); replace HO_459000 := aS_ (Kd.R_below (rr_ HO_459000) hb); replace HO_465000 := aS_ (Kd.R_below (rr_ HO_465000) hb); replace HO490 := aS_ (Kd.R_below (rr_ HO490) hb); have BK492 := aS_ (hbox); have GW492 := gE_ HB hg; have GE492 := gE_ HB hg; replace HB := bE_ HB hb; have NB452_492 := nL_ BK452 hg; have NB492_452 := nG_ BK452 hg; replace BK452 := kO_ BK452 hb; have NB458_492 := nL_ BK458 hg; have NB492_458 := nG_ BK458 hg; replace BK458 := kO_ BK458 hb; have NB464_492 := nL_ BK464 hg; have NB492_464 := nG_ BK464 hg; replace BK464 := kO_ BK464 hb; clear hb hbox hg; obtain ⟨Ao314, co314, eo314⟩ := Kd.R_slice HO490.out; subst eo314; have hnb315 := NB492_452.out; have hnc315 := NB452_492.out; have hnb316 := NB492_458.out; have hnc316 := NB458_492.out; have hnb317 := NB492_464.out; have hnc317 := NB464_492.out; have hcz318_0 : w313.cell? ⟨gb492, 0, none⟩ = some (.slice none 0 0) := (blk_cell BK492.out 0).trans rfl; have hfz318_0 := blk_frozen BK492.out 0) | ((with_reducible refine gate_callee (f := 10) rfl ?_); refine goesL_ (some 167) rfl rfl Try.func10 (by kernel_rfl) rfl #[.agg #[.slice Ao314 t488.length co314], .int .i64 t491] rfl aR_ ?_; (with_reducible refine (impl_RemoveKey.calls kj40 _ _ t488 t491 t493 t496 _ ?side1 ?side2 A308.out).mono ?_); (case side1 => refine (Kd.R_reads' (e := 3) (base := w.heap.size) (ok := fun k_ => (((True ∧ some k_ ≠ (.slice Ao11 t448.length co11 : Value).ownBlock) ∧ some k_ ≠ (.slice Ao15 t453.length co15 : Value).ownBlock) ∧ some k_ ≠ (.slice Ao21 t459.length co21 : Value).ownBlock)) (n := t488.length) (c := co314) ?_).2.2; exact (by (with_reducible repeat (first | apply rA_ | apply rN_ | apply rD_)); exact (Kd.R_mono (Kd.R_far (p := ⟨gb492, 0, none⟩) (Kd.R_types HO490.out BK492.out (by decide)) (fun _ hk => hk.2) (.slice Ao314 t488.length co314)) (fun _ h_ => h_.1)))); (case side2 => exact (Kd.R_reads' HO490.out).2.1); rintro e w319 ⟨v494, rfl, ho0, hb⟩; refine ⟨_, rfl, ?_⟩; have HO495 := aS_ (Kd.R_lower (Kd.R_new' (Kd.R_new' (Kd.R_new' (Kd.R_new' ho0 (Kd.R_lt (by (with_reducible repeat (first | apply rA_ | apply rN_ | apply rD_)); exact (Kd.R_mono (Kd.R_far (p := ⟨gb492, 0, none⟩) (Kd.R_types HO_453000.out BK492.out (by decide)) (fun _ hk => hk.2) (.slice Ao314 t488.length co314)) (fun _ h_ => h_.1))))) (Kd.R_lt (by (with_reducible repeat (first | apply rA_ | apply rN_ | apply rD_)); exact (Kd.R_mono (Kd.R_far (p := ⟨gb492, 0, none⟩) (Kd.R_types HO_459000.out BK492.out (by decide)) (fun _ hk => hk.2) (.slice Ao314 t488.length co314)) (fun _ h_ => h_.1))))) (Kd.R_lt (by (with_reducible repeat (first | apply rA_ | apply rN_ | apply rD_)); exact (Kd.R_mono (Kd.R_far (p := ⟨gb492, 0, none⟩) (Kd.R_types HO_465000.out BK492.out (by decide)) (fun _ hk => hk.2) (.slice Ao314 t488.length co314)) (fun _ h_ => h_.1))))) (Kd.R_lt (by (with_reducible repeat (first | apply rA_ | apply rN_ | apply rD_)); exact (Kd.R_mono (Kd.R_far (p := ⟨gb492, 0, none⟩) (Kd.R_types HO490.out BK492.out (by decide)) (fun _ hk => hk.2) (.slice Ao314 t488.length co314)) (fun _ h_ => h_.1))))) (below_size (bb_ HB))); replace HO_453000 := aS_ (Kd.R_elder' (by (with_reducible repeat (first | apply rA_ | apply rN_ | apply rD_)); exact (Kd.R_mono (Kd.R_far (p := ⟨gb492, 0, none⟩) (Kd.R_types HO_453000.out BK492.out (by decide)) (fun _ hk => hk.2) (.slice Ao314 t488.length co314)) (fun _ h_ => h_.1))) (Kd.R_base ho0) hb); replace HO_459000 := aS_ (Kd.R_elder' (by (with_reducible repeat (first | apply rA_ | apply rN_ | apply rD_)); exact (Kd.R_mono (Kd.R_far (p := ⟨gb492, 0, none⟩) (Kd.R_types HO_459000.out BK492.out (by decide)) (fun _ hk => hk.2) (.slice Ao314 t488.length co314)) (fun _ h_ => h_.1))) (Kd.R_base ho0) hb); replace HO_465000 := aS_ (Kd.R_elder' (by (with_reducible repeat (first | apply rA_ | apply rN_ | apply rD_)); exact (Kd.R_mono (Kd.R_far (p := ⟨gb492, 0, none⟩) (Kd.R_types HO_465000.out BK492.out (by decide)) (fun _ hk => hk.2) (.slice Ao314 t488.length co314)) (fun _ h_ => h_.1))) (Kd.R_base ho0) hb); replace HO490 := aS_ (Kd.R_elder' (by (with_reducible repeat (first | apply rA_ | apply rN_ | apply rD_)); exact (Kd.R_mono (Kd.R_far (p := ⟨gb492, 0, none⟩) (Kd.R_types HO490.out BK492.out (by decide)) (fun _ hk => hk.2) (.slice Ao314 t488.length co314)) (fun _ h_ => h_.1))) (Kd.R_base ho0) hb); replace BK452 := aS_ (blk_below (g := gb452) (o := .cells #[.slice Ao11 t448.length co11] 26 (0, 0)) (by (with_reducible repeat (first | refine kN_ ?_ _ | refine kD_ ?_ | refine kA_ ?_ _)); refine blk_far ?_ NB452_492.out _; (with_reducible repeat (first | refine kN_ ?_ _ | refine kD_ ?_ | refine kA_ ?_ _)); exact BK452.out) hb); replace BK458 := aS_ (blk_below (g := gb458) (o := .cells #[.slice Ao15 t453.length co15] 26 (0, 0)) (by (with_reducible repeat (first | refine kN_ ?_ _ | refine kD_ ?_ | refine kA_ ?_ _)); refine blk_far ?_ NB458_492.out _; (with_reducible repeat (first | refine kN_ ?_ _ | refine kD_ ?_ | refine kA_ ?_ _)); exact BK458.out) hb); replace BK464 := aS_ (blk_below (g := gb464) (o := .cells #[.slice Ao21 t459.length co21] 26 (0, 0)) (by (with_reducible repeat (first | refine kN_ ?_ _ | refine kD_ ?_ | refine kA_ ?_ _)); refine blk_far ?_ NB464_492.out _; (with_reducible repeat (first | refine kN_ ?_ _ | refine kD_ ?_ | refine kA_ ?_ _)); exact BK464.out) hb); replace BK492 := aS_ (blk_below (g := gb492) (o := .cells #[.slice Ao314 t488.length co314] 26 (0, 0)) (by (with_reducible repeat (first | refine kN_ ?_ _ | refine kD_ ?_ | refine kA_ ?_ _)); refine blk_put (cs := #[.slice none 0 0]) ?_ 0 _ rfl; (with_reducible repeat (first | refine kN_ ?_ _ | refine kD_ ?_ | refine kA_ ?_ _)); exact BK492.out) hb); replace HB := bE_ HB hb; (try clear hb); (try clear hk); (try clear ho0)) | ((with_reducible refine gate_dst (N := 28) rfl ?_); (try (refine gate_guard (by rfl) ?_; dsimp only)); refine box_event ?hg (N := 28) ?hd (cs := #[.slice none 0 0]) (t := 26) ?hr ?_; (case hd => rfl); (case hg => rfl); (case hr => first | (go_simp; done) | (go_simp; rfl)); intro gb497 hg w320 hbox hb; replace HO_453000 := aS_ (Kd.R_below (rr_ HO_453000) hb); replace HO_459000 := aS_ (Kd.R_below (rr_ HO_459000) hb); replace HO_465000 := aS_ (Kd.R_below (rr_ HO_465000) hb); replace HO490 := aS_ (Kd.R_below (rr_ HO490) hb); replace HO495 := aS_ (Kd.R_below (rr_ HO495) hb); have BK497 := aS_ (hbox); have GW497 := gE_ HB hg; have GE497 := gE_ HB hg; replace HB := bE_ HB hb; have NB452_497 := nL_ BK452 hg; have NB497_452 := nG_ BK452 hg; replace BK452 := kO_ BK452 hb; have NB458_497 := nL_ BK458 hg; have NB497_458 := nG_ BK458 hg; replace BK458 := kO_ BK458 hb; have NB464_497 := nL_ BK464 hg; have NB497_464 := nG_ BK464 hg; replace BK464 := kO_ BK464 hb; have NB492_497 := nL_ BK492 hg; have NB497_492 := nG_ BK492 hg; replace BK492 := kO_ BK492 hb; clear hb hbox hg; obtain ⟨Ao321, co321, eo321⟩ := Kd.R_slice HO495.out; subst eo321; have hnb322 := NB497_452.out; have hnc322 := NB452_497.out; have hnb323 := NB497_458.out; have hnc323 := NB458_497.out; have hnb324 := NB497_464.out; have hnc324 := NB464_497.out; have hnb325 := NB497_492.out; have hnc325 := NB492_497.out; have hcz326_0 : w320.cell? ⟨gb497, 0, none⟩ = some (.slice none 0 0) := (blk_cell BK497.out 0).trans rfl; have hfz326_0 := blk_frozen BK497.out 0; have hcz327_0 : w320.cell? ⟨gb492, 0, none⟩ = some (.slice Ao314 t488.length co314) := (blk_cell BK492.out 0).trans rfl; have hfz327_0 := blk_frozen BK492.out 0) | ((with_reducible refine gate_callee (f := 15) rfl ?_); refine goesL_ (some 173) rfl rfl Try.func15 (by kernel_rfl) rfl #[.agg #[.slice Ao314 t488.length co314], .int .i64 t491] rfl aR_ ?_; (with_reducible refine (spec_RemoveKey.calls kj40 _ _ t488 t491 t498 t501 _ ?side1 ?side2 A309.out).mono ?_); (case side1 => refine (Kd.R_reads' (e := 3) (base := w.heap.size) (ok := fun k_ => ((((True ∧ some k_ ≠ (.slice Ao11 t448.length co11 : Value).ownBlock) ∧ some k_ ≠ (.slice Ao15 t453.length co15 : Value).ownBlock) ∧ some k_ ≠ (.slice Ao21 t459.length co21 : Value).ownBlock) ∧ some k_ ≠ (.slice Ao321 t493.length co321 : Value).ownBlock)) (n := t488.length) (c := co314) ?_).2.2; exact (by (with_reducible repeat (first | apply rA_ | apply rN_ | apply rD_)); exact (Kd.R_mono (Kd.R_far (p := ⟨gb497, 0, none⟩) (Kd.R_types HO490.out BK497.out (by decide)) (fun _ hk => hk.2) (.slice Ao321 t493.length co321)) (fun _ h_ => h_.1)))); (case side2 => exact (Kd.R_reads' HO490.out).2.1); rintro e w328 ⟨v499, rfl, ho0, hb⟩; refine ⟨_, rfl, ?_⟩; have HO500 := aS_ (Kd.R_lower (Kd.R_new' (Kd.R_new' (Kd.R_new' (Kd.R_new' (Kd.R_new' ho0 (Kd.R_lt (by (with_reducible repeat (first | apply rA_ | apply rN_ | apply rD_)); exact (Kd.R_mono (Kd.R_far (p := ⟨gb497, 0, none⟩) (Kd.R_types HO_453000.out BK497.out (by decide)) (fun _ hk => hk.2) (.slice Ao321 t493.length co321)) (fun _ h_ => h_.1))))) (Kd.R_lt (by (with_reducible repeat (first | apply rA_ | apply rN_ | apply rD_)); exact (Kd.R_mono (Kd.R_far (p := ⟨gb497, 0, none⟩) (Kd.R_types HO_459000.out BK497.out (by decide)) (fun _ hk => hk.2) (.slice Ao321 t493.length co321)) (fun _ h_ => h_.1))))) (Kd.R_lt (by (with_reducible repeat (first | apply rA_ | apply rN_ | apply rD_)); exact (Kd.R_mono (Kd.R_far (p := ⟨gb497, 0, none⟩) (Kd.R_types HO_465000.out BK497.out (by decide)) (fun _ hk => hk.2) (.slice Ao321 t493.length co321)) (fun _ h_ => h_.1))))) (Kd.R_lt (by (with_reducible repeat (first | apply rA_ | apply rN_ | apply rD_)); exact (Kd.R_mono (Kd.R_far (p := ⟨gb497, 0, none⟩) (Kd.R_types HO490.out BK497.out (by decide)) (fun _ hk => hk.2) (.slice Ao321 t493.length co321)) (fun _ h_ => h_.1))))) (Kd.R_lt (by (with_reducible repeat (first | apply rA_ | apply rN_ | apply rD_)); exact (Kd.R_mono (Kd.R_far (p := ⟨gb497, 0, none⟩) (Kd.R_types HO495.out BK497.out (by decide)) (fun _ hk => hk.2) (.slice Ao321 t493.length co321)) (fun _ h_ => h_.1))))) (below_size (bb_ HB))); replace HO_453000 := aS_ (Kd.R_elder' (by (with_reducible repeat (first | apply rA_ | apply rN_ | apply rD_)); exact (Kd.R_mono (Kd.R_far (p := ⟨gb497, 0, none⟩) (Kd.R_types HO_453000.out BK497.out (by decide)) (fun _ hk => hk.2) (.slice Ao321 t493.length co321)) (fun _ h_ => h_.1))) (Kd.R_base ho0) hb); replace HO_459000 := aS_ (Kd.R_elder' (by (with_reducible repeat (first | apply rA_ | apply rN_ | apply rD_)); exact (Kd.R_mono (Kd.R_far (p := ⟨gb497, 0, none⟩) (Kd.R_types HO_459000.out BK497.out (by decide)) (fun _ hk => hk.2) (.slice Ao321 t493.length co321)) (fun _ h_ => h_.1))) (Kd.R_base ho0) hb); replace HO_465000 := aS_ (Kd.R_elder' (by (with_reducible repeat (first | apply rA_ | apply rN_ | apply rD_)); exact (Kd.R_mono (Kd.R_far (p := ⟨gb497, 0, none⟩) (Kd.R_types HO_465000.out BK497.out (by decide)) (fun _ hk => hk.2) (.slice Ao321 t493.length co321)) (fun _ h_ => h_.1))) (Kd.R_base ho0) hb); replace HO490 := aS_ (Kd.R_elder' (by (with_reducible repeat (first | apply rA_ | apply rN_ | apply rD_)); exact (Kd.R_mono (Kd.R_far (p := ⟨gb497, 0, none⟩) (Kd.R_types HO490.out BK497.out (by decide)) (fun _ hk => hk.2) (.slice Ao321 t493.length co321)) (fun _ h_ => h_.1))) (Kd.R_base ho0) hb); replace HO495 := aS_ (Kd.R_elder' (by (with_reducible repeat (first | apply rA_ | apply rN_ | apply rD_)); exact (Kd.R_mono (Kd.R_far (p := ⟨gb497, 0, none⟩) (Kd.R_types HO495.out BK497.out (by decide)) (fun _ hk => hk.2) (.slice Ao321 t493.length co321)) (fun _ h_ => h_.1))) (Kd.R_base ho0) hb); replace BK452 := aS_ (blk_below (g := gb452) (o := .cells #[.slice Ao11 t448.length co11] 26 (0, 0)) (by (with_reducible repeat (first | refine kN_ ?_ _ | refine kD_ ?_ | refine kA_ ?_ _)); refine blk_far ?_ NB452_497.out _; (with_reducible repeat (first | refine kN_ ?_ _ | refine kD_ ?_ | refine kA_ ?_ _)); exact BK452.out) hb); replace BK458 := aS_ (blk_below (g := gb458) (o := .cells #[.slice Ao15 t453.length co15] 26 (0, 0)) (by (with_reducible repeat (first | refine kN_ ?_ _ | refine kD_ ?_ | refine kA_ ?_ _)); refine blk_far ?_ NB458_497.out _; (with_reducible repeat (first | refine kN_ ?_ _ | refine kD_ ?_ | refine kA_ ?_ _)); exact BK458.out) hb); replace BK464 := aS_ (blk_below (g := gb464) (o := .cells #[.slice Ao21 t459.length co21] 26 (0, 0)) (by (with_reducible repeat (first | refine kN_ ?_ _ | refine kD_ ?_ | refine kA_ ?_ _)); refine blk_far ?_ NB464_497.out _; (with_reducible repeat (first | refine kN_ ?_ _ | refine kD_ ?_ | refine kA_ ?_ _)); exact BK464.out) hb); replace BK492 := aS_ (blk_below (g := gb492) (o := .cells #[.slice Ao314 t488.length co314] 26 (0, 0)) (by (with_reducible repeat (first | refine kN_ ?_ _ | refine kD_ ?_ | refine kA_ ?_ _)); refine blk_far ?_ NB492_497.out _; (with_reducible repeat (first | refine kN_ ?_ _ | refine kD_ ?_ | refine kA_ ?_ _)); exact BK492.out) hb); replace BK497 := aS_ (blk_below (g := gb497) (o := .cells #[.slice Ao321 t493.length co321] 26 (0, 0)) (by (with_reducible repeat (first | refine kN_ ?_ _ | refine kD_ ?_ | refine kA_ ?_ _)); refine blk_put (cs := #[.slice none 0 0]) ?_ 0 _ rfl; (with_reducible repeat (first | refine kN_ ?_ _ | refine kD_ ?_ | refine kA_ ?_ _)); exact BK497.out) hb); replace HB := bE_ HB hb; (try clear hb); (try clear hk); (try clear ho0)) | ((with_reducible refine gate_dst (N := 30) rfl ?_); (try (refine gate_guard (by rfl) ?_; dsimp only)); refine box_event ?hg (N := 30) ?hd (cs := #[.slice none 0 0]) (t := 26) ?hr ?_; (case hd => rfl); (case hg => rfl); (case hr => first | (go_simp; done) | (go_simp; rfl)); intro gb502 hg w329 hbox hb; replace HO_453000 := aS_ (Kd.R_below (rr_ HO_453000) hb); replace HO_459000 := aS_ (Kd.R_below (rr_ HO_459000) hb); replace HO_465000 := aS_ (Kd.R_below (rr_ HO_465000) hb); replace HO490 := aS_ (Kd.R_below (rr_ HO490) hb); replace HO495 := aS_ (Kd.R_below (rr_ HO495) hb); replace HO500 := aS_ (Kd.R_below (rr_ HO500) hb); have BK502 := aS_ (hbox); have GW502 := gE_ HB hg; have GE502 := gE_ HB hg; replace HB := bE_ HB hb; have NB452_502 := nL_ BK452 hg; have NB502_452 := nG_ BK452 hg; replace BK452 := kO_ BK452 hb; have NB458_502 := nL_ BK458 hg; have NB502_458 := nG_ BK458 hg; replace BK458 := kO_ BK458 hb; have NB464_502 := nL_ BK464 hg; have NB502_464 := nG_ BK464 hg; replace BK464 := kO_ BK464 hb; have NB492_502 := nL_ BK492 hg; have NB502_492 := nG_ BK492 hg; replace BK492 := kO_ BK492 hb; have NB497_502 := nL_ BK497 hg; have NB502_497 := nG_ BK497 hg; replace BK497 := kO_ BK497 hb; clear hb hbox hg; obtain ⟨Ao330, co330, eo330⟩ := Kd.R_slice HO500.out; subst eo330; have hnb331 := NB502_452.out; have hnc331 := NB452_502.out; have hnb332 := NB502_458.out; have hnc332 := NB458_502.out; have hnb333 := NB502_464.out; have hnc333 := NB464_502.out; have hnb334 := NB502_492.out; have hnc334 := NB492_502.out; have hnb335 := NB502_497.out; have hnc335 := NB497_502.out; have hcz336_0 : w329.cell? ⟨gb502, 0, none⟩ = some (.slice none 0 0) := (blk_cell BK502.out 0).trans rfl; have hfz336_0 := blk_frozen BK502.out 0; have hcz337_0 : w329.cell? ⟨gb492, 0, none⟩ = some (.slice Ao314 t488.length co314) := (blk_cell BK492.out 0).trans rfl; have hfz337_0 := blk_frozen BK492.out 0) | ((with_reducible refine gate_callee (f := 9) rfl ?_); refine goesL_ (some 179) rfl rfl Try.func9 (by kernel_rfl) rfl #[.agg #[.slice Ao314 t488.length co314], .int .i64 t491] rfl aR_ ?_; (with_reducible refine (impl_FindKey.calls kj40 _ _ t488 t491 t503 t504 t505 _ ?side1 ?side2 A310.out).mono ?_); (case side1 => refine (Kd.R_reads' (e := 3) (base := w.heap.size) (ok := fun k_ => (((((True ∧ some k_ ≠ (.slice Ao11 t448.length co11 : Value).ownBlock) ∧ some k_ ≠ (.slice Ao15 t453.length co15 : Value).ownBlock) ∧ some k_ ≠ (.slice Ao21 t459.length co21 : Value).ownBlock) ∧ some k_ ≠ (.slice Ao321 t493.length co321 : Value).ownBlock) ∧ some k_ ≠ (.slice Ao330 t498.length co330 : Value).ownBlock)) (n := t488.length) (c := co314) ?_).2.2; exact (by (with_reducible repeat (first | apply rA_ | apply rN_ | apply rD_)); exact (Kd.R_mono (Kd.R_far (p := ⟨gb502, 0, none⟩) (Kd.R_types HO490.out BK502.out (by decide)) (fun _ hk => hk.2) (.slice Ao330 t498.length co330)) (fun _ h_ => h_.1)))); (case side2 => exact (Kd.R_reads' HO490.out).2.1); rintro e w338 ⟨rfl, hb⟩; refine ⟨_, rfl, ?_⟩; replace HO_453000 := aS_ (Kd.R_below (by (with_reducible repeat (first | apply rA_ | apply rN_ | apply rD_)); exact (Kd.R_mono (Kd.R_far (p := ⟨gb502, 0, none⟩) (Kd.R_types HO_453000.out BK502.out (by decide)) (fun _ hk => hk.2) (.slice Ao330 t498.length co330)) (fun _ h_ => h_.1))) hb); replace HO_459000 := aS_ (Kd.R_below (by (with_reducible repeat (first | apply rA_ | apply rN_ | apply rD_)); exact (Kd.R_mono (Kd.R_far (p := ⟨gb502, 0, none⟩) (Kd.R_types HO_459000.out BK502.out (by decide)) (fun _ hk => hk.2) (.slice Ao330 t498.length co330)) (fun _ h_ => h_.1))) hb); replace HO_465000 := aS_ (Kd.R_below (by (with_reducible repeat (first | apply rA_ | apply rN_ | apply rD_)); exact (Kd.R_mono (Kd.R_far (p := ⟨gb502, 0, none⟩) (Kd.R_types HO_465000.out BK502.out (by decide)) (fun _ hk => hk.2) (.slice Ao330 t498.length co330)) (fun _ h_ => h_.1))) hb); replace HO490 := aS_ (Kd.R_below (by (with_reducible repeat (first | apply rA_ | apply rN_ | apply rD_)); exact (Kd.R_mono (Kd.R_far (p := ⟨gb502, 0, none⟩) (Kd.R_types HO490.out BK502.out (by decide)) (fun _ hk => hk.2) (.slice Ao330 t498.length co330)) (fun _ h_ => h_.1))) hb); replace HO495 := aS_ (Kd.R_below (by (with_reducible repeat (first | apply rA_ | apply rN_ | apply rD_)); exact (Kd.R_mono (Kd.R_far (p := ⟨gb502, 0, none⟩) (Kd.R_types HO495.out BK502.out (by decide)) (fun _ hk => hk.2) (.slice Ao330 t498.length co330)) (fun _ h_ => h_.1))) hb); replace HO500 := aS_ (Kd.R_below (by (with_reducible repeat (first | apply rA_ | apply rN_ | apply rD_)); exact (Kd.R_mono (Kd.R_far (p := ⟨gb502, 0, none⟩) (Kd.R_types HO500.out BK502.out (by decide)) (fun _ hk => hk.2) (.slice Ao330 t498.length co330)) (fun _ h_ => h_.1))) hb); replace BK452 := aS_ (blk_below (g := gb452) (o := .cells #[.slice Ao11 t448.length co11] 26 (0, 0)) (by (with_reducible repeat (first | refine kN_ ?_ _ | refine kD_ ?_ | refine kA_ ?_ _)); refine blk_far ?_ NB452_502.out _; (with_reducible repeat (first | refine kN_ ?_ _ | refine kD_ ?_ | refine kA_ ?_ _)); exact BK452.out) hb); replace BK458 := aS_ (blk_below (g := gb458) (o := .cells #[.slice Ao15 t453.length co15] 26 (0, 0)) (by (with_reducible repeat (first | refine kN_ ?_ _ | refine kD_ ?_ | refine kA_ ?_ _)); refine blk_far ?_ NB458_502.out _; (with_reducible repeat (first | refine kN_ ?_ _ | refine kD_ ?_ | refine kA_ ?_ _)); exact BK458.out) hb); replace BK464 := aS_ (blk_below (g := gb464) (o := .cells #[.slice Ao21 t459.length co21] 26 (0, 0)) (by (with_reducible repeat (first | refine kN_ ?_ _ | refine kD_ ?_ | refine kA_ ?_ _)); refine blk_far ?_ NB464_502.out _; (with_reducible repeat (first | refine kN_ ?_ _ | refine kD_ ?_ | refine kA_ ?_ _)); exact BK464.out) hb); replace BK492 := aS_ (blk_below (g := gb492) (o := .cells #[.slice Ao314 t488.length co314] 26 (0, 0)) (by (with_reducible repeat (first | refine kN_ ?_ _ | refine kD_ ?_ | refine kA_ ?_ _)); refine blk_far ?_ NB492_502.out _; (with_reducible repeat (first | refine kN_ ?_ _ | refine kD_ ?_ | refine kA_ ?_ _)); exact BK492.out) hb); replace BK497 := aS_ (blk_below (g := gb497) (o := .cells #[.slice Ao321 t493.length co321] 26 (0, 0)) (by (with_reducible repeat (first | refine kN_ ?_ _ | refine kD_ ?_ | refine kA_ ?_ _)); refine blk_far ?_ NB497_502.out _; (with_reducible repeat (first | refine kN_ ?_ _ | refine kD_ ?_ | refine kA_ ?_ _)); exact BK497.out) hb); replace BK502 := aS_ (blk_below (g := gb502) (o := .cells #[.slice Ao330 t498.length co330] 26 (0, 0)) (by (with_reducible repeat (first | refine kN_ ?_ _ | refine kD_ ?_ | refine kA_ ?_ _)); refine blk_put (cs := #[.slice none 0 0]) ?_ 0 _ rfl; (with_reducible repeat (first | refine kN_ ?_ _ | refine kD_ ?_ | refine kA_ ?_ _)); exact BK502.out) hb); replace HB := bE_ HB hb; (try clear hb); (try clear hk)))
       (try simp only [Act.put, List.setIfInBounds_toArray, List.set_cons_zero, List.set_cons_succ])
       go_cut [196] (fun v196 wc => ∃ (kq : Nat) (x196_310 : Bool), v196 = .bool x196_310 ∧ Aside0 (laws_FnInsertAndRemove.j2 kq t491 t496 x196_310 t488 t493 = some r) ∧ Aside0 (kq ≤ kj40) ∧ Aside0 (Kd.R (Kd.int .i64) 3 wc w.heap.size (fun k_ => some k_ ≠ ((.slice Ao15 t453.length co15) : Value).ownBlock ∧ some k_ ≠ ((.slice Ao21 t459.length co21) : Value).ownBlock ∧ some k_ ≠ ((.slice Ao314 t488.length co314) : Value).ownBlock ∧ some k_ ≠ ((.slice Ao321 t493.length co321) : Value).ownBlock ∧ some k_ ≠ ((.slice Ao330 t498.length co330) : Value).ownBlock) (.slice Ao11 t448.length co11) t448) ∧ Aside0 (Kd.R (Kd.int .i64) 3 wc w.heap.size (fun k_ => some k_ ≠ ((.slice Ao11 t448.length co11) : Value).ownBlock ∧ some k_ ≠ ((.slice Ao21 t459.length co21) : Value).ownBlock ∧ some k_ ≠ ((.slice Ao314 t488.length co314) : Value).ownBlock ∧ some k_ ≠ ((.slice Ao321 t493.length co321) : Value).ownBlock ∧ some k_ ≠ ((.slice Ao330 t498.length co330) : Value).ownBlock) (.slice Ao15 t453.length co15) t453) ∧ Aside0 (Kd.R (Kd.int .i64) 3 wc w.heap.size (fun k_ => some k_ ≠ ((.slice Ao11 t448.length co11) : Value).ownBlock ∧ some k_ ≠ ((.slice Ao15 t453.length co15) : Value).ownBlock ∧ some k_ ≠ ((.slice Ao314 t488.length co314) : Value).ownBlock ∧ some k_ ≠ ((.slice Ao321 t493.length co321) : Value).ownBlock ∧ some k_ ≠ ((.slice Ao330 t498.length co330) : Value).ownBlock) (.slice Ao21 t459.length co21) t459) ∧ Aside0 (Kd.R (Kd.int .i64) 3 wc w.heap.size (fun k_ => some k_ ≠ ((.slice Ao11 t448.length co11) : Value).ownBlock ∧ some k_ ≠ ((.slice Ao15 t453.length co15) : Value).ownBlock ∧ some k_ ≠ ((.slice Ao21 t459.length co21) : Value).ownBlock ∧ some k_ ≠ ((.slice Ao321 t493.length co321) : Value).ownBlock ∧ some k_ ≠ ((.slice Ao330 t498.length co330) : Value).ownBlock) (.slice Ao314 t488.length co314) t488) ∧ Aside0 (Kd.R (Kd.int .i64) 3 wc w.heap.size (fun k_ => some k_ ≠ ((.slice Ao11 t448.length co11) : Value).ownBlock ∧ some k_ ≠ ((.slice Ao15 t453.length co15) : Value).ownBlock ∧ some k_ ≠ ((.slice Ao21 t459.length co21) : Value).ownBlock ∧ some k_ ≠ ((.slice Ao314 t488.length co314) : Value).ownBlock ∧ some k_ ≠ ((.slice Ao330 t498.length co330) : Value).ownBlock) (.slice Ao321 t493.length co321) t493) ∧ Aside0 (Kd.R (Kd.int .i64) 3 wc w.heap.size (fun k_ => some k_ ≠ ((.slice Ao11 t448.length co11) : Value).ownBlock ∧ some k_ ≠ ((.slice Ao15 t453.length co15) : Value).ownBlock ∧ some k_ ≠ ((.slice Ao21 t459.length co21) : Value).ownBlock ∧ some k_ ≠ ((.slice Ao314 t488.length co314) : Value).ownBlock ∧ some k_ ≠ ((.slice Ao321 t493.length co321) : Value).ownBlock) (.slice Ao330 t498.length co330) t498) ∧ Aside0 (wc.heap[gb452]? = some (.cells #[(.slice Ao11 t448.length co11)] 26 (0, 0))) ∧ Aside0 (wc.heap[gb458]? = some (.cells #[(.slice Ao15 t453.length co15)] 26 (0, 0))) ∧ Aside0 (wc.heap[gb464]? = some (.cells #[(.slice Ao21 t459.length co21)] 26 (0, 0))) ∧ Aside0 (wc.heap[gb492]? = some (.cells #[(.slice Ao314 t488.length co314)] 26 (0, 0))) ∧ Aside0 (wc.heap[gb497]? = some (.cells #[(.slice Ao321 t493.length co321)] 26 (0, 0))) ∧ Aside0 (wc.heap[gb502]? = some (.cells #[(.slice Ao330 t498.length co330)] 26 (0, 0))) ∧ Aside0 (Below w.heap.size w wc))
       case first =>
        have H := HC311.out
        clear HC311
        by_cases c339 : (t496 != t501) = true
        ·rw [if_pos c339] at H
         have c339b0 : (t496 != t501) = true := c339
         (try (have c339b1 : decide (t496 = t501) = false := by simpa using c339))
         (try (have c339b2 : (t496 == t501) = false := by simpa using c339))
         (try (have c339b3 : ¬ (t496 = t501) := by simpa using c339))
         clear c339
         (first | rw [c339b0] | (simp only [i64_w, i32_w]; rw [c339b0]) | skip)
         have H' := aS_ H
         clear H
         go_wp2
         go_meet
         case rel => exact ⟨_, (true), sR_, H', ⟨by have := HJ7.out; have := HJ40.out; first | omega | exact Nat.le_refl _⟩, ⟨by (with_reducible repeat (first | apply rA_ | apply rN_ | apply rD_)); exact Kd.R_mono HO_453000.out (fun _ hk => by first | exact ⟨hk.1.1.1.1, ⟨hk.1.1.1.2, ⟨hk.1.1.2, ⟨hk.1.2, hk.2⟩⟩⟩⟩ | (repeat' first | exact hk.2 | exact hk.1.2 | exact hk.1.1.2 | exact hk.1.1.1.2 | exact hk.1.1.1.1 | exact hk.1.1.1 | exact hk.1.1 | exact hk.1 | refine And.intro ?_ ?_))⟩, ⟨by (with_reducible repeat (first | apply rA_ | apply rN_ | apply rD_)); exact Kd.R_mono HO_459000.out (fun _ hk => by first | exact ⟨hk.1.1.1.1, ⟨hk.1.1.1.2, ⟨hk.1.1.2, ⟨hk.1.2, hk.2⟩⟩⟩⟩ | (repeat' first | exact hk.2 | exact hk.1.2 | exact hk.1.1.2 | exact hk.1.1.1.2 | exact hk.1.1.1.1 | exact hk.1.1.1 | exact hk.1.1 | exact hk.1 | refine And.intro ?_ ?_))⟩, ⟨by (with_reducible repeat (first | apply rA_ | apply rN_ | apply rD_)); exact Kd.R_mono HO_465000.out (fun _ hk => by first | exact ⟨hk.1.1.1.1, ⟨hk.1.1.1.2, ⟨hk.1.1.2, ⟨hk.1.2, hk.2⟩⟩⟩⟩ | (repeat' first | exact hk.2 | exact hk.1.2 | exact hk.1.1.2 | exact hk.1.1.1.2 | exact hk.1.1.1.1 | exact hk.1.1.1 | exact hk.1.1 | exact hk.1 | refine And.intro ?_ ?_))⟩, ⟨by (with_reducible repeat (first | apply rA_ | apply rN_ | apply rD_)); exact Kd.R_mono HO490.out (fun _ hk => by first | exact ⟨hk.1.1.1.1.2, ⟨hk.1.1.1.2, ⟨hk.1.1.2, ⟨hk.1.2, hk.2⟩⟩⟩⟩ | (repeat' first | exact hk.2 | exact hk.1.2 | exact hk.1.1.2 | exact hk.1.1.1.2 | exact hk.1.1.1.1 | exact hk.1.1.1 | exact hk.1.1 | exact hk.1 | refine And.intro ?_ ?_))⟩, ⟨by (with_reducible repeat (first | apply rA_ | apply rN_ | apply rD_)); exact Kd.R_mono HO495.out (fun _ hk => by first | exact ⟨hk.1.1.1.1.2, ⟨hk.1.1.1.2, ⟨hk.1.1.2, ⟨hk.1.2, hk.2⟩⟩⟩⟩ | (repeat' first | exact hk.2 | exact hk.1.2 | exact hk.1.1.2 | exact hk.1.1.1.2 | exact hk.1.1.1.1 | exact hk.1.1.1 | exact hk.1.1 | exact hk.1 | refine And.intro ?_ ?_))⟩, ⟨by (with_reducible repeat (first | apply rA_ | apply rN_ | apply rD_)); exact Kd.R_mono HO500.out (fun _ hk => by first | exact ⟨hk.1.1.1.1.2, ⟨hk.1.1.1.2, ⟨hk.1.1.2, ⟨hk.1.2, hk.2⟩⟩⟩⟩ | (repeat' first | exact hk.2 | exact hk.1.2 | exact hk.1.1.2 | exact hk.1.1.1.2 | exact hk.1.1.1.1 | exact hk.1.1.1 | exact hk.1.1 | exact hk.1 | refine And.intro ?_ ?_))⟩, ⟨kk_ BK452⟩, ⟨kk_ BK458⟩, ⟨kk_ BK464⟩, ⟨kk_ BK492⟩, ⟨kk_ BK497⟩, ⟨kk_ BK502⟩, ⟨bb_ HB⟩⟩
        ·as_aux_lemma =>
         rw [if_neg c339] at H
         have c339b0 : (t496 != t501) = false := by simpa using c339
         (try (have c339b1 : decide (t496 = t501) = true := by simpa using c339))
         (try (have c339b2 : (t496 == t501) = true := by simpa using c339))
         clear c339
         (first | rw [c339b0] | (simp only [i64_w, i32_w]; rw [c339b0]) | skip)
         replace H := Option.bind_eq_some_iff.mp H
         obtain ⟨t506, A3400, H⟩ := H
         have A340 := aS_ A3400
         clear A3400
         by_cases c341 : t506 = true
         ·as_aux_lemma =>
          subst c341
          rw [if_pos rfl] at H
          have H' := aS_ H
          clear H
          have hnb342 := NB497_452.out
          have hnc342 := NB452_497.out
          have hnb343 := NB497_458.out
          have hnc343 := NB458_497.out
          have hnb344 := NB497_464.out
          have hnc344 := NB464_497.out
          have hnb345 := NB497_492.out
          have hnc345 := NB492_497.out
          have hnb346 := NB497_502.out
          have hnc346 := NB502_497.out
          have hcz347_0 : w338.cell? ⟨gb497, 0, none⟩ = some (.slice Ao321 t493.length co321) := (blk_cell BK497.out 0).trans rfl
          have hfz347_0 := blk_frozen BK497.out 0
          have hnb348 := NB502_452.out
          have hnc348 := NB452_502.out
          have hnb349 := NB502_458.out
          have hnc349 := NB458_502.out
          have hnb350 := NB502_464.out
          have hnc350 := NB464_502.out
          have hnb351 := NB502_492.out
          have hnc351 := NB492_502.out
          have hcz352_0 : w338.cell? ⟨gb502, 0, none⟩ = some (.slice Ao330 t498.length co330) := (blk_cell BK502.out 0).trans rfl
          have hfz352_0 := blk_frozen BK502.out 0
          go_wp2_with (first | (go_at_call 8; (with_reducible refine (laws_jTable.calls kj40 _ _ t493 _ _ t498 true _ ?side1 ?side2 ?side3 ?side4 A340.out).mono ?_); (case side1 => exact cR_ HO495); (case side2 => exact (Kd.R_reads' HO495.out).2.1); (case side3 => exact cR_ HO500); (case side4 => exact (Kd.R_reads' HO500.out).2.1); rintro e w353 ⟨rfl, hb⟩; replace HO_453000 := aS_ (Kd.R_below (rr_ HO_453000) hb); replace HO_459000 := aS_ (Kd.R_below (rr_ HO_459000) hb); replace HO_465000 := aS_ (Kd.R_below (rr_ HO_465000) hb); replace HO490 := aS_ (Kd.R_below (rr_ HO490) hb); replace HO495 := aS_ (Kd.R_below (rr_ HO495) hb); replace HO500 := aS_ (Kd.R_below (rr_ HO500) hb); replace BK452 := kO_ BK452 hb; replace BK458 := kO_ BK458 hb; replace BK464 := kO_ BK464 hb; replace BK492 := kO_ BK492 hb; replace BK497 := kO_ BK497 hb; replace BK502 := kO_ BK502 hb; replace HB := bE_ HB hb; (try clear hb)))
          go_meet
          case rel => exact ⟨_, ((t496 != t505)), sR_, H', ⟨by have := HJ7.out; have := HJ40.out; first | omega | exact Nat.le_refl _⟩, ⟨by (with_reducible repeat (first | apply rA_ | apply rN_ | apply rD_)); exact Kd.R_mono HO_453000.out (fun _ hk => by first | exact ⟨hk.1.1.1.1, ⟨hk.1.1.1.2, ⟨hk.1.1.2, ⟨hk.1.2, hk.2⟩⟩⟩⟩ | (repeat' first | exact hk.2 | exact hk.1.2 | exact hk.1.1.2 | exact hk.1.1.1.2 | exact hk.1.1.1.1 | exact hk.1.1.1 | exact hk.1.1 | exact hk.1 | refine And.intro ?_ ?_))⟩, ⟨by (with_reducible repeat (first | apply rA_ | apply rN_ | apply rD_)); exact Kd.R_mono HO_459000.out (fun _ hk => by first | exact ⟨hk.1.1.1.1, ⟨hk.1.1.1.2, ⟨hk.1.1.2, ⟨hk.1.2, hk.2⟩⟩⟩⟩ | (repeat' first | exact hk.2 | exact hk.1.2 | exact hk.1.1.2 | exact hk.1.1.1.2 | exact hk.1.1.1.1 | exact hk.1.1.1 | exact hk.1.1 | exact hk.1 | refine And.intro ?_ ?_))⟩, ⟨by (with_reducible repeat (first | apply rA_ | apply rN_ | apply rD_)); exact Kd.R_mono HO_465000.out (fun _ hk => by first | exact ⟨hk.1.1.1.1, ⟨hk.1.1.1.2, ⟨hk.1.1.2, ⟨hk.1.2, hk.2⟩⟩⟩⟩ | (repeat' first | exact hk.2 | exact hk.1.2 | exact hk.1.1.2 | exact hk.1.1.1.2 | exact hk.1.1.1.1 | exact hk.1.1.1 | exact hk.1.1 | exact hk.1 | refine And.intro ?_ ?_))⟩, ⟨by (with_reducible repeat (first | apply rA_ | apply rN_ | apply rD_)); exact Kd.R_mono HO490.out (fun _ hk => by first | exact ⟨hk.1.1.1.1.2, ⟨hk.1.1.1.2, ⟨hk.1.1.2, ⟨hk.1.2, hk.2⟩⟩⟩⟩ | (repeat' first | exact hk.2 | exact hk.1.2 | exact hk.1.1.2 | exact hk.1.1.1.2 | exact hk.1.1.1.1 | exact hk.1.1.1 | exact hk.1.1 | exact hk.1 | refine And.intro ?_ ?_))⟩, ⟨by (with_reducible repeat (first | apply rA_ | apply rN_ | apply rD_)); exact Kd.R_mono HO495.out (fun _ hk => by first | exact ⟨hk.1.1.1.1.2, ⟨hk.1.1.1.2, ⟨hk.1.1.2, ⟨hk.1.2, hk.2⟩⟩⟩⟩ | (repeat' first | exact hk.2 | exact hk.1.2 | exact hk.1.1.2 | exact hk.1.1.1.2 | exact hk.1.1.1.1 | exact hk.1.1.1 | exact hk.1.1 | exact hk.1 | refine And.intro ?_ ?_))⟩, ⟨by (with_reducible repeat (first | apply rA_ | apply rN_ | apply rD_)); exact Kd.R_mono HO500.out (fun _ hk => by first | exact ⟨hk.1.1.1.1.2, ⟨hk.1.1.1.2, ⟨hk.1.1.2, ⟨hk.1.2, hk.2⟩⟩⟩⟩ | (repeat' first | exact hk.2 | exact hk.1.2 | exact hk.1.1.2 | exact hk.1.1.1.2 | exact hk.1.1.1.1 | exact hk.1.1.1 | exact hk.1.1 | exact hk.1 | refine And.intro ?_ ?_))⟩, ⟨kk_ BK452⟩, ⟨kk_ BK458⟩, ⟨kk_ BK464⟩, ⟨kk_ BK492⟩, ⟨kk_ BK497⟩, ⟨kk_ BK502⟩, ⟨bb_ HB⟩⟩
         ·as_aux_lemma =>
          replace c341 := Bool.eq_false_iff.mpr c341
          subst c341
          rw [if_neg (show ¬ (false = true) by decide)] at H
          have H' := aS_ H
          clear H
          have hnb354 := NB497_452.out
          have hnc354 := NB452_497.out
          have hnb355 := NB497_458.out
          have hnc355 := NB458_497.out
          have hnb356 := NB497_464.out
          have hnc356 := NB464_497.out
          have hnb357 := NB497_492.out
          have hnc357 := NB492_497.out
          have hnb358 := NB497_502.out
          have hnc358 := NB502_497.out
          have hcz359_0 : w338.cell? ⟨gb497, 0, none⟩ = some (.slice Ao321 t493.length co321) := (blk_cell BK497.out 0).trans rfl
          have hfz359_0 := blk_frozen BK497.out 0
          have hnb360 := NB502_452.out
          have hnc360 := NB452_502.out
          have hnb361 := NB502_458.out
          have hnc361 := NB458_502.out
          have hnb362 := NB502_464.out
          have hnc362 := NB464_502.out
          have hnb363 := NB502_492.out
          have hnc363 := NB492_502.out
          have hcz364_0 : w338.cell? ⟨gb502, 0, none⟩ = some (.slice Ao330 t498.length co330) := (blk_cell BK502.out 0).trans rfl
          have hfz364_0 := blk_frozen BK502.out 0
          go_wp2_with (first | (go_at_call 8; (with_reducible refine (laws_jTable.calls kj40 _ _ t493 _ _ t498 false _ ?side1 ?side2 ?side3 ?side4 A340.out).mono ?_); (case side1 => exact cR_ HO495); (case side2 => exact (Kd.R_reads' HO495.out).2.1); (case side3 => exact cR_ HO500); (case side4 => exact (Kd.R_reads' HO500.out).2.1); rintro e w365 ⟨rfl, hb⟩; replace HO_453000 := aS_ (Kd.R_below (rr_ HO_453000) hb); replace HO_459000 := aS_ (Kd.R_below (rr_ HO_459000) hb); replace HO_465000 := aS_ (Kd.R_below (rr_ HO_465000) hb); replace HO490 := aS_ (Kd.R_below (rr_ HO490) hb); replace HO495 := aS_ (Kd.R_below (rr_ HO495) hb); replace HO500 := aS_ (Kd.R_below (rr_ HO500) hb); replace BK452 := kO_ BK452 hb; replace BK458 := kO_ BK458 hb; replace BK464 := kO_ BK464 hb; replace BK492 := kO_ BK492 hb; replace BK497 := kO_ BK497 hb; replace BK502 := kO_ BK502 hb; replace HB := bE_ HB hb; (try clear hb)))
          go_meet
          case rel => exact ⟨_, (true), sR_, H', ⟨by have := HJ7.out; have := HJ40.out; first | omega | exact Nat.le_refl _⟩, ⟨by (with_reducible repeat (first | apply rA_ | apply rN_ | apply rD_)); exact Kd.R_mono HO_453000.out (fun _ hk => by first | exact ⟨hk.1.1.1.1, ⟨hk.1.1.1.2, ⟨hk.1.1.2, ⟨hk.1.2, hk.2⟩⟩⟩⟩ | (repeat' first | exact hk.2 | exact hk.1.2 | exact hk.1.1.2 | exact hk.1.1.1.2 | exact hk.1.1.1.1 | exact hk.1.1.1 | exact hk.1.1 | exact hk.1 | refine And.intro ?_ ?_))⟩, ⟨by (with_reducible repeat (first | apply rA_ | apply rN_ | apply rD_)); exact Kd.R_mono HO_459000.out (fun _ hk => by first | exact ⟨hk.1.1.1.1, ⟨hk.1.1.1.2, ⟨hk.1.1.2, ⟨hk.1.2, hk.2⟩⟩⟩⟩ | (repeat' first | exact hk.2 | exact hk.1.2 | exact hk.1.1.2 | exact hk.1.1.1.2 | exact hk.1.1.1.1 | exact hk.1.1.1 | exact hk.1.1 | exact hk.1 | refine And.intro ?_ ?_))⟩, ⟨by (with_reducible repeat (first | apply rA_ | apply rN_ | apply rD_)); exact Kd.R_mono HO_465000.out (fun _ hk => by first | exact ⟨hk.1.1.1.1, ⟨hk.1.1.1.2, ⟨hk.1.1.2, ⟨hk.1.2, hk.2⟩⟩⟩⟩ | (repeat' first | exact hk.2 | exact hk.1.2 | exact hk.1.1.2 | exact hk.1.1.1.2 | exact hk.1.1.1.1 | exact hk.1.1.1 | exact hk.1.1 | exact hk.1 | refine And.intro ?_ ?_))⟩, ⟨by (with_reducible repeat (first | apply rA_ | apply rN_ | apply rD_)); exact Kd.R_mono HO490.out (fun _ hk => by first | exact ⟨hk.1.1.1.1.2, ⟨hk.1.1.1.2, ⟨hk.1.1.2, ⟨hk.1.2, hk.2⟩⟩⟩⟩ | (repeat' first | exact hk.2 | exact hk.1.2 | exact hk.1.1.2 | exact hk.1.1.1.2 | exact hk.1.1.1.1 | exact hk.1.1.1 | exact hk.1.1 | exact hk.1 | refine And.intro ?_ ?_))⟩, ⟨by (with_reducible repeat (first | apply rA_ | apply rN_ | apply rD_)); exact Kd.R_mono HO495.out (fun _ hk => by first | exact ⟨hk.1.1.1.1.2, ⟨hk.1.1.1.2, ⟨hk.1.1.2, ⟨hk.1.2, hk.2⟩⟩⟩⟩ | (repeat' first | exact hk.2 | exact hk.1.2 | exact hk.1.1.2 | exact hk.1.1.1.2 | exact hk.1.1.1.1 | exact hk.1.1.1 | exact hk.1.1 | exact hk.1 | refine And.intro ?_ ?_))⟩, ⟨by (with_reducible repeat (first | apply rA_ | apply rN_ | apply rD_)); exact Kd.R_mono HO500.out (fun _ hk => by first | exact ⟨hk.1.1.1.1.2, ⟨hk.1.1.1.2, ⟨hk.1.1.2, ⟨hk.1.2, hk.2⟩⟩⟩⟩ | (repeat' first | exact hk.2 | exact hk.1.2 | exact hk.1.1.2 | exact hk.1.1.1.2 | exact hk.1.1.1.1 | exact hk.1.1.1 | exact hk.1.1 | exact hk.1 | refine And.intro ?_ ?_))⟩, ⟨kk_ BK452⟩, ⟨kk_ BK458⟩, ⟨kk_ BK464⟩, ⟨kk_ BK492⟩, ⟨kk_ BK497⟩, ⟨kk_ BK502⟩, ⟨bb_ HB⟩⟩
       case rest =>
        clear HC311
        try clear c1
        try clear c2
        try clear p2
        try clear c3
        try clear c4
        try clear p4
        try clear q4
        try clear hx4
        try clear c5
        try clear c6
        try clear c7
        try clear c8
        try clear c9
        try clear c10
        try clear c11
        try clear c12
        try clear c13
        try clear c14
        try clear c15
        try clear c16
        try clear c17
        try clear c18
        try clear c19
        try clear c20
        try clear c21
        try clear c22
        try clear c23
        try clear c24
        try clear c25
        try clear c25b0
        try clear c25b1
        try clear c25b2
        try clear c26
        try clear c27
        try clear c28
        try clear c29
        try clear c31
        try clear c32
        try clear c33
        try clear c34
        try clear c35
        try clear c36
        try clear c37
        try clear c40
        try clear c42
        try clear p48
        try clear q48
        try clear hx48
        try clear c49
        try clear c50
        try clear c50b0
        try clear c50b1
        try clear c51
        try clear c52
        try clear c53
        try clear c55
        try clear c56
        try clear c57
        try clear c58
        try clear c58b0
        try clear c58b1
        try clear c59
        try clear c59b0
        try clear c60
        try clear c60b0
        try clear c61
        try clear c61b0
        try clear c61b1
        try clear c62
        try clear c63
        try clear c70
        try clear c71
        try clear c72
        try clear c74
        try clear c86
        try clear c87
        try clear c94
        try clear c95
        try clear c96
        try clear c98
        try clear c110
        try clear c111
        try clear c118
        try clear c119
        try clear c120
        try clear c122
        try clear c133
        try clear c134
        try clear c141
        try clear c142
        try clear c143
        try clear c145
        try clear c156
        try clear c157
        try clear c164
        try clear c165
        try clear c166
        try clear c168
        try clear c179
        try clear c180
        try clear c187
        try clear c188
        try clear c189
        try clear c191
        try clear c202
        try clear c203
        try clear c210
        try clear c211
        try clear c212
        try clear c214
        try clear c223
        try clear c224
        try clear c231
        try clear c232
        try clear c233
        try clear c235
        try clear c244
        try clear c245
        try clear c252
        try clear c253
        try clear c254
        try clear c256
        try clear c265
        try clear c266
        try clear c273
        try clear c274
        try clear c275
        try clear c277
        try clear c286
        try clear c287
        try clear c294
        try clear c295
        try clear c296
        try clear c298
        try clear c315
        try clear c316
        try clear c317
        try clear c322
        try clear c323
        try clear c324
        try clear c325
        try clear c331
        try clear c332
        try clear c333
        try clear c334
        try clear c335
        try clear c339
        try clear c339b0
        try clear c339b1
        try clear c339b2
        try clear c341
        try clear c342
        try clear c343
        try clear c344
        try clear c345
        try clear c346
        try clear c348
        try clear c349
        try clear c350
        try clear c351
        try clear c354
        try clear c355
        try clear c356
        try clear c357
        try clear c358
        try clear c360
        try clear c361
        try clear c362
        try clear c363
        try clear hcz101_0
        try clear hcz103_0
        try clear hcz105_0
        try clear hcz109_0
        try clear hcz112_0
        try clear hcz114_0
        try clear hcz121_0
        try clear hcz123_0
        try clear hcz125_0
        try clear hcz127_0
        try clear hcz129_0
        try clear hcz12_0
        try clear hcz135_0
        try clear hcz137_0
        try clear hcz144_0
        try clear hcz146_0
        try clear hcz148_0
        try clear hcz150_0
        try clear hcz152_0
        try clear hcz158_0
        try clear hcz160_0
        try clear hcz167_0
        try clear hcz169_0
        try clear hcz171_0
        try clear hcz173_0
        try clear hcz175_0
        try clear hcz17_0
        try clear hcz181_0
        try clear hcz183_0
        try clear hcz18_0
        try clear hcz190_0
        try clear hcz192_0
        try clear hcz194_0
        try clear hcz196_0
        try clear hcz198_0
        try clear hcz204_0
        try clear hcz206_0
        try clear hcz213_0
        try clear hcz215_0
        try clear hcz217_0
        try clear hcz219_0
        try clear hcz221_0
        try clear hcz225_0
        try clear hcz227_0
        try clear hcz234_0
        try clear hcz236_0
        try clear hcz238_0
        try clear hcz240_0
        try clear hcz242_0
        try clear hcz246_0
        try clear hcz248_0
        try clear hcz24_0
        try clear hcz255_0
        try clear hcz257_0
        try clear hcz259_0
        try clear hcz261_0
        try clear hcz263_0
        try clear hcz267_0
        try clear hcz269_0
        try clear hcz276_0
        try clear hcz278_0
        try clear hcz280_0
        try clear hcz282_0
        try clear hcz284_0
        try clear hcz288_0
        try clear hcz290_0
        try clear hcz297_0
        try clear hcz299_0
        try clear hcz301_0
        try clear hcz303_0
        try clear hcz305_0
        try clear hcz30_0
        try clear hcz318_0
        try clear hcz326_0
        try clear hcz327_0
        try clear hcz32_0
        try clear hcz336_0
        try clear hcz337_0
        try clear hcz347_0
        try clear hcz352_0
        try clear hcz359_0
        try clear hcz364_0
        try clear hcz36_0
        try clear hcz38_0
        try clear hcz64_0
        try clear hcz66_0
        try clear hcz73_0
        try clear hcz75_0
        try clear hcz77_0
        try clear hcz79_0
        try clear hcz81_0
        try clear hcz85_0
        try clear hcz88_0
        try clear hcz90_0
        try clear hcz97_0
        try clear hcz99_0
        try clear hfz101_0
        try clear hfz103_0
        try clear hfz105_0
        try clear hfz109_0
        try clear hfz112_0
        try clear hfz114_0
        try clear hfz121_0
        try clear hfz123_0
        try clear hfz125_0
        try clear hfz127_0
        try clear hfz129_0
        try clear hfz12_0
        try clear hfz135_0
        try clear hfz137_0
        try clear hfz144_0
        try clear hfz146_0
        try clear hfz148_0
        try clear hfz150_0
        try clear hfz152_0
        try clear hfz158_0
        try clear hfz160_0
        try clear hfz167_0
        try clear hfz169_0
        try clear hfz171_0
        try clear hfz173_0
        try clear hfz175_0
        try clear hfz17_0
        try clear hfz181_0
        try clear hfz183_0
        try clear hfz18_0
        try clear hfz190_0
        try clear hfz192_0
        try clear hfz194_0
        try clear hfz196_0
        try clear hfz198_0
        try clear hfz204_0
        try clear hfz206_0
        try clear hfz213_0
        try clear hfz215_0
        try clear hfz217_0
        try clear hfz219_0
        try clear hfz221_0
        try clear hfz225_0
        try clear hfz227_0
        try clear hfz234_0
        try clear hfz236_0
        try clear hfz238_0
        try clear hfz240_0
        try clear hfz242_0
        try clear hfz246_0
        try clear hfz248_0
        try clear hfz24_0
        try clear hfz255_0
        try clear hfz257_0
        try clear hfz259_0
        try clear hfz261_0
        try clear hfz263_0
        try clear hfz267_0
        try clear hfz269_0
        try clear hfz276_0
        try clear hfz278_0
        try clear hfz280_0
        try clear hfz282_0
        try clear hfz284_0
        try clear hfz288_0
        try clear hfz290_0
        try clear hfz297_0
        try clear hfz299_0
        try clear hfz301_0
        try clear hfz303_0
        try clear hfz305_0
        try clear hfz30_0
        try clear hfz318_0
        try clear hfz326_0
        try clear hfz327_0
        try clear hfz32_0
        try clear hfz336_0
        try clear hfz337_0
        try clear hfz347_0
        try clear hfz352_0
        try clear hfz359_0
        try clear hfz364_0
        try clear hfz36_0
        try clear hfz38_0
        try clear hfz64_0
        try clear hfz66_0
        try clear hfz73_0
        try clear hfz75_0
        try clear hfz77_0
        try clear hfz79_0
        try clear hfz81_0
        try clear hfz85_0
        try clear hfz88_0
        try clear hfz90_0
        try clear hfz97_0
        try clear hfz99_0
        try clear hx487_0
        try clear p2
        try clear p4
        try clear p48
        try clear p487
        try clear q4
        try clear q48
        try clear q487
        obtain ⟨kq, x196_310, rfl, HA, HJ310, HO_453000, HO_459000, HO_465000, HO_493000, HO_498000, HO_503000, BK452, BK458, BK464, BK492, BK497, BK502, HB⟩ := hcut
        cases kq with
        | zero => exact absurd HA.out (by simp [laws_FnInsertAndRemove.j2])
        | succ kj310 =>
         have H := HA.out
         clear HA
         simp only [laws_FnInsertAndRemove.j2] at H
         by_cases c366 : x196_310 = true
         ·subst c366
          rw [if_pos rfl] at H
          obtain rfl := Option.some.inj H
          go_wp2
          go_ret
          exact ⟨eR_, bb_ HB⟩
         focus
          replace c366 := Bool.eq_false_iff.mpr c366
          subst c366
          rw [if_neg (show ¬ (false = true) by decide)] at H
          by_cases c367 : t496 = true
          focus
           subst c367
           rw [if_pos rfl] at H
           replace H := Option.bind_eq_some_iff.mp H
           obtain ⟨⟨t507, t510⟩, A3680, H⟩ := H
           have A368 := aS_ A3680
           clear A3680
           replace H := Option.bind_eq_some_iff.mp H
           obtain ⟨⟨t511, t514⟩, A3690, H⟩ := H
           have A369 := aS_ A3690
           clear A3690
           replace H := Option.bind_eq_some_iff.mp H
           obtain ⟨⟨t516, t519⟩, A3700, H⟩ := H
           have A370 := aS_ A3700
           clear A3700
           replace H := Option.bind_eq_some_iff.mp H
           obtain ⟨⟨t520, t523⟩, A3710, H⟩ := H
           have A371 := aS_ A3710
           clear A3710
           by_cases c372 : t510 = true
           focus
            subst c372
            rw [if_pos rfl] at H
            by_cases c373 : t514 = true
            focus
             subst c373
             rw [if_pos rfl] at H
             replace H := Option.bind_eq_some_iff.mp H
             obtain ⟨t524, A3740, H⟩ := H
             have A374 := aS_ A3740
             clear A3740
             by_cases c375 : t524 = true
             focus
              subst c375
              rw [if_pos rfl] at H
              by_cases c376 : t519 = true
              focus
               subst c376
               rw [if_pos rfl] at H
               by_cases c377 : t523 = true
               focus
                subst c377
                rw [if_pos rfl] at H
                by_cases c378 : (t516.length : Int) = (wrap64 ((t520.length : Int) - 1))
                focus
                 rw [if_pos c378] at H
                 have c378b0 : ((t516.length : Int) == (wrap64 ((t520.length : Int) - 1))) = true := beq_iff_eq.mpr c378
                 have c378b1 : ((t516.length : Int) != (wrap64 ((t520.length : Int) - 1))) = false := bne_eq_false_iff_eq.mpr c378
                 clear c378
                 replace H := Option.bind_eq_some_iff.mp H
                 obtain ⟨t525, A3790, H⟩ := H
                 have A379 := aS_ A3790
                 clear A3790
                 obtain rfl := Option.some.inj H
                 have hnb380 := NB497_452.out
                 have hnc380 := NB452_497.out
                 have hnb381 := NB497_458.out
                 have hnc381 := NB458_497.out
                 have hnb382 := NB497_464.out
                 have hnc382 := NB464_497.out
                 have hnb383 := NB497_492.out
                 have hnc383 := NB492_497.out
                 have hnb384 := NB497_502.out
                 have hnc384 := NB502_497.out
                 have hcz385_0 : wc.cell? ⟨gb497, 0, none⟩ = some (.slice Ao321 t493.length co321) := (blk_cell BK497.out 0).trans rfl
                 have hfz385_0 := blk_frozen BK497.out 0
                rotate_left 1
                focus
                 rw [if_neg c378] at H
                 have c378b0 : ((t516.length : Int) == (wrap64 ((t520.length : Int) - 1))) = false := beq_eq_false_iff_ne.mpr c378
                 have c378b1 : ((t516.length : Int) != (wrap64 ((t520.length : Int) - 1))) = true := bne_iff_ne.mpr c378
                 obtain rfl := Option.some.inj H
                 have hnb412 := NB497_452.out
                 have hnc412 := NB452_497.out
                 have hnb413 := NB497_458.out
                 have hnc413 := NB458_497.out
                 have hnb414 := NB497_464.out
                 have hnc414 := NB464_497.out
                 have hnb415 := NB497_492.out
                 have hnc415 := NB492_497.out
                 have hnb416 := NB497_502.out
                 have hnc416 := NB502_497.out
                 have hcz417_0 : wc.cell? ⟨gb497, 0, none⟩ = some (.slice Ao321 t493.length co321) := (blk_cell BK497.out 0).trans rfl
                 have hfz417_0 := blk_frozen BK497.out 0
                rotate_left 1
               rotate_left 2
               focus
                replace c377 := Bool.eq_false_iff.mpr c377
                subst c377
                rw [if_neg (show ¬ (false = true) by decide)] at H
                obtain rfl := Option.some.inj H
                have hnb444 := NB497_452.out
                have hnc444 := NB452_497.out
                have hnb445 := NB497_458.out
                have hnc445 := NB458_497.out
                have hnb446 := NB497_464.out
                have hnc446 := NB464_497.out
                have hnb447 := NB497_492.out
                have hnc447 := NB492_497.out
                have hnb448 := NB497_502.out
                have hnc448 := NB502_497.out
                have hcz449_0 : wc.cell? ⟨gb497, 0, none⟩ = some (.slice Ao321 t493.length co321) := (blk_cell BK497.out 0).trans rfl
                have hfz449_0 := blk_frozen BK497.out 0
               rotate_left 1
              rotate_left 3
              focus
               replace c376 := Bool.eq_false_iff.mpr c376
               subst c376
               rw [if_neg (show ¬ (false = true) by decide)] at H
               obtain rfl := Option.some.inj H
               have hnb474 := NB497_452.out
               have hnc474 := NB452_497.out
               have hnb475 := NB497_458.out
               have hnc475 := NB458_497.out
               have hnb476 := NB497_464.out
               have hnc476 := NB464_497.out
               have hnb477 := NB497_492.out
               have hnc477 := NB492_497.out
               have hnb478 := NB497_502.out
               have hnc478 := NB502_497.out
               have hcz479_0 : wc.cell? ⟨gb497, 0, none⟩ = some (.slice Ao321 t493.length co321) := (blk_cell BK497.out 0).trans rfl
               have hfz479_0 := blk_frozen BK497.out 0
              rotate_left 1
             rotate_left 4
             focus
              replace c375 := Bool.eq_false_iff.mpr c375
              subst c375
              rw [if_neg (show ¬ (false = true) by decide)] at H
              obtain rfl := Option.some.inj H
              have hnb504 := NB497_452.out
              have hnc504 := NB452_497.out
              have hnb505 := NB497_458.out
              have hnc505 := NB458_497.out
              have hnb506 := NB497_464.out
              have hnc506 := NB464_497.out
              have hnb507 := NB497_492.out
              have hnc507 := NB492_497.out
              have hnb508 := NB497_502.out
              have hnc508 := NB502_497.out
              have hcz509_0 : wc.cell? ⟨gb497, 0, none⟩ = some (.slice Ao321 t493.length co321) := (blk_cell BK497.out 0).trans rfl
              have hfz509_0 := blk_frozen BK497.out 0
             rotate_left 1
            rotate_left 5
            focus
             replace c373 := Bool.eq_false_iff.mpr c373
             subst c373
             rw [if_neg (show ¬ (false = true) by decide)] at H
             obtain rfl := Option.some.inj H
             have hnb534 := NB497_452.out
             have hnc534 := NB452_497.out
             have hnb535 := NB497_458.out
             have hnc535 := NB458_497.out
             have hnb536 := NB497_464.out
             have hnc536 := NB464_497.out
             have hnb537 := NB497_492.out
             have hnc537 := NB492_497.out
             have hnb538 := NB497_502.out
             have hnc538 := NB502_497.out
             have hcz539_0 : wc.cell? ⟨gb497, 0, none⟩ = some (.slice Ao321 t493.length co321) := (blk_cell BK497.out 0).trans rfl
             have hfz539_0 := blk_frozen BK497.out 0
            rotate_left 1
           rotate_left 6
           focus
            replace c372 := Bool.eq_false_iff.mpr c372
            subst c372
            rw [if_neg (show ¬ (false = true) by decide)] at H
            obtain rfl := Option.some.inj H
            have hnb561 := NB497_452.out
            have hnc561 := NB452_497.out
            have hnb562 := NB497_458.out
            have hnc562 := NB458_497.out
            have hnb563 := NB497_464.out
            have hnc563 := NB464_497.out
            have hnb564 := NB497_492.out
            have hnc564 := NB492_497.out
            have hnb565 := NB497_502.out
            have hnc565 := NB502_497.out
            have hcz566_0 : wc.cell? ⟨gb497, 0, none⟩ = some (.slice Ao321 t493.length co321) := (blk_cell BK497.out 0).trans rfl
            have hfz566_0 := blk_frozen BK497.out 0
           rotate_left 1
          rotate_left 7
          ·replace c367 := Bool.eq_false_iff.mpr c367
           subst c367
           rw [if_neg (show ¬ (false = true) by decide)] at H
           obtain rfl := Option.some.inj H
           go_wp2
           go_ret
           exact ⟨eR_, bb_ HB⟩
         rotate_left 7
         all_goals as_aux_lemma =>
          go_wp2_with (first | ((with_reducible refine gate_callee (f := 16) rfl ?_); refine goesL_ (some 200) rfl rfl Try.func16 (by kernel_rfl) rfl #[.agg #[.slice Ao321 t493.length co321]] rfl aR_ ?_; (with_reducible refine (impl_FirstInsertion.calls _ _ _ _ _ _ _ ?side1 ?side2 A368.out).mono ?_); (case side1 => exact cR_ HO_498000); (case side2 => exact (Kd.R_reads' HO_498000.out).2.1); rintro e w386 ⟨v508, rfl, ho0, hb⟩; refine ⟨_, rfl, ?_⟩; have HO509 := aS_ (Kd.R_lower (Kd.R_new' (Kd.R_new' (Kd.R_new' (Kd.R_new' (Kd.R_new' (Kd.R_new' ho0 (Kd.R_lt (rr_ HO_453000))) (Kd.R_lt (rr_ HO_459000))) (Kd.R_lt (rr_ HO_465000))) (Kd.R_lt (rr_ HO_493000))) (Kd.R_lt (rr_ HO_498000))) (Kd.R_lt (rr_ HO_503000))) (below_size (bb_ HB))); replace HO_453000 := aS_ (Kd.R_elder' (rr_ HO_453000) (Kd.R_base ho0) hb); replace HO_459000 := aS_ (Kd.R_elder' (rr_ HO_459000) (Kd.R_base ho0) hb); replace HO_465000 := aS_ (Kd.R_elder' (rr_ HO_465000) (Kd.R_base ho0) hb); replace HO_493000 := aS_ (Kd.R_elder' (rr_ HO_493000) (Kd.R_base ho0) hb); replace HO_498000 := aS_ (Kd.R_elder' (rr_ HO_498000) (Kd.R_base ho0) hb); replace HO_503000 := aS_ (Kd.R_elder' (rr_ HO_503000) (Kd.R_base ho0) hb); replace BK452 := kO_ BK452 hb; replace BK458 := kO_ BK458 hb; replace BK464 := kO_ BK464 hb; replace BK492 := kO_ BK492 hb; replace BK497 := kO_ BK497 hb; replace BK502 := kO_ BK502 hb; replace HB := bE_ HB hb; (try clear hb); (try clear ho0); have hnb387 := NB492_452.out; have hnc387 := NB452_492.out; have hnb388 := NB492_458.out; have hnc388 := NB458_492.out; have hnb389 := NB492_464.out; have hnc389 := NB464_492.out; have hnb390 := NB492_502.out; have hnc390 := NB502_492.out; have hcz391_0 : w386.cell? ⟨gb492, 0, none⟩ = some (.slice Ao314 t488.length co314) := (blk_cell BK492.out 0).trans rfl; have hfz391_0 := blk_frozen BK492.out 0; obtain ⟨Ao392, co392, eo392⟩ := Kd.R_slice HO509.out; subst eo392) | ((with_reducible refine gate_callee (f := 17) rfl ?_); refine goesL_ (some 208) rfl rfl Try.func17 (by kernel_rfl) rfl #[.int .i64 (t488.length : Int), .slice Ao392 t507.length co392] rfl aR_ ?_; (with_reducible refine (impl_TableOf.calls _ _ _ _ _ _ _ _ ?side1 ?side2 A369.out).mono ?_); (case side1 => exact cR_ HO509); (case side2 => exact (Kd.R_reads' HO509.out).2.1); rintro e w393 ⟨v512, rfl, ho0, hb⟩; refine ⟨_, rfl, ?_⟩; have HO513 := aS_ (Kd.R_lower (Kd.R_new' (Kd.R_new' (Kd.R_new' (Kd.R_new' (Kd.R_new' (Kd.R_new' (Kd.R_new' ho0 (Kd.R_lt (rr_ HO_453000))) (Kd.R_lt (rr_ HO_459000))) (Kd.R_lt (rr_ HO_465000))) (Kd.R_lt (rr_ HO_493000))) (Kd.R_lt (rr_ HO_498000))) (Kd.R_lt (rr_ HO_503000))) (Kd.R_lt (rr_ HO509))) (below_size (bb_ HB))); replace HO_453000 := aS_ (Kd.R_elder' (rr_ HO_453000) (Kd.R_base ho0) hb); replace HO_459000 := aS_ (Kd.R_elder' (rr_ HO_459000) (Kd.R_base ho0) hb); replace HO_465000 := aS_ (Kd.R_elder' (rr_ HO_465000) (Kd.R_base ho0) hb); replace HO_493000 := aS_ (Kd.R_elder' (rr_ HO_493000) (Kd.R_base ho0) hb); replace HO_498000 := aS_ (Kd.R_elder' (rr_ HO_498000) (Kd.R_base ho0) hb); replace HO_503000 := aS_ (Kd.R_elder' (rr_ HO_503000) (Kd.R_base ho0) hb); replace HO509 := aS_ (Kd.R_elder' (rr_ HO509) (Kd.R_base ho0) hb); replace BK452 := kO_ BK452 hb; replace BK458 := kO_ BK458 hb; replace BK464 := kO_ BK464 hb; replace BK492 := kO_ BK492 hb; replace BK497 := kO_ BK497 hb; replace BK502 := kO_ BK502 hb; replace HB := bE_ HB hb; (try clear hb); (try clear ho0)) | ((with_reducible refine gate_dst (N := 37) rfl ?_); (try (refine gate_guard (by rfl) ?_; dsimp only)); refine box_event ?hg (N := 37) ?hd (cs := #[.slice none 0 0]) (t := 26) ?hr ?_; (case hd => rfl); (case hg => rfl); (case hr => first | (go_simp; done) | (go_simp; rfl)); intro gb515 hg w394 hbox hb; replace HO_453000 := aS_ (Kd.R_below (rr_ HO_453000) hb); replace HO_459000 := aS_ (Kd.R_below (rr_ HO_459000) hb); replace HO_465000 := aS_ (Kd.R_below (rr_ HO_465000) hb); replace HO_493000 := aS_ (Kd.R_below (rr_ HO_493000) hb); replace HO_498000 := aS_ (Kd.R_below (rr_ HO_498000) hb); replace HO_503000 := aS_ (Kd.R_below (rr_ HO_503000) hb); replace HO509 := aS_ (Kd.R_below (rr_ HO509) hb); replace HO513 := aS_ (Kd.R_below (rr_ HO513) hb); have BK515 := aS_ (hbox); have GW515 := gE_ HB hg; have GE515 := gE_ HB hg; replace HB := bE_ HB hb; have NB452_515 := nL_ BK452 hg; have NB515_452 := nG_ BK452 hg; replace BK452 := kO_ BK452 hb; have NB458_515 := nL_ BK458 hg; have NB515_458 := nG_ BK458 hg; replace BK458 := kO_ BK458 hb; have NB464_515 := nL_ BK464 hg; have NB515_464 := nG_ BK464 hg; replace BK464 := kO_ BK464 hb; have NB492_515 := nL_ BK492 hg; have NB515_492 := nG_ BK492 hg; replace BK492 := kO_ BK492 hb; have NB497_515 := nL_ BK497 hg; have NB515_497 := nG_ BK497 hg; replace BK497 := kO_ BK497 hb; have NB502_515 := nL_ BK502 hg; have NB515_502 := nG_ BK502 hg; replace BK502 := kO_ BK502 hb; clear hb hbox hg; obtain ⟨Ao395, co395, eo395⟩ := Kd.R_slice HO513.out; subst eo395; have hnb396 := NB515_452.out; have hnc396 := NB452_515.out; have hnb397 := NB515_458.out; have hnc397 := NB458_515.out; have hnb398 := NB515_464.out; have hnc398 := NB464_515.out; have hnb399 := NB515_492.out; have hnc399 := NB492_515.out; have hnb400 := NB515_497.out; have hnc400 := NB497_515.out; have hnb401 := NB515_502.out; have hnc401 := NB502_515.out; have hcz402_0 : w394.cell? ⟨gb515, 0, none⟩ = some (.slice none 0 0) := (blk_cell BK515.out 0).trans rfl; have hfz402_0 := blk_frozen BK515.out 0; have hcz403_0 : w394.cell? ⟨gb497, 0, none⟩ = some (.slice Ao321 t493.length co321) := (blk_cell BK497.out 0).trans rfl; have hfz403_0 := blk_frozen BK497.out 0) | ((with_reducible refine gate_callee (f := 18) rfl ?_); refine goesL_ (some 213) rfl rfl Try.func18 (by kernel_rfl) rfl #[.agg #[.slice Ao321 t493.length co321]] rfl aR_ ?_; (with_reducible refine (impl_KeysOf.calls _ _ _ _ _ _ _ ?side1 ?side2 A370.out).mono ?_); (case side1 => refine (Kd.R_reads' (e := 3) (base := w.heap.size) (ok := fun k_ => (((some k_ ≠ (.slice Ao11 t448.length co11 : Value).ownBlock ∧ (some k_ ≠ (.slice Ao15 t453.length co15 : Value).ownBlock ∧ (some k_ ≠ (.slice Ao21 t459.length co21 : Value).ownBlock ∧ (some k_ ≠ (.slice Ao314 t488.length co314 : Value).ownBlock ∧ some k_ ≠ (.slice Ao330 t498.length co330 : Value).ownBlock)))) ∧ some k_ ≠ (.slice Ao392 t507.length co392 : Value).ownBlock) ∧ some k_ ≠ (.slice Ao395 t511.length co395 : Value).ownBlock)) (n := t493.length) (c := co321) ?_).2.2; exact (by (with_reducible repeat (first | apply rA_ | apply rN_ | apply rD_)); exact (Kd.R_mono (Kd.R_far (p := ⟨gb515, 0, none⟩) (Kd.R_types HO_498000.out BK515.out (by decide)) (fun _ hk => hk.2) (.slice Ao395 t511.length co395)) (fun _ h_ => h_.1)))); (case side2 => exact (Kd.R_reads' HO_498000.out).2.1); rintro e w404 ⟨v517, rfl, ho0, hb⟩; refine ⟨_, rfl, ?_⟩; have HO518 := aS_ (Kd.R_lower (Kd.R_new' (Kd.R_new' (Kd.R_new' (Kd.R_new' (Kd.R_new' (Kd.R_new' (Kd.R_new' (Kd.R_new' ho0 (Kd.R_lt (by (with_reducible repeat (first | apply rA_ | apply rN_ | apply rD_)); exact (Kd.R_mono (Kd.R_far (p := ⟨gb515, 0, none⟩) (Kd.R_types HO_453000.out BK515.out (by decide)) (fun _ hk => hk.2) (.slice Ao395 t511.length co395)) (fun _ h_ => h_.1))))) (Kd.R_lt (by (with_reducible repeat (first | apply rA_ | apply rN_ | apply rD_)); exact (Kd.R_mono (Kd.R_far (p := ⟨gb515, 0, none⟩) (Kd.R_types HO_459000.out BK515.out (by decide)) (fun _ hk => hk.2) (.slice Ao395 t511.length co395)) (fun _ h_ => h_.1))))) (Kd.R_lt (by (with_reducible repeat (first | apply rA_ | apply rN_ | apply rD_)); exact (Kd.R_mono (Kd.R_far (p := ⟨gb515, 0, none⟩) (Kd.R_types HO_465000.out BK515.out (by decide)) (fun _ hk => hk.2) (.slice Ao395 t511.length co395)) (fun _ h_ => h_.1))))) (Kd.R_lt (by (with_reducible repeat (first | apply rA_ | apply rN_ | apply rD_)); exact (Kd.R_mono (Kd.R_far (p := ⟨gb515, 0, none⟩) (Kd.R_types HO_493000.out BK515.out (by decide)) (fun _ hk => hk.2) (.slice Ao395 t511.length co395)) (fun _ h_ => h_.1))))) (Kd.R_lt (by (with_reducible repeat (first | apply rA_ | apply rN_ | apply rD_)); exact (Kd.R_mono (Kd.R_far (p := ⟨gb515, 0, none⟩) (Kd.R_types HO_498000.out BK515.out (by decide)) (fun _ hk => hk.2) (.slice Ao395 t511.length co395)) (fun _ h_ => h_.1))))) (Kd.R_lt (by (with_reducible repeat (first | apply rA_ | apply rN_ | apply rD_)); exact (Kd.R_mono (Kd.R_far (p := ⟨gb515, 0, none⟩) (Kd.R_types HO_503000.out BK515.out (by decide)) (fun _ hk => hk.2) (.slice Ao395 t511.length co395)) (fun _ h_ => h_.1))))) (Kd.R_lt (by (with_reducible repeat (first | apply rA_ | apply rN_ | apply rD_)); exact (Kd.R_mono (Kd.R_far (p := ⟨gb515, 0, none⟩) (Kd.R_types HO509.out BK515.out (by decide)) (fun _ hk => hk.2) (.slice Ao395 t511.length co395)) (fun _ h_ => h_.1))))) (Kd.R_lt (by (with_reducible repeat (first | apply rA_ | apply rN_ | apply rD_)); exact (Kd.R_mono (Kd.R_far (p := ⟨gb515, 0, none⟩) (Kd.R_types HO513.out BK515.out (by decide)) (fun _ hk => hk.2) (.slice Ao395 t511.length co395)) (fun _ h_ => h_.1))))) (below_size (bb_ HB))); replace HO_453000 := aS_ (Kd.R_elder' (by (with_reducible repeat (first | apply rA_ | apply rN_ | apply rD_)); exact (Kd.R_mono (Kd.R_far (p := ⟨gb515, 0, none⟩) (Kd.R_types HO_453000.out BK515.out (by decide)) (fun _ hk => hk.2) (.slice Ao395 t511.length co395)) (fun _ h_ => h_.1))) (Kd.R_base ho0) hb); replace HO_459000 := aS_ (Kd.R_elder' (by (with_reducible repeat (first | apply rA_ | apply rN_ | apply rD_)); exact (Kd.R_mono (Kd.R_far (p := ⟨gb515, 0, none⟩) (Kd.R_types HO_459000.out BK515.out (by decide)) (fun _ hk => hk.2) (.slice Ao395 t511.length co395)) (fun _ h_ => h_.1))) (Kd.R_base ho0) hb); replace HO_465000 := aS_ (Kd.R_elder' (by (with_reducible repeat (first | apply rA_ | apply rN_ | apply rD_)); exact (Kd.R_mono (Kd.R_far (p := ⟨gb515, 0, none⟩) (Kd.R_types HO_465000.out BK515.out (by decide)) (fun _ hk => hk.2) (.slice Ao395 t511.length co395)) (fun _ h_ => h_.1))) (Kd.R_base ho0) hb); replace HO_493000 := aS_ (Kd.R_elder' (by (with_reducible repeat (first | apply rA_ | apply rN_ | apply rD_)); exact (Kd.R_mono (Kd.R_far (p := ⟨gb515, 0, none⟩) (Kd.R_types HO_493000.out BK515.out (by decide)) (fun _ hk => hk.2) (.slice Ao395 t511.length co395)) (fun _ h_ => h_.1))) (Kd.R_base ho0) hb); replace HO_498000 := aS_ (Kd.R_elder' (by (with_reducible repeat (first | apply rA_ | apply rN_ | apply rD_)); exact (Kd.R_mono (Kd.R_far (p := ⟨gb515, 0, none⟩) (Kd.R_types HO_498000.out BK515.out (by decide)) (fun _ hk => hk.2) (.slice Ao395 t511.length co395)) (fun _ h_ => h_.1))) (Kd.R_base ho0) hb); replace HO_503000 := aS_ (Kd.R_elder' (by (with_reducible repeat (first | apply rA_ | apply rN_ | apply rD_)); exact (Kd.R_mono (Kd.R_far (p := ⟨gb515, 0, none⟩) (Kd.R_types HO_503000.out BK515.out (by decide)) (fun _ hk => hk.2) (.slice Ao395 t511.length co395)) (fun _ h_ => h_.1))) (Kd.R_base ho0) hb); replace HO509 := aS_ (Kd.R_elder' (by (with_reducible repeat (first | apply rA_ | apply rN_ | apply rD_)); exact (Kd.R_mono (Kd.R_far (p := ⟨gb515, 0, none⟩) (Kd.R_types HO509.out BK515.out (by decide)) (fun _ hk => hk.2) (.slice Ao395 t511.length co395)) (fun _ h_ => h_.1))) (Kd.R_base ho0) hb); replace HO513 := aS_ (Kd.R_elder' (by (with_reducible repeat (first | apply rA_ | apply rN_ | apply rD_)); exact (Kd.R_mono (Kd.R_far (p := ⟨gb515, 0, none⟩) (Kd.R_types HO513.out BK515.out (by decide)) (fun _ hk => hk.2) (.slice Ao395 t511.length co395)) (fun _ h_ => h_.1))) (Kd.R_base ho0) hb); replace BK452 := aS_ (blk_below (g := gb452) (o := .cells #[.slice Ao11 t448.length co11] 26 (0, 0)) (by (with_reducible repeat (first | refine kN_ ?_ _ | refine kD_ ?_ | refine kA_ ?_ _)); refine blk_far ?_ NB452_515.out _; (with_reducible repeat (first | refine kN_ ?_ _ | refine kD_ ?_ | refine kA_ ?_ _)); exact BK452.out) hb); replace BK458 := aS_ (blk_below (g := gb458) (o := .cells #[.slice Ao15 t453.length co15] 26 (0, 0)) (by (with_reducible repeat (first | refine kN_ ?_ _ | refine kD_ ?_ | refine kA_ ?_ _)); refine blk_far ?_ NB458_515.out _; (with_reducible repeat (first | refine kN_ ?_ _ | refine kD_ ?_ | refine kA_ ?_ _)); exact BK458.out) hb); replace BK464 := aS_ (blk_below (g := gb464) (o := .cells #[.slice Ao21 t459.length co21] 26 (0, 0)) (by (with_reducible repeat (first | refine kN_ ?_ _ | refine kD_ ?_ | refine kA_ ?_ _)); refine blk_far ?_ NB464_515.out _; (with_reducible repeat (first | refine kN_ ?_ _ | refine kD_ ?_ | refine kA_ ?_ _)); exact BK464.out) hb); replace BK492 := aS_ (blk_below (g := gb492) (o := .cells #[.slice Ao314 t488.length co314] 26 (0, 0)) (by (with_reducible repeat (first | refine kN_ ?_ _ | refine kD_ ?_ | refine kA_ ?_ _)); refine blk_far ?_ NB492_515.out _; (with_reducible repeat (first | refine kN_ ?_ _ | refine kD_ ?_ | refine kA_ ?_ _)); exact BK492.out) hb); replace BK497 := aS_ (blk_below (g := gb497) (o := .cells #[.slice Ao321 t493.length co321] 26 (0, 0)) (by (with_reducible repeat (first | refine kN_ ?_ _ | refine kD_ ?_ | refine kA_ ?_ _)); refine blk_far ?_ NB497_515.out _; (with_reducible repeat (first | refine kN_ ?_ _ | refine kD_ ?_ | refine kA_ ?_ _)); exact BK497.out) hb); replace BK502 := aS_ (blk_below (g := gb502) (o := .cells #[.slice Ao330 t498.length co330] 26 (0, 0)) (by (with_reducible repeat (first | refine kN_ ?_ _ | refine kD_ ?_ | refine kA_ ?_ _)); refine blk_far ?_ NB502_515.out _; (with_reducible repeat (first | refine kN_ ?_ _ | refine kD_ ?_ | refine kA_ ?_ _)); exact BK502.out) hb); replace BK515 := aS_ (blk_below (g := gb515) (o := .cells #[.slice Ao395 t511.length co395] 26 (0, 0)) (by (with_reducible repeat (first | refine kN_ ?_ _ | refine kD_ ?_ | refine kA_ ?_ _)); refine blk_put (cs := #[.slice none 0 0]) ?_ 0 _ rfl; (with_reducible repeat (first | refine kN_ ?_ _ | refine kD_ ?_ | refine kA_ ?_ _)); exact BK515.out) hb); replace HB := bE_ HB hb; (try clear hb); (try clear hk); (try clear ho0); have hcz405_0 : w404.cell? ⟨gb492, 0, none⟩ = some (.slice Ao314 t488.length co314) := (blk_cell BK492.out 0).trans rfl; have hfz405_0 := blk_frozen BK492.out 0) | ((with_reducible refine gate_callee (f := 18) rfl ?_); refine goesL_ (some 218) rfl rfl Try.func18 (by kernel_rfl) rfl #[.agg #[.slice Ao314 t488.length co314]] rfl aR_ ?_; (with_reducible refine (impl_KeysOf.calls _ _ _ _ _ _ _ ?side1 ?side2 A371.out).mono ?_); (case side1 => exact cR_ HO_493000); (case side2 => exact (Kd.R_reads' HO_493000.out).2.1); rintro e w406 ⟨v521, rfl, ho0, hb⟩; refine ⟨_, rfl, ?_⟩; have HO522 := aS_ (Kd.R_lower (Kd.R_new' (Kd.R_new' (Kd.R_new' (Kd.R_new' (Kd.R_new' (Kd.R_new' (Kd.R_new' (Kd.R_new' (Kd.R_new' ho0 (Kd.R_lt (rr_ HO_453000))) (Kd.R_lt (rr_ HO_459000))) (Kd.R_lt (rr_ HO_465000))) (Kd.R_lt (rr_ HO_493000))) (Kd.R_lt (rr_ HO_498000))) (Kd.R_lt (rr_ HO_503000))) (Kd.R_lt (rr_ HO509))) (Kd.R_lt (rr_ HO513))) (Kd.R_lt (rr_ HO518))) (below_size (bb_ HB))); replace HO_453000 := aS_ (Kd.R_elder' (rr_ HO_453000) (Kd.R_base ho0) hb); replace HO_459000 := aS_ (Kd.R_elder' (rr_ HO_459000) (Kd.R_base ho0) hb); replace HO_465000 := aS_ (Kd.R_elder' (rr_ HO_465000) (Kd.R_base ho0) hb); replace HO_493000 := aS_ (Kd.R_elder' (rr_ HO_493000) (Kd.R_base ho0) hb); replace HO_498000 := aS_ (Kd.R_elder' (rr_ HO_498000) (Kd.R_base ho0) hb); replace HO_503000 := aS_ (Kd.R_elder' (rr_ HO_503000) (Kd.R_base ho0) hb); replace HO509 := aS_ (Kd.R_elder' (rr_ HO509) (Kd.R_base ho0) hb); replace HO513 := aS_ (Kd.R_elder' (rr_ HO513) (Kd.R_base ho0) hb); replace HO518 := aS_ (Kd.R_elder' (rr_ HO518) (Kd.R_base ho0) hb); replace BK452 := kO_ BK452 hb; replace BK458 := kO_ BK458 hb; replace BK464 := kO_ BK464 hb; replace BK492 := kO_ BK492 hb; replace BK497 := kO_ BK497 hb; replace BK502 := kO_ BK502 hb; replace BK515 := kO_ BK515 hb; replace HB := bE_ HB hb; (try clear hb); (try clear ho0); have hcz407_0 : w406.cell? ⟨gb515, 0, none⟩ = some (.slice Ao395 t511.length co395) := (blk_cell BK515.out 0).trans rfl; have hfz407_0 := blk_frozen BK515.out 0; have hcz408_0 : w406.cell? ⟨gb497, 0, none⟩ = some (.slice Ao321 t493.length co321) := (blk_cell BK497.out 0).trans rfl; have hfz408_0 := blk_frozen BK497.out 0) | (go_at_call 8; (with_reducible refine (laws_jTable.calls _ _ _ _ _ _ _ _ _ ?side1 ?side2 ?side3 ?side4 A374.out).mono ?_); (case side1 => exact cR_ HO513); (case side2 => exact (Kd.R_reads' HO513.out).2.1); (case side3 => exact cR_ HO_498000); (case side4 => exact (Kd.R_reads' HO_498000.out).2.1); rintro e w409 ⟨rfl, hb⟩; replace HO_453000 := aS_ (Kd.R_below (rr_ HO_453000) hb); replace HO_459000 := aS_ (Kd.R_below (rr_ HO_459000) hb); replace HO_465000 := aS_ (Kd.R_below (rr_ HO_465000) hb); replace HO_493000 := aS_ (Kd.R_below (rr_ HO_493000) hb); replace HO_498000 := aS_ (Kd.R_below (rr_ HO_498000) hb); replace HO_503000 := aS_ (Kd.R_below (rr_ HO_503000) hb); replace HO509 := aS_ (Kd.R_below (rr_ HO509) hb); replace HO513 := aS_ (Kd.R_below (rr_ HO513) hb); replace HO518 := aS_ (Kd.R_below (rr_ HO518) hb); replace HO522 := aS_ (Kd.R_below (rr_ HO522) hb); replace BK452 := kO_ BK452 hb; replace BK458 := kO_ BK458 hb; replace BK464 := kO_ BK464 hb; replace BK492 := kO_ BK492 hb; replace BK497 := kO_ BK497 hb; replace BK502 := kO_ BK502 hb; replace BK515 := kO_ BK515 hb; replace HB := bE_ HB hb; (try clear hb); obtain ⟨Ao410, co410, eo410⟩ := Kd.R_slice HO518.out; subst eo410; obtain ⟨Ao411, co411, eo411⟩ := Kd.R_slice HO522.out; subst eo411) | (go_at_call 19; (with_reducible refine (laws_jHas.calls _ _ _ _ _ _ _ ?side1 ?side2 A379.out).mono ?_); (case side1 => exact cR_ HO518); (case side2 => exact (Kd.R_reads' HO518.out).2.1); rintro e w' ⟨rfl, ⟨nd, rfl⟩⟩))
          go_ret
          exact ⟨eR_, bb_ HB⟩

/-- THE ONE PURE STATEMENT of laws_FnInsertAndRemove: yours. -/
def laws_FnInsertAndRemove.Pure : Prop := ∀ (l0 : List Int) (l1 : List Int), l0.length ≤ maxLen → l0.length * 1 ≤ 140737488351232 → (∀ x ∈ l0, (Lit.int .u8 x).wf = true) → l1.length ≤ maxLen → l1.length * 1 ≤ 140737488351232 → (∀ x ∈ l1, (Lit.int .u8 x).wf = true) → ∃ k, laws_FnInsertAndRemove.f k l0 l1 = some true
theorem laws_FnInsertAndRemove.walk (P : laws_FnInsertAndRemove.Pure) (a0 : Option Addr) (len0 cap0 : Nat) (z0 : List Int) (a1 : Option Addr) (len1 cap1 : Nat) (z1 : List Int) (w : World) (w0 : (a0 = none ∧ len0 = 0 ∧ cap0 = 0 ∧ z0 = []) ∨ ∃ x, a0 = some x ∧ len0 ≤ cap0 ∧ cap0 ≤ maxLen ∧ z0.length = cap0 ∧ (∀ i, i < z0.length → w.cell? (x.add i) = some (.int .u8 (z0.getD i 0))) ∧ ∀ n ∈ z0, (Lit.int .u8 n).wf = true) (y0 : len0 * 1 ≤ 140737488351232) (w1 : (a1 = none ∧ len1 = 0 ∧ cap1 = 0 ∧ z1 = []) ∨ ∃ x, a1 = some x ∧ len1 ≤ cap1 ∧ cap1 ≤ maxLen ∧ z1.length = cap1 ∧ (∀ i, i < z1.length → w.cell? (x.add i) = some (.int .u8 (z1.getD i 0))) ∧ ∀ n ∈ z1, (Lit.int .u8 n).wf = true) (y1 : len1 * 1 ≤ 140737488351232) :
  Calls Try.prog 3 #[.slice a0 len0 cap0, .slice a1 len1 cap1] w fun e w' => e = .returned (.bool true) ∧ Below w.heap.size w w' := by
 obtain ⟨l0, rfl, hr0, hm0, hw0, hc0⟩ := ReadsInt.ofRowC w0
 obtain ⟨l1, rfl, hr1, hm1, hw1, hc1⟩ := ReadsInt.ofRowC w1
 obtain ⟨k, h⟩ := P l0 l1 hm0 y0 hw0 hm1 y1 hw1
 refine (laws_FnInsertAndRemove.calls k _ _ l0 _ _ l1 true w (Kd.C_of_reads (d := (0 : Int)) (h1 := fun _ => rfl) hr0) hc0 (Kd.C_of_reads (d := (0 : Int)) (h1 := fun _ => rfl) hr1) hc1 h).mono ?_
 rintro e w' ⟨rfl, hd⟩
 exact ⟨rfl, hd⟩
end Go.Proofs.Ytjhpnihlmnlehaa.G
namespace Go.Proofs.Ytjhpnihlmnlehaa.G
open Go.RowKit Go.Proofs.YtjhpnihlmnlehaaW.PrintWords Go.Proofs.YtjhpnihlmnlehaaW.PrintLast Go.Proofs.YtjhpnihlmnlehaaW.PrintMore
theorem wrap_id {x : Int} (h1 : -9223372036854775808 ≤ x) (h2 : x ≤ 9223372036854775807) : wrap64 x = x := by unfold wrap64; omega
theorem wrap_next {i n : Nat} (h : i < n) (hn : n ≤ 4611686018427387904) : wrap64 ((i : Int) + 1) = ((i + 1 : Nat) : Int) := by rw [wrap_id (by omega) (by omega)]; rfl
theorem succ_of {d k : Nat} (h : d < k) : ∃ m, k = m + 1 := ⟨k - 1, by omega⟩
theorem rd_nat (l : List Int) (i : Nat) : rd l (i : Int) = l.getD i 0 := by unfold rd; rw [Int.toNat_natCast]
theorem take_succ_getD {l : List Int} {i : Nat} (h : i < l.length) : l.take (i + 1) = l.take i ++ [l.getD i 0] := by
  rw [List.take_succ_eq_append_getElem h, List.getD_eq_getElem?_getD, List.getElem?_eq_getElem h]; rfl
theorem drop_getD {l : List Int} {i : Nat} (h : i < l.length) : l.drop i = l.getD i 0 :: l.drop (i + 1) := by
  rw [List.drop_eq_getElem_cons h, List.getD_eq_getElem?_getD, List.getElem?_eq_getElem h]; rfl
theorem Ev.of_all {α : Type} {g : Nat → Option α} {r : α} (K : Nat) (h : ∀ k, K < k → g k = some r) : Ev g r := ⟨K + 1, fun k hk => h k (by omega)⟩
/-- A loop that counts up: its state at each count, what is left behind the last one. -/
theorem Ev.up {σ ρ : Type} (n : Nat) (S : Nat → σ) (L : Nat → σ → Int → Option ρ) (r : ρ)
    (hstep : ∀ i, i < n → Ev (fun k => L k (S (i + 1)) ((i + 1 : Nat) : Int)) r → Ev (fun k => L k (S i) (i : Int)) r)
    (hend : Ev (fun k => L k (S n) (n : Int)) r) : ∀ m, m ≤ n → Ev (fun k => L k (S m) (m : Int)) r := by
  intro m hm
  have key : ∀ d m, m + d = n → Ev (fun k => L k (S m) (m : Int)) r := by
    intro d
    induction d with
    | zero => intro m hd; obtain rfl : m = n := by omega
              exact hend
    | succ d ih => intro m hd; exact hstep m (by omega) (ih (m + 1) (by omega))
  exact key (n - m) m (by omega)
theorem Ev.up0 {σ ρ : Type} (n : Nat) (S : Nat → σ) (L : Nat → σ → Int → Option ρ) (r : ρ)
    (hstep : ∀ i, i < n → Ev (fun k => L k (S (i + 1)) ((i + 1 : Nat) : Int)) r → Ev (fun k => L k (S i) (i : Int)) r)
    (hend : Ev (fun k => L k (S n) (n : Int)) r) : Ev (fun k => L k (S 0) 0) r := Ev.up n S L r hstep hend 0 (Nat.zero_le _)
/-- A round that needs no rounds of others. -/
theorem Ev.one {α : Type} {g f : Nat → Option α} {r : α} (k : Ev f r) (h : ∀ k, g (k + 1) = f k) : Ev g r := Ev.step h k
theorem Ev.end_ {α : Type} {g : Nat → Option α} {r : α} (h : ∀ k, g (k + 1) = some r) : Ev g r := Ev.step h (Ev.now r)
/-- Places that were written one by one: what is new, and what is still old. -/
def mixed (R o : List Int) (i : Nat) : List Int := R.take i ++ o.drop i
theorem l1In_eq (a b c : Int) : spec_l1In.f a b c = some (decide (b ≤ a ∧ a ≤ c)) := by
  unfold spec_l1In.f
  split
  · rename_i h; congr 1; rw [Bool.eq_iff_iff]; simp; omega
  · rename_i h; congr 1; rw [Bool.eq_iff_iff]; simp; omega
theorem l1All_l0 (l : List Int) (lo hi : Int) (hn : l.length ≤ 4611686018427387904) : ∀ (d k i : Nat), i + d = l.length → d < k → spec_l1All.l0 k lo hi l (l.length : Int) i = some ((l.drop i).all fun x => decide (lo ≤ x ∧ x ≤ hi)) := by
  intro d
  induction d with
  | zero =>
    intro k i hd hk
    obtain ⟨k, rfl⟩ := succ_of hk
    rw [spec_l1All.l0, if_neg (by omega), List.drop_of_length_le (by omega)]; rfl
  | succ d ih =>
    intro k i hd hk
    obtain ⟨k, rfl⟩ := succ_of hk
    rw [spec_l1All.l0, if_pos (by omega), if_pos (by omega), if_pos (by omega), l1In_eq, Option.bind_some, rd_nat, wrap_next (n := l.length) (by omega) hn, ih k (i + 1) (by omega) (by omega), drop_getD (l := l) (i := i) (by omega), List.all_cons]
    split
    · rename_i h; rw [h, Bool.true_and]
    · rename_i h; rw [Bool.not_eq_true] at h; rw [h, Bool.false_and]
theorem l1All_ev (l : List Int) (lo hi : Int) (hn : l.length ≤ 4611686018427387904) : Ev (fun k => spec_l1All.f k l lo hi) (l.all fun x => decide (lo ≤ x ∧ x ≤ hi)) := by
  refine Ev.of_all l.length fun k hk => ?_
  have := l1All_l0 l lo hi hn l.length k 0 (by omega) hk
  simpa [spec_l1All.f] using this
theorem between_eq (a b c : Int) : impl_between.f a b c = some (decide (b ≤ a ∧ a ≤ c)) := by
  unfold impl_between.f
  by_cases h : a ≥ b
  · rw [if_pos h]; congr 1; simp; omega
  · rw [if_neg h]; congr 1; simp; omega
theorem prSize_eq (a : Int) : spec_prSize.f a = some (decide (2 ≤ a ∧ a ≤ 12)) := by unfold spec_prSize.f; rw [l1In_eq]; rfl
theorem isSize_eq (a : Int) : impl_isSize.f a = some (decide (2 ≤ a ∧ a ≤ 12)) := by unfold impl_isSize.f; rw [between_eq]; rfl
theorem l1Has_l0 (x : List Int) (a : Int) (hn : x.length ≤ 4611686018427387904) : ∀ (d i : Nat), i + d = x.length → Ev (fun k => spec_l1Has.l0 k a x (x.length : Int) i) (decide (a ∈ x.drop i)) := by
  intro d
  induction d with
  | zero =>
    intro i hd
    refine Ev.end_ fun k => ?_
    rw [spec_l1Has.l0, if_neg (by omega), List.drop_eq_nil_of_le (by omega)]
    simp
  | succ d ih =>
    intro i hd
    have e1 := drop_getD (l := x) (i := i) (by omega)
    by_cases h : x.getD i 0 = a
    · refine Ev.end_ fun k => ?_
      rw [spec_l1Has.l0, if_pos (by omega), if_pos (by omega), if_pos (by omega), rd_nat, if_pos h, e1, h, decide_eq_true (List.mem_cons_self)]
    · refine Ev.one (f := fun k => spec_l1Has.l0 k a x (x.length : Int) ((i + 1 : Nat) : Int)) ?_ fun k => ?_
      · have := ih (i + 1) (by omega)
        have e : decide (a ∈ x.drop i) = decide (a ∈ x.drop (i + 1)) := by
          rw [e1]
          have : ¬ a = x.getD i 0 := fun e => h e.symm
          simp only [List.mem_cons, this, false_or]
        rw [e]; exact this
      · rw [spec_l1Has.l0, if_pos (by omega), if_pos (by omega), if_pos (by omega), rd_nat, if_neg h, wrap_next (n := x.length) (by omega) hn]
theorem l1Has_ev (x : List Int) (a : Int) (hn : x.length ≤ 4611686018427387904) : Ev (fun k => spec_l1Has.f k x a) (decide (a ∈ x)) := by
  unfold spec_l1Has.f
  have := l1Has_l0 x a hn x.length 0 (by omega)
  simpa using this
/-- The first place of a number, -1 where it is not. -/
def ixF (l : List Int) (a : Int) : Nat → Nat → Int
  | 0, _ => -1
  | d + 1, i => if l.getD i 0 = a then (i : Int) else ixF l a d (i + 1)
theorem ixF_spec (l : List Int) (a : Int) : ∀ (d i : Nat), i + d = l.length → (ixF l a d i = -1 ∧ a ∉ l.drop i) ∨ (∃ j : Nat, ixF l a d i = j ∧ j < l.length ∧ l.getD j 0 = a ∧ a ∈ l.drop i)
  | 0, i, h => by left; rw [List.drop_of_length_le (by omega)]; exact ⟨rfl, by simp⟩
  | d + 1, i, h => by
    rw [ixF, drop_getD (by omega)]
    by_cases c : l.getD i 0 = a
    · right; rw [if_pos c]; exact ⟨i, rfl, by omega, c, by rw [c]; simp⟩
    · rw [if_neg c]
      rcases ixF_spec l a d (i + 1) (by omega) with ⟨h1, h2⟩ | ⟨j, h1, h2, h3, h4⟩
      · left; exact ⟨h1, by simp only [List.mem_cons, not_or]; exact ⟨fun e => c e.symm, h2⟩⟩
      · right; exact ⟨j, h1, h2, h3, by simp [h4]⟩
theorem index_l0 (l : List Int) (a : Int) (hn : l.length ≤ 4611686018427387904) : ∀ (d i : Nat), i + d = l.length → Ev (fun k => slices_Index_int_int.l0 k l a (l.length : Int) i) (ixF l a d i) := by
  intro d
  induction d with
  | zero =>
    intro i hd
    exact Ev.end_ fun k => by rw [slices_Index_int_int.l0, if_neg (by omega)]; rfl
  | succ d ih =>
    intro i hd
    rw [ixF]
    by_cases c : l.getD i 0 = a
    · rw [if_pos c]
      refine Ev.end_ fun k => ?_
      rw [slices_Index_int_int.l0, if_pos (by omega), if_pos (by omega), if_pos (by omega), rd_nat, if_pos c.symm]
    · rw [if_neg c]
      refine Ev.one (ih (i + 1) (by omega)) fun k => ?_
      rw [slices_Index_int_int.l0, if_pos (by omega), if_pos (by omega), if_pos (by omega), rd_nat, if_neg (fun e => c e.symm), wrap_next (n := l.length) (by omega) hn]
theorem index_ev (l : List Int) (a : Int) (hn : l.length ≤ 4611686018427387904) : Ev (fun k => slices_Index_int_int.f k l a) (ixF l a l.length 0) := by
  unfold slices_Index_int_int.f
  exact index_l0 l a hn l.length 0 (by omega)
theorem containsI_ev (l : List Int) (a : Int) (hn : l.length ≤ 4611686018427387904) : Ev (fun k => slices_Contains_int_int.f k l a) (decide (a ∈ l)) := by
  unfold slices_Contains_int_int.f
  refine Ev.bind (index_ev l a hn) ?_
  have e : decide (ixF l a l.length 0 ≥ 0) = decide (a ∈ l) := by
    rcases ixF_spec l a l.length 0 (by omega) with ⟨h1, h2⟩ | ⟨j, h1, h2, h3, h4⟩
    · rw [List.drop_zero] at h2
      rw [h1, decide_eq_false h2]; decide
    · rw [List.drop_zero] at h4
      rw [h1, decide_eq_true h4]; exact decide_eq_true (by omega)
  rw [e]
  exact Ev.now _
def costN (n key at_ : Nat) : Nat := (at_ + n - key % n) % n
theorem cost_arith {n key at_ : Nat} (hn : 0 < n) (hn2 : n ≤ 1000) (hk : key ≤ 1000) (ha : at_ < n) : Int.tmod (wrap64 ((wrap64 ((at_ : Int) - (Int.tmod (key : Int) (n : Int)))) + (n : Int))) (n : Int) = (costN n key at_ : Nat) := by
  have e1 : Int.tmod (key : Int) (n : Int) = ((key % n : Nat) : Int) := rfl
  have hlt := Nat.mod_lt key hn
  rw [e1, wrap_id (x := (at_ : Int) - ((key % n : Nat) : Int)) (by omega) (by omega), wrap_id (by omega) (by omega)]
  rw [show (at_ : Int) - ((key % n : Nat) : Int) + (n : Int) = ((at_ + n - key % n : Nat) : Int) by omega]
  rfl
theorem costN_lt {n key at_ : Nat} (hn : 0 < n) : costN n key at_ < n := Nat.mod_lt _ hn
theorem prCost_eq {n key at_ : Nat} (hn : 0 < n) (hn2 : n ≤ 1000) (hk : key ≤ 1000) (ha : at_ < n) : spec_prCost.f (key : Int) (at_ : Int) (n : Int) = some ((costN n key at_ : Nat) : Int) := by
  unfold spec_prCost.f
  rw [if_neg (by omega), cost_arith hn hn2 hk ha]
theorem tcost_eq {l : List Int} {key at_ : Nat} (hn2 : l.length ≤ 1000) (hk : key ≤ 1000) (ha : at_ < l.length) (hg : l.getD at_ 0 = (key : Int)) : impl_Table_cost.f l (at_ : Int) = some ((costN l.length key at_ : Nat) : Int) := by
  unfold impl_Table_cost.f
  rw [if_pos (by omega), if_pos (by omega), if_neg (by omega), rd_nat, hg, cost_arith (by omega) hn2 hk ha]
/-- No free cell among the key's c cells from the s-th on. -/
def wayF (l : List Int) (key : Nat) : Nat → Nat → Bool
  | _, 0 => true
  | s, c + 1 => decide (0 ≤ l.getD ((key + s) % l.length) 0) && wayF l key (s + 1) c
def okCell (l : List Int) (i : Nat) : Bool := decide (l.getD i 0 < 0) || (!decide (l.getD i 0 ∈ l.take i) && wayF l (l.getD i 0).toNat 0 (costN l.length (l.getD i 0).toNat i))
def okFrom (l : List Int) : Nat → Nat → Bool
  | 0, _ => true
  | d + 1, i => okCell l i && okFrom l d (i + 1)
def tblB (l : List Int) : Bool := decide (2 ≤ (l.length : Int) ∧ (l.length : Int) ≤ 12) && (l.all fun x => decide (-1 ≤ x ∧ x ≤ 999)) && decide ((-1 : Int) ∈ l) && okFrom l l.length 0
/-- The cell that lies so far back is the key's own one, so far on. -/
theorem back_cell {n key at_ c j : Nat} (hn : 0 < n) (ha : at_ < n) (hc : costN n key at_ = c) (hj : j ≤ c) (h1 : 1 ≤ j) : (at_ + n - j) % n = (key + (c - j)) % n := by
  have hk := Nat.mod_lt key hn
  have hcn : c < n := by rw [← hc]; exact costN_lt hn
  have e : (key + (c - j)) % n = (key % n + (c - j)) % n := (Nat.mod_add_mod key n (c - j)).symm
  rw [e]
  unfold costN at hc
  rcases Nat.lt_or_ge at_ (key % n) with h | h
  · rw [Nat.mod_eq_of_lt (show at_ + n - key % n < n by omega)] at hc
    rw [show key % n + (c - j) = at_ + n - j by omega]
  · have : (at_ + n - key % n) % n = at_ - key % n := by
      rw [show at_ + n - key % n = (at_ - key % n) + n by omega, Nat.add_mod_right, Nat.mod_eq_of_lt (by omega)]
    rw [this] at hc
    rw [show at_ + n - j = (key % n + (c - j)) + n by omega, Nat.add_mod_right]
end Go.Proofs.Ytjhpnihlmnlehaa.G
namespace Go.Proofs.Ytjhpnihlmnlehaa.G
open Go.RowKit Go.Proofs.YtjhpnihlmnlehaaW.PrintWords Go.Proofs.YtjhpnihlmnlehaaW.PrintLast Go.Proofs.YtjhpnihlmnlehaaW.PrintMore
section
variable (l : List Int) (hn : 2 ≤ l.length) (hn2 : l.length ≤ 12) (hr : ∀ j, j < l.length → -1 ≤ l.getD j 0 ∧ l.getD j 0 ≤ 999)
include hn hn2 hr
theorem sp_way (key i c : Nat) (hk : key ≤ 1000) (hi : i < l.length) (hc : costN l.length key i = c) (r : Bool) (h : Ev (fun k => spec_prGood.l0 k (l.length : Int) l (l.length : Int) (wrap64 ((i : Int) + 1)) l) r) : ∀ (j : Nat), j ≤ c →
    Ev (fun k => spec_prGood.l1 k (l.length : Int) (i : Int) (j : Int) l (l.length : Int) (i : Int) l) (if wayF l key (c - j) j = true then r else false) := by
  have hcn : c < l.length := by rw [← hc]; exact costN_lt (by omega)
  intro j
  induction j with
  | zero =>
    intro _
    rw [wayF, if_pos rfl]
    exact Ev.one h fun k => by rw [spec_prGood.l1, if_neg (by omega)]
  | succ j ih =>
    intro hj
    have hcell := back_cell (n := l.length) (by omega) hi hc hj (by omega)
    have e1 : Int.tmod (wrap64 ((wrap64 ((i : Int) - ((j + 1 : Nat) : Int))) + (l.length : Int))) (l.length : Int) = (((key + (c - (j + 1))) % l.length : Nat) : Int) := by
      rw [wrap_id (x := (i : Int) - ((j + 1 : Nat) : Int)) (by omega) (by omega), wrap_id (by omega) (by omega), ← hcell, show (i : Int) - ((j + 1 : Nat) : Int) + (l.length : Int) = ((i + l.length - (j + 1) : Nat) : Int) by omega]
      rfl
    have hm := Nat.mod_lt (key + (c - (j + 1))) (show 0 < l.length by omega)
    have hv := hr _ hm
    rw [wayF, show c - (j + 1) + 1 = c - j by omega]
    by_cases hf : l.getD ((key + (c - (j + 1))) % l.length) 0 = -1
    · rw [show decide (0 ≤ l.getD ((key + (c - (j + 1))) % l.length) 0) = false from decide_eq_false (by omega), Bool.false_and, if_neg (by decide)]
      refine Ev.end_ fun k => ?_
      rw [spec_prGood.l1, if_pos (by omega), if_neg (by omega), e1, if_pos (by omega), if_pos (by omega), rd_nat, if_pos hf]
    · rw [show decide (0 ≤ l.getD ((key + (c - (j + 1))) % l.length) 0) = true from decide_eq_true (by omega), Bool.true_and]
      refine Ev.one (ih (by omega)) fun k => ?_
      rw [spec_prGood.l1, if_pos (by omega), if_neg (by omega), e1, if_pos (by omega), if_pos (by omega), rd_nat, if_neg hf, wrap_id (x := ((j + 1 : Nat) : Int) - 1) (by omega) (by omega), show ((j + 1 : Nat) : Int) - 1 = (j : Int) by omega]
theorem im_way (key i c : Nat) (hk : key ≤ 1000) (hi : i < l.length) (hc : c < l.length) (r : Bool) (h : Ev (fun k => impl_isTable.l0 k l (l.length : Int) (wrap64 ((i : Int) + 1)) l) r) : ∀ (d s : Nat), s + d = c →
    Ev (fun k => impl_isTable.l1 k (key : Int) l (l.length : Int) (i : Int) (c : Int) (s : Int) l) (if wayF l key s d = true then r else false) := by
  have hr0 := hr
  intro d
  induction d with
  | zero =>
    intro s hs
    rw [wayF, if_pos rfl]
    exact Ev.one h fun k => by rw [impl_isTable.l1, if_neg (by omega)]
  | succ d ih =>
    intro s hs
    have e1 : Int.tmod (wrap64 ((key : Int) + (s : Int))) (l.length : Int) = (((key + s) % l.length : Nat) : Int) := by
      rw [wrap_id (by omega) (by omega), show (key : Int) + (s : Int) = ((key + s : Nat) : Int) by omega]
      rfl
    have hm := Nat.mod_lt (key + s) (show 0 < l.length by omega)
    rw [wayF]
    by_cases hf : l.getD ((key + s) % l.length) 0 < 0
    · rw [show decide (0 ≤ l.getD ((key + s) % l.length) 0) = false from decide_eq_false (by omega), Bool.false_and, if_neg (by decide)]
      refine Ev.end_ fun k => ?_
      rw [impl_isTable.l1, if_pos (by omega), if_neg (by omega), e1, if_pos (by omega), if_pos (by omega), rd_nat, if_pos hf]
    · rw [show decide (0 ≤ l.getD ((key + s) % l.length) 0) = true from decide_eq_true (by omega), Bool.true_and]
      refine Ev.one (ih (s + 1) (by omega)) fun k => ?_
      rw [impl_isTable.l1, if_pos (by omega), if_neg (by omega), e1, if_pos (by omega), if_pos (by omega), rd_nat, if_neg hf, wrap_next (n := 1000) (by omega) (by omega)]
theorem sp_good_l0 : ∀ (d i : Nat), i + d = l.length → Ev (fun k => spec_prGood.l0 k (l.length : Int) l (l.length : Int) (i : Int) l) (okFrom l d i) := by
  intro d
  induction d with
  | zero =>
    intro i hd
    exact Ev.end_ fun k => by rw [spec_prGood.l0, if_neg (by omega)]; rfl
  | succ d ih =>
    intro i hd
    have hi : i < l.length := by omega
    have hv := hr i hi
    rw [okFrom, okCell]
    by_cases hf : l.getD i 0 = -1
    · rw [show decide (l.getD i 0 < 0) = true from decide_eq_true (by omega), Bool.true_or, Bool.true_and]
      refine Ev.one (ih (i + 1) (by omega)) fun k => ?_
      rw [spec_prGood.l0, if_pos (by omega), if_pos (by omega), if_pos (by omega), rd_nat, if_pos hf, wrap_next (n := l.length) hi (by omega)]
    · rw [show decide (l.getD i 0 < 0) = false from decide_eq_false (by omega), Bool.false_or]
      obtain ⟨key, hkey⟩ : ∃ key : Nat, l.getD i 0 = key := ⟨(l.getD i 0).toNat, by omega⟩
      rw [hkey, Int.toNat_natCast]
      refine Ev.step (f := fun k => (spec_l1Has.f k (l.take i) (key : Int)).bind fun t169 => (if t169 = true then (some false) else (spec_prGood.l1 k (l.length : Int) (i : Int) ((costN l.length key i : Nat) : Int) l (l.length : Int) (i : Int) l))) (fun k => by
        rw [spec_prGood.l0, if_pos (by omega), if_pos (by omega), if_pos (by omega), rd_nat, if_neg hf, if_pos (by omega), Int.toNat_natCast, hkey, prCost_eq (by omega) (by omega) (by omega) hi]; rfl) ?_
      refine Ev.bind (l1Has_ev _ _ (by simp; omega)) ?_
      cases hh : decide ((key : Int) ∈ l.take i) with
      | true => simp only [if_true, Bool.not_true, Bool.false_and]; exact Ev.now _
      | false =>
        simp only [Bool.false_eq_true, if_false, Bool.not_false, Bool.true_and]
        have h0 := ih (i + 1) (by omega)
        have hw := sp_way l hn hn2 hr key i (costN l.length key i) (by omega) hi rfl _ (by rw [wrap_next (n := l.length) hi (by omega)]; exact h0) (costN l.length key i) (Nat.le_refl _)
        rw [Nat.sub_self] at hw
        cases hww : wayF l key 0 (costN l.length key i) with
        | true => rw [hww, if_pos rfl] at hw; rw [Bool.true_and]; exact hw
        | false => rw [hww, if_neg (by decide)] at hw; rw [Bool.false_and]; exact hw
theorem im_good_l0 : ∀ (d i : Nat), i + d = l.length → Ev (fun k => impl_isTable.l0 k l (l.length : Int) (i : Int) l) (okFrom l d i) := by
  intro d
  induction d with
  | zero =>
    intro i hd
    exact Ev.end_ fun k => by rw [impl_isTable.l0, if_neg (by omega)]; rfl
  | succ d ih =>
    intro i hd
    have hi : i < l.length := by omega
    have hv := hr i hi
    rw [okFrom, okCell]
    by_cases hf : l.getD i 0 < 0
    · rw [decide_eq_true hf, Bool.true_or, Bool.true_and]
      refine Ev.one (ih (i + 1) (by omega)) fun k => ?_
      rw [impl_isTable.l0, if_pos (by omega), if_pos (by omega), if_pos (by omega), rd_nat, if_pos hf, wrap_next (n := l.length) hi (by omega)]
    · rw [decide_eq_false hf, Bool.false_or]
      obtain ⟨key, hkey⟩ : ∃ key : Nat, l.getD i 0 = key := ⟨(l.getD i 0).toNat, by omega⟩
      have htc := tcost_eq (l := l) (key := key) (at_ := i) (by omega) (by omega) hi hkey
      rw [hkey, Int.toNat_natCast]
      refine Ev.step (f := fun k => (slices_Contains_int_int.f k (l.take i) (key : Int)).bind fun t195 => (if t195 = true then (some false) else (impl_isTable.l1 k (key : Int) l (l.length : Int) (i : Int) ((costN l.length key i : Nat) : Int) 0 l))) (fun k => by
        rw [impl_isTable.l0, if_pos (by omega), if_pos (by omega), if_pos (by omega), rd_nat, if_neg hf, if_pos (by omega), Int.toNat_natCast, hkey, htc]; rfl) ?_
      refine Ev.bind (containsI_ev _ _ (by simp; omega)) ?_
      cases hh : decide ((key : Int) ∈ l.take i) with
      | true => simp only [if_true, Bool.not_true, Bool.false_and]; exact Ev.now _
      | false =>
        simp only [Bool.false_eq_true, if_false, Bool.not_false, Bool.true_and]
        have h0 := ih (i + 1) (by omega)
        have hw := im_way l hn hn2 hr key i (costN l.length key i) (by omega) hi (costN_lt (by omega)) _ (by rw [wrap_next (n := l.length) hi (by omega)]; exact h0) (costN l.length key i) 0 (by omega)
        cases hww : wayF l key 0 (costN l.length key i) with
        | true => rw [hww, if_pos rfl] at hw; rw [Bool.true_and]; exact hw
        | false => rw [hww, if_neg (by decide)] at hw; rw [Bool.false_and]; exact hw
end
end Go.Proofs.Ytjhpnihlmnlehaa.G
namespace Go.Proofs.Ytjhpnihlmnlehaa.G
open Go.RowKit Go.Proofs.YtjhpnihlmnlehaaW.PrintWords Go.Proofs.YtjhpnihlmnlehaaW.PrintLast Go.Proofs.YtjhpnihlmnlehaaW.PrintMore
theorem allT_get {l : List Int} {lo hi : Int} (h : (l.all fun x => decide (lo ≤ x ∧ x ≤ hi)) = true) {j : Nat} (hj : j < l.length) : lo ≤ l.getD j 0 ∧ l.getD j 0 ≤ hi := by
  rw [List.all_eq_true] at h
  have := h l[j] (List.getElem_mem hj)
  rw [List.getD_eq_getElem?_getD, List.getElem?_eq_getElem hj]
  simpa using this
theorem areBetween_eq (l : List Int) (lo hi : Int) : impl_areBetween.f l lo hi = some (l.all fun x => decide (lo ≤ x ∧ x ≤ hi)) := by
  unfold impl_areBetween.f
  congr 2
  funext x
  rw [Bool.eq_iff_iff]; simp
theorem prGood_ev (l : List Int) (hn : l.length ≤ 4611686018427387904) : Ev (fun k => spec_prGood.f k l) (tblB l) := by
  unfold spec_prGood.f tblB
  simp only [l1In_eq, Option.bind_some]
  have stop : Ev (fun k => spec_prGood.j0 k (l.length : Int) true l) false := Ev.end_ fun k => by rw [spec_prGood.j0, if_pos rfl]
  by_cases h1 : 2 ≤ (l.length : Int) ∧ (l.length : Int) ≤ 12
  · rw [decide_eq_true h1]
    simp only [if_true, Bool.true_and]
    refine Ev.bind (l1All_ev l (-1) 999 hn) ?_
    cases h2 : (l.all fun x => decide (-1 ≤ x ∧ x ≤ 999)) with
    | false => simp only [Bool.false_eq_true, if_false, Bool.false_and]; exact stop
    | true =>
      simp only [if_true, Bool.true_and]
      refine Ev.bind (l1Has_ev l (-1) hn) ?_
      cases h3 : decide ((-1 : Int) ∈ l) with
      | false => simp only [Bool.not_false, Bool.false_and]; exact stop
      | true =>
        simp only [Bool.not_true, Bool.true_and]
        exact Ev.one (sp_good_l0 l (by omega) (by omega) (fun j hj => allT_get h2 hj) l.length 0 (by omega)) fun k => by rw [spec_prGood.j0, if_neg (by decide)]; rfl
  · rw [decide_eq_false h1]
    simp only [Bool.false_eq_true, if_false, Bool.false_and]
    exact stop
theorem isTable_ev (l : List Int) (hn : l.length ≤ 4611686018427387904) : Ev (fun k => impl_isTable.f k l) (tblB l) := by
  unfold impl_isTable.f tblB
  simp only [isSize_eq, areBetween_eq, Option.bind_some]
  have stop : Ev (fun k => impl_isTable.j0 k true l) false := Ev.end_ fun k => by rw [impl_isTable.j0, if_pos rfl]
  by_cases h1 : 2 ≤ (l.length : Int) ∧ (l.length : Int) ≤ 12
  · rw [decide_eq_true h1]
    simp only [if_true, Bool.true_and]
    cases h2 : (l.all fun x => decide (-1 ≤ x ∧ x ≤ 999)) with
    | false => simp only [Bool.false_eq_true, if_false, Bool.false_and]; exact stop
    | true =>
      simp only [if_true, Bool.true_and]
      refine Ev.bind (containsI_ev l (-1) hn) ?_
      cases h3 : decide ((-1 : Int) ∈ l) with
      | false => simp only [Bool.not_false, Bool.false_and]; exact stop
      | true =>
        simp only [Bool.not_true, Bool.true_and]
        exact Ev.one (im_good_l0 l (by omega) (by omega) (fun j hj => allT_get h2 hj) l.length 0 (by omega)) fun k => by rw [impl_isTable.j0, if_neg (by decide)]; rfl
  · rw [decide_eq_false h1]
    simp only [Bool.false_eq_true, if_false, Bool.false_and]
    exact stop
theorem tblB_parts {l : List Int} (h : tblB l = true) : 2 ≤ l.length ∧ l.length ≤ 12 ∧ (∀ j, j < l.length → -1 ≤ l.getD j 0 ∧ l.getD j 0 ≤ 999) ∧ (-1 : Int) ∈ l := by
  unfold tblB at h
  simp only [Bool.and_eq_true, decide_eq_true_eq] at h
  exact ⟨by omega, by omega, fun j hj => allT_get h.1.1.2 hj, h.1.2⟩
theorem t_take_sum {l : List Int} {q : Nat} (hq : q < l.length) : (l.take (q + 1)).sum = (l.take q).sum + l.getD q 0 := by
  rw [take_succ_getD hq, List.sum_append]; simp
theorem t_take_range {l : List Int} {B : Int} (hB : 0 ≤ B) (hb : ∀ j, -B ≤ l.getD j 0 ∧ l.getD j 0 ≤ B) : ∀ q, q ≤ l.length → -((q : Int) * B) ≤ (l.take q).sum ∧ (l.take q).sum ≤ (q : Int) * B := by
  intro q
  induction q with
  | zero => intro _; simp
  | succ q ih =>
    intro hq
    have := ih (by omega)
    have := hb q
    rw [t_take_sum (by omega)]
    push_cast
    rw [Int.add_mul]
    omega
theorem t_total_ev (l : List Int) (hl : l.length ≤ 1000) (hb : ∀ j, -1000 ≤ l.getD j 0 ∧ l.getD j 0 ≤ 1000) : Ev (fun k => impl_total.f k l) l.sum := by
  unfold impl_total.f
  have hs := t_take_range (l := l) (B := 1000) (by omega) hb
  have := Ev.up0 l.length (fun q => (l.take q).sum) (fun k s q => impl_total.l0 k s l (l.length : Int) q) l.sum (fun q hq h => Ev.one h fun k => ?_) (Ev.end_ fun k => ?_)
  · simpa using this
  · have := hs q (by omega)
    have := hb q
    rw [impl_total.l0, if_pos (by omega), if_pos (by omega), if_pos (by omega), rd_nat, wrap_id (x := (l.take q).sum + l.getD q 0) (by omega) (by omega), wrap_next (n := l.length) hq (by omega), t_take_sum hq]
  · rw [impl_total.l0, if_neg (by omega), List.take_length]
/-- The cost of the key in a cell. -/
def cellC (l : List Int) (a : Int) : Int := ((costN l.length (l.getD a.toNat 0).toNat a.toNat : Nat) : Int)
theorem cellC_range {l : List Int} (hn : 2 ≤ l.length) (a : Int) : 0 ≤ cellC l a ∧ cellC l a < l.length := by
  have := costN_lt (n := l.length) (key := (l.getD a.toNat 0).toNat) (at_ := a.toNat) (by omega)
  unfold cellC
  omega
/-- The costs of the keys in the cells below q. -/
def cosTo (l : List Int) (q : Nat) : List Int := (idxsTo posP l q).map (cellC l)
theorem cosTo_succ (l : List Int) (q : Nat) : cosTo l (q + 1) = cosTo l q ++ (if posP (l.getD q 0) = true then [cellC l q] else []) := by
  unfold cosTo
  rw [idxsTo, List.map_append]
  split <;> rfl
theorem cosTo_len (l : List Int) (q : Nat) : (cosTo l q).length ≤ q := by
  unfold cosTo
  rw [List.length_map]
  exact idxsTo_len _ _ _
theorem idxsTo_mem (p : Int → Bool) (l : List Int) (x : Int) : ∀ q, x ∈ idxsTo p l q ↔ ∃ j : Nat, x = j ∧ j < q ∧ p (l.getD j 0) = true
  | 0 => by simp [idxsTo]
  | q + 1 => by
    rw [idxsTo, List.mem_append, idxsTo_mem p l x q]
    constructor
    · rintro (⟨j, h1, h2, h3⟩ | h)
      · exact ⟨j, h1, by omega, h3⟩
      · split at h
        · rename_i hp
          rw [List.mem_singleton] at h
          exact ⟨q, h, by omega, hp⟩
        · cases h
    · rintro ⟨j, h1, h2, h3⟩
      by_cases e : j = q
      · subst e
        exact Or.inr (by rw [if_pos h3, List.mem_singleton]; exact h1)
      · exact Or.inl ⟨j, h1, by omega, h3⟩
def costsV (l : List Int) : List Int := cosTo l l.length
theorem costsV_get {l : List Int} (hn : 2 ≤ l.length) (j : Nat) : 0 ≤ (costsV l).getD j 0 ∧ (costsV l).getD j 0 < l.length := by
  unfold costsV cosTo
  rw [List.getD_eq_getElem?_getD, List.getElem?_map]
  cases (idxsTo posP l l.length)[j]? with
  | none => simp; omega
  | some a => exact cellC_range hn a
end Go.Proofs.Ytjhpnihlmnlehaa.G
namespace Go.Proofs.Ytjhpnihlmnlehaa.G
open Go.RowKit Go.Proofs.YtjhpnihlmnlehaaW.PrintWords Go.Proofs.YtjhpnihlmnlehaaW.PrintLast Go.Proofs.YtjhpnihlmnlehaaW.PrintMore
section
variable (l : List Int) (hn : 2 ≤ l.length) (hn2 : l.length ≤ 12) (hr : ∀ j, j < l.length → -1 ≤ l.getD j 0 ∧ l.getD j 0 ≤ 999)
include hn hn2 hr
theorem tcosts_ev : Ev (fun k => impl_Table_costs.f k l) (costsV l) := by
  unfold impl_Table_costs.f
  have hu : impl_Table_used.f l = some (idxsTo posP l l.length) := by unfold impl_Table_used.f; rw [if_pos (by omega)]
  simp only [hu, Option.bind_some]
  obtain ⟨U, hU⟩ : ∃ U, U = idxsTo posP l l.length := ⟨_, rfl⟩
  have hUl : U.length ≤ l.length := by rw [hU]; exact idxsTo_len _ _ _
  have hmem : ∀ x ∈ U, ∃ j : Nat, x = j ∧ j < l.length ∧ posP (l.getD j 0) = true := fun x hx => (idxsTo_mem _ _ _ _).mp (hU ▸ hx)
  have hR : costsV l = U.map (cellC l) := by rw [costsV, cosTo, hU]
  rw [hR, ← hU]
  have := Ev.up0 U.length (fun q => (U.take q).map (cellC l)) (fun k s q => impl_Table_costs.l0 k s U (U.length : Int) q l) (U.map (cellC l)) (fun q hq h => Ev.one h fun k => ?_) (Ev.end_ fun k => ?_)
  · simpa using this
  · obtain ⟨j, h1, h2, h3⟩ := hmem (U.getD q 0) (by rw [List.getD_eq_getElem?_getD, List.getElem?_eq_getElem hq]; exact List.getElem_mem hq)
    rw [posP, decide_eq_true_eq] at h3
    have hv := hr j h2
    obtain ⟨key, hkey⟩ : ∃ key : Nat, l.getD j 0 = key := ⟨(l.getD j 0).toNat, by omega⟩
    rw [impl_Table_costs.l0, if_pos (by omega), if_pos (by omega), if_pos (by omega), rd_nat, h1, tcost_eq (by omega) (by omega) h2 hkey, Option.bind_some, if_pos (by rw [List.length_map, List.length_take]; omega), wrap_next (n := U.length) hq (by omega), take_succ_getD hq, List.map_append, h1]
    rw [List.map_cons, List.map_nil, cellC, Int.toNat_natCast, hkey, Int.toNat_natCast]
  · rw [impl_Table_costs.l0, if_neg (by omega), List.take_length]
end
end Go.Proofs.Ytjhpnihlmnlehaa.G
namespace Go.Proofs.Ytjhpnihlmnlehaa.G
open Go.RowKit Go.Proofs.YtjhpnihlmnlehaaW.PrintWords Go.Proofs.YtjhpnihlmnlehaaW.PrintLast Go.Proofs.YtjhpnihlmnlehaaW.PrintMore
theorem getD_mem {l : List Int} {i : Nat} (h : i < l.length) : l.getD i 0 ∈ l := by
  rw [List.getD_eq_getElem?_getD, List.getElem?_eq_getElem h]; exact List.getElem_mem h
theorem getD_get {l : List Int} {i : Nat} (h : i < l.length) : l.getD i 0 = l[i] := by
  rw [List.getD_eq_getElem?_getD, List.getElem?_eq_getElem h]; rfl
theorem sortZ_perm (l : List Int) : (sortZ l).Perm l := List.mergeSort_perm l _
theorem sortZ_le (l : List Int) : (sortZ l).Pairwise (· ≤ ·) := by
  have h := List.pairwise_mergeSort (le := fun x y : Int => decide (x ≤ y)) (fun a b c => by simp; omega) (fun a b => by simp; omega) l
  exact h.imp (fun h => by simpa using h)
theorem strict_of {l : List Int} (h : l.Pairwise (· ≤ ·)) (hn : l.Nodup) : l.Pairwise (· < ·) := by
  refine (h.and hn).imp ?_
  rintro a b ⟨h1, h2⟩
  omega
theorem filter_nodup {l : List Int} (h : ∀ i j, i < j → j < l.length → 0 ≤ l.getD i 0 → l.getD i 0 ≠ l.getD j 0) : (l.filter fun x => decide (0 ≤ x)).Nodup := by
  have h1 : l.Pairwise (fun a b => 0 ≤ a → a ≠ b) := by
    rw [List.pairwise_iff_getElem]
    intro i j hi hj hij h0
    have := h i j hij hj
    rw [getD_get hi, getD_get hj] at this
    exact this h0
  have h2 := h1.filter (fun x => decide (0 ≤ x))
  refine List.Pairwise.imp_of_mem ?_ h2
  intro a b ha hb hab
  rw [List.mem_filter] at ha
  exact hab (by simpa using ha.2)
theorem tbl_dist {l : List Int} (h : tblB l = true) : ∀ i j, i < j → j < l.length → 0 ≤ l.getD i 0 → l.getD i 0 ≠ l.getD j 0 := by
  have hok : okFrom l l.length 0 = true := by
    unfold tblB at h
    simp only [Bool.and_eq_true] at h
    exact h.2
  have hall : ∀ (d i : Nat), i + d = l.length → okFrom l d i = true → ∀ j, i ≤ j → j < l.length → okCell l j = true := by
    intro d
    induction d with
    | zero => intro i hd _ j h1 h2; omega
    | succ d ih =>
      intro i hd hk j h1 h2
      rw [okFrom, Bool.and_eq_true] at hk
      by_cases e : j = i
      · rw [e]; exact hk.1
      · exact ih (i + 1) (by omega) hk.2 j (by omega) h2
  intro i j hij hj h0 e
  have hc := hall l.length 0 (by omega) hok j (Nat.zero_le _) hj
  unfold okCell at hc
  rw [Bool.or_eq_true, Bool.and_eq_true] at hc
  rcases hc with hc | hc
  · rw [decide_eq_true_eq] at hc; omega
  · have h1 := hc.1
    rw [Bool.not_eq_true', decide_eq_false_iff_not] at h1
    apply h1
    rw [← e, getD_get (by omega : i < l.length)]
    exact List.mem_take_iff_getElem.mpr ⟨i, by omega, rfl⟩
theorem keysZ_eq (l : List Int) : keysZ l = (sortZ l).filter fun x => decide (0 ≤ x) := by
  unfold keysZ
  congr 1
  funext x
  unfold negKey
  rw [Bool.eq_iff_iff]
  simp
theorem keysZ_perm (l : List Int) : (keysZ l).Perm (l.filter fun x => decide (0 ≤ x)) := by
  rw [keysZ_eq]
  exact (sortZ_perm l).filter _
theorem keysZ_len (l : List Int) : (keysZ l).length ≤ l.length := by
  rw [(keysZ_perm l).length_eq]
  exact List.length_filter_le _ _
theorem keysZ_strict {l : List Int} (h : tblB l = true) : (keysZ l).Pairwise (· < ·) := by
  have hn := (keysZ_perm l).nodup_iff.mpr (filter_nodup (tbl_dist h))
  refine strict_of ?_ hn
  rw [keysZ_eq]
  exact (sortZ_le l).filter _
theorem keysZ_mem {l : List Int} {x : Int} : x ∈ keysZ l ↔ x ∈ l ∧ 0 ≤ x := by
  rw [(keysZ_perm l).mem_iff, List.mem_filter]
  simp
theorem keys_f {l : List Int} (h : tblB l = true) : impl_Table_keys.f l = some (keysZ l) := by
  obtain ⟨h1, h2, h3, h4⟩ := tblB_parts h
  unfold impl_Table_keys.f
  rw [if_pos ⟨by omega, by omega⟩]
def manyTo (l : List Int) : Nat → Nat
  | 0 => 0
  | q + 1 => manyTo l q + (if l.getD q 0 = -1 then 0 else 1)
theorem manyTo_le (l : List Int) : ∀ q, manyTo l q ≤ q
  | 0 => by simp [manyTo]
  | q + 1 => by have := manyTo_le l q; rw [manyTo]; split <;> omega
theorem manyTo_eq (l : List Int) (hr : ∀ j, j < l.length → -1 ≤ l.getD j 0) : ∀ q, q ≤ l.length → manyTo l q = ((l.take q).filter fun x => decide (0 ≤ x)).length
  | 0, _ => by simp [manyTo]
  | q + 1, h => by
    have := hr q (by omega)
    rw [manyTo, manyTo_eq l hr q (by omega), take_succ_getD (by omega), List.filter_append, List.length_append]
    congr 1
    by_cases e : l.getD q 0 = -1
    · rw [if_pos e, e]; rfl
    · rw [if_neg e, List.filter_cons, if_pos (decide_eq_true (by omega))]; rfl
theorem prMany_ev (l : List Int) (hn : l.length ≤ 1000000) : Ev (fun k => spec_prMany.f k l) ((manyTo l l.length : Nat) : Int) := by
  unfold spec_prMany.f
  have := Ev.up0 l.length (fun q => ((manyTo l q : Nat) : Int)) (fun k s q => spec_prMany.l0 k s l (l.length : Int) q) ((manyTo l l.length : Nat) : Int) (fun q hq h => ?_) (Ev.end_ fun k => ?_)
  · simpa [manyTo] using this
  · have hm := manyTo_le l q
    refine Ev.one h fun k => ?_
    rw [spec_prMany.l0, if_pos (by omega), if_pos (by omega), if_pos (by omega), rd_nat, wrap_next (n := l.length) hq (by omega), manyTo]
    by_cases hf : l.getD q 0 = -1
    · rw [if_pos hf, if_pos hf]; rfl
    · rw [if_neg hf, if_neg hf, wrap_next (n := 2000000) (by omega) (by omega)]
  · rw [spec_prMany.l0, if_neg (by omega)]
theorem many_keysZ {l : List Int} (hr : ∀ j, j < l.length → -1 ≤ l.getD j 0) : manyTo l l.length = (keysZ l).length := by
  rw [manyTo_eq l hr l.length (Nat.le_refl _), List.take_length, (keysZ_perm l).length_eq]
def ndFrom (l : List Int) : Nat → Nat → Bool
  | 0, _ => true
  | d + 1, i => !decide (l.getD i 0 ∈ l.take i) && ndFrom l d (i + 1)
theorem ndFrom_iff (l : List Int) : ∀ (d i : Nat), i + d = l.length → (ndFrom l d i = true ↔ ∀ j, i ≤ j → j < l.length → l.getD j 0 ∉ l.take j)
  | 0, i, h => by simp [ndFrom]; omega
  | d + 1, i, h => by
    rw [ndFrom, Bool.and_eq_true, Bool.not_eq_true', decide_eq_false_iff_not, ndFrom_iff l d (i + 1) (by omega)]
    constructor
    · rintro ⟨h1, h2⟩ j hj hl
      by_cases e : j = i
      · rw [e]; exact h1
      · exact h2 j (by omega) hl
    · intro h2
      exact ⟨h2 i (Nat.le_refl _) (by omega), fun j hj hl => h2 j (by omega) hl⟩
theorem nd_nodup (l : List Int) : ndFrom l l.length 0 = decide l.Nodup := by
  rw [Bool.eq_iff_iff, ndFrom_iff l l.length 0 (by omega), decide_eq_true_iff]
  constructor
  · intro h
    unfold List.Nodup
    rw [List.pairwise_iff_getElem]
    intro i j hi hj hij e
    apply h j (Nat.zero_le _) hj
    rw [getD_get hj, ← e]
    exact List.mem_take_iff_getElem.mpr ⟨i, by omega, rfl⟩
  · intro h j _ hj hm
    obtain ⟨i, hi, e⟩ := List.mem_take_iff_getElem.mp hm
    unfold List.Nodup at h
    rw [List.pairwise_iff_getElem] at h
    rw [getD_get hj] at e
    exact h i j (by omega) hj (by omega) e
theorem compact_nodup (l : List Int) : decide ((Go.Lib.compact (sortZ l)).length = l.length) = decide l.Nodup := by
  rw [Bool.eq_iff_iff, decide_eq_true_iff, decide_eq_true_iff]
  have hs := sortZ_le l
  have hsl := sortZ_len l
  rw [← (sortZ_perm l).nodup_iff]
  obtain ⟨s, hse⟩ : ∃ s, s = sortZ l := ⟨_, rfl⟩
  rw [← hse] at hs hsl ⊢
  rw [← hsl]
  unfold Go.Lib.compact Go.Lib.compactUpTo
  rw [List.length_map]
  have e1 : ((List.range s.length).filter (Go.Lib.keeps s.toArray)).length = s.length ↔ ∀ j ∈ List.range s.length, Go.Lib.keeps s.toArray j = true := by
    have := List.length_filter_eq_length_iff (p := Go.Lib.keeps s.toArray) (l := List.range s.length)
    rw [List.length_range] at this
    exact this
  rw [e1]
  have gb : ∀ j, j < s.length → s.toArray[j]! = s.getD j 0 := fun j hj => by
    rw [getElem!_pos s.toArray j (by simpa using hj), getD_get hj]; simp
  rw [List.pairwise_iff_getElem] at hs
  constructor
  · intro h
    unfold List.Nodup
    rw [List.pairwise_iff_getElem]
    intro i j hi hj hij e
    have hk := h j (List.mem_range.mpr hj)
    unfold Go.Lib.keeps at hk
    rw [decide_eq_true_iff, gb j hj, gb (j - 1) (by omega), getD_get hj, getD_get (by omega : j - 1 < s.length)] at hk
    rcases hk with hk | hk
    · omega
    · by_cases e2 : i = j - 1
      · subst e2; exact hk e.symm
      · have a1 := hs i (j - 1) hi (by omega) (by omega)
        have a2 := hs (j - 1) j (by omega) hj (by omega)
        omega
  · intro h j hj
    have hj := List.mem_range.mp hj
    unfold Go.Lib.keeps
    rw [decide_eq_true_iff]
    by_cases e : j = 0
    · exact Or.inl e
    · refine Or.inr ?_
      rw [gb j hj, gb (j - 1) (by omega), getD_get hj, getD_get (by omega : j - 1 < s.length)]
      unfold List.Nodup at h
      rw [List.pairwise_iff_getElem] at h
      exact fun e2 => h (j - 1) j (by omega) hj (by omega) e2.symm
def keysB (l : List Int) (a : Int) : Bool := decide (2 ≤ a ∧ a ≤ 12) && decide ((l.length : Int) < a) && (l.all fun x => decide (0 ≤ x ∧ x ≤ 999)) && decide l.Nodup
theorem areKeysB_eq (l : List Int) (a : Int) : areKeysB l a = keysB l a := by
  unfold areKeysB keysB
  rw [compact_nodup]
  congr 3
  funext x
  rw [Bool.eq_iff_iff]; simp
theorem areKeys_f (l : List Int) (a : Int) (hn : l.length ≤ 1048576) : impl_areKeys.f l a = some (keysB l a) := by
  unfold impl_areKeys.f
  rw [if_pos hn, areKeysB_eq]
theorem keysB_parts {l : List Int} {a : Int} (h : keysB l a = true) : 2 ≤ a ∧ a ≤ 12 ∧ (l.length : Int) < a ∧ (∀ x ∈ l, 0 ≤ x ∧ x ≤ 999) ∧ l.Nodup := by
  unfold keysB at h
  simp only [Bool.and_eq_true, decide_eq_true_eq, List.all_eq_true] at h
  exact ⟨h.1.1.1.1, h.1.1.1.2, h.1.1.2, h.1.2, h.2⟩
theorem prKeys_ev (l : List Int) (a : Int) (hn : l.length ≤ 1048576) : Ev (fun k => spec_prKeys.f k a l) (keysB l a) := by
  unfold spec_prKeys.f keysB
  simp only [prSize_eq, Option.bind_some]
  have stop : Ev (fun k => spec_prKeys.j0 k l true) false := Ev.end_ fun k => by rw [spec_prKeys.j0, if_pos rfl]
  by_cases h1 : 2 ≤ a ∧ a ≤ 12
  · rw [decide_eq_true h1]
    simp only [if_true, Bool.true_and]
    by_cases h2 : (l.length : Int) ≥ a
    · rw [decide_eq_false (by omega : ¬ (l.length : Int) < a)]
      simp only [h2, if_true, Bool.false_and]
      exact stop
    · rw [decide_eq_true (by omega : (l.length : Int) < a)]
      simp only [h2, if_false, Bool.true_and]
      refine Ev.bind (l1All_ev l 0 999 (by omega)) ?_
      cases h3 : (l.all fun x => decide (0 ≤ x ∧ x ≤ 999)) with
      | false => simp only [Bool.not_false, Bool.false_and]; exact stop
      | true =>
        simp only [Bool.not_true, Bool.true_and]
        refine Ev.step (f := fun k => spec_prKeys.l0 k l l (l.length : Int) 0) (fun k => by rw [spec_prKeys.j0, if_neg (by decide)]) ?_
        rw [← nd_nodup]
        have loop : ∀ (d i : Nat), i + d = l.length → Ev (fun k => spec_prKeys.l0 k l l (l.length : Int) (i : Int)) (ndFrom l d i) := by
          intro d
          induction d with
          | zero => intro i hd; exact Ev.end_ fun k => by rw [spec_prKeys.l0, if_neg (by omega)]; rfl
          | succ d ih =>
            intro i hd
            have hi : i < l.length := by omega
            rw [ndFrom]
            refine Ev.step (f := fun k => (spec_l1Has.f k (l.take i) (l.getD i 0)).bind fun t368 => (if t368 = true then (some false) else (spec_prKeys.l0 k l l (l.length : Int) ((i + 1 : Nat) : Int)))) (fun k => by
              rw [spec_prKeys.l0, if_pos (by omega), if_pos (by omega), if_pos (by omega), if_pos (by omega), rd_nat, Int.toNat_natCast, wrap_next (n := l.length) hi (by omega)]) ?_
            refine Ev.bind (l1Has_ev _ _ (by simp; omega)) ?_
            cases hh : decide (l.getD i 0 ∈ l.take i) with
            | true => simp only [if_true, Bool.not_true, Bool.false_and]; exact Ev.now _
            | false => simp only [Bool.false_eq_true, if_false, Bool.not_false, Bool.true_and]; exact ih (i + 1) (by omega)
        exact loop l.length 0 (by omega)
  · rw [decide_eq_false h1]
    simp only [Bool.false_eq_true, if_false, Bool.false_and]
    exact stop
theorem same_loop (F : Nat → List Int → List Int → Int → Int → Option Bool) (hF : ∀ k x0 x1 x12 x13, F (k + 1) x0 x1 x12 x13 = if x13 < x12 then (if 0 ≤ x13 then (if x13 < (x0.length : Int) then (if x13 < (x1.length : Int) then (if (rd x0 x13) = (rd x1 x13) then (F k x0 x1 x12 (wrap64 (x13 + 1))) else (some false)) else (none)) else (none)) else (none)) else (some true))
    (a b : List Int) (hl : a.length = b.length) (hn : a.length ≤ 1000000) : ∀ (d i : Nat), i + d = a.length → Ev (fun k => F k a b (a.length : Int) (i : Int)) (decide (a.drop i = b.drop i)) := by
  intro d
  induction d with
  | zero =>
    intro i hd
    refine Ev.end_ fun k => ?_
    rw [hF, if_neg (by omega), List.drop_of_length_le (by omega), List.drop_of_length_le (by omega)]
    simp
  | succ d ih =>
    intro i hd
    rw [drop_getD (l := a) (i := i) (by omega), drop_getD (l := b) (i := i) (by omega)]
    by_cases h : a.getD i 0 = b.getD i 0
    · have := ih (i + 1) (by omega)
      rw [h]
      simp only [List.cons.injEq, true_and]
      refine Ev.one this fun k => ?_
      rw [hF, if_pos (by omega), if_pos (by omega), if_pos (by omega), if_pos (by omega), rd_nat, rd_nat, if_pos h, wrap_next (n := a.length) (by omega) (by omega)]
    · refine Ev.end_ fun k => ?_
      rw [hF, if_pos (by omega), if_pos (by omega), if_pos (by omega), if_pos (by omega), rd_nat, rd_nat, if_neg h, decide_eq_false (by simp only [List.cons.injEq]; exact fun e => h e.1)]
end Go.Proofs.Ytjhpnihlmnlehaa.G
namespace TabT
/-- A place on a circle of n, from below 2 n. -/
def cy (n i : Nat) : Nat := if i < n then i else i - n
theorem cy_mod {n i : Nat} (h : i < 2 * n) : i % n = cy n i := by
  unfold cy
  split
  · exact Nat.mod_eq_of_lt ‹_›
  · rw [Nat.mod_eq_sub_mod (by omega), Nat.mod_eq_of_lt (by omega)]
theorem cy_lt {n i : Nat} (h : i < 2 * n) : cy n i < n := by unfold cy; split <;> omega
/-- Is the cell used? -/
def us (t : List Int) (i : Nat) : Bool := decide (0 ≤ t.getD i (-1))
theorem us_lt {t : List Int} {i : Nat} (h : us t i = true) : i < t.length := by
  rcases Nat.lt_or_ge i t.length with h1 | h1
  · exact h1
  · rw [us, List.getD_eq_getElem?_getD, List.getElem?_eq_none h1] at h; simp at h
theorem getD_set (t : List Int) (p i : Nat) (k d : Int) (hp : p < t.length) : (t.set p k).getD i d = if i = p then k else t.getD i d := by
  rw [List.getD_eq_getElem?_getD, List.getElem?_set, List.getD_eq_getElem?_getD]
  by_cases e : p = i
  · subst e; simp [hp]
  · simp [e, Ne.symm e]
theorem us_set (t : List Int) (p i : Nat) (k : Int) (hp : p < t.length) (hk : 0 ≤ k) : us (t.set p k) i = (decide (i = p) || us t i) := by
  unfold us
  rw [getD_set _ _ _ _ _ hp]
  by_cases e : i = p
  · simp [e, hk]
  · simp [e]
theorem us_clear (t : List Int) (p i : Nat) (hp : p < t.length) : us (t.set p (-1)) i = (!decide (i = p) && us t i) := by
  unfold us
  rw [getD_set _ _ _ _ _ hp]
  by_cases e : i = p
  · simp [e]
  · simp [e]
/-- The first free cell from a on: how far it is. -/
def ffFrom (t : List Int) (a : Nat) : Nat → Nat → Nat
  | 0, d => d
  | k + 1, d => if us t (cy t.length (a + d)) = true then ffFrom t a k (d + 1) else d
def ff (t : List Int) (a : Nat) : Nat := ffFrom t a t.length 0
theorem ffFrom_eq (t : List Int) (a : Nat) (e : Nat) (hf : us t (cy t.length (a + e)) = false) :
    ∀ (k d : Nat), d ≤ e → e < d + k → (∀ m, d ≤ m → m < e → us t (cy t.length (a + m)) = true) → ffFrom t a k d = e
  | 0, d, h1, h2, _ => by omega
  | k + 1, d, h1, h2, hu => by
    unfold ffFrom
    by_cases c : d = e
    · subst c; rw [hf]; simp
    · rw [if_pos (hu d (Nat.le_refl _) (by omega))]
      exact ffFrom_eq t a e hf k (d + 1) (by omega) (by omega) (fun m h3 h4 => hu m (by omega) h4)
theorem ff_eq {t : List Int} {a e : Nat} (he : e < t.length) (hf : us t (cy t.length (a + e)) = false) (hu : ∀ m, m < e → us t (cy t.length (a + m)) = true) : ff t a = e :=
  ffFrom_eq t a e hf _ 0 (Nat.zero_le _) (by omega) (fun m _ h => hu m h)
/-- A least number. -/
theorem least_nat {p : Nat → Prop} [DecidablePred p] : ∀ (N : Nat), p N → ∃ e, e ≤ N ∧ p e ∧ ∀ m, m < e → ¬ p m
  | 0, h => ⟨0, Nat.le_refl _, h, fun m hm => absurd hm (Nat.not_lt_zero _)⟩
  | N + 1, h => by
    by_cases hx : ∃ m, m ≤ N ∧ p m
    · obtain ⟨m, hm, hp⟩ := hx
      obtain ⟨e, he, hpe, hle⟩ := least_nat m hp
      exact ⟨e, by omega, hpe, hle⟩
    · exact ⟨N + 1, Nat.le_refl _, h, fun m hm hp => hx ⟨m, by omega, hp⟩⟩
/-- There is a free cell. -/
def Free (t : List Int) : Prop := ∃ i, i < t.length ∧ us t i = false
theorem ff_spec {t : List Int} (hF : Free t) {a : Nat} (ha : a < t.length) :
    ff t a < t.length ∧ us t (cy t.length (a + ff t a)) = false ∧ ∀ m, m < ff t a → us t (cy t.length (a + m)) = true := by
  obtain ⟨i, hi, hu⟩ := hF
  have hx : us t (cy t.length (a + cy t.length (i + t.length - a))) = false := by
    have : cy t.length (a + cy t.length (i + t.length - a)) = i := by unfold cy; split <;> split <;> omega
    rw [this]; exact hu
  obtain ⟨e, he, hpe, hle⟩ := least_nat (p := fun e => us t (cy t.length (a + e)) = false) _ hx
  have hlt : e < t.length := by have : cy t.length (i + t.length - a) < t.length := cy_lt (by omega); omega
  have := ff_eq hlt hpe (fun m hm => by simpa using hle m hm)
  rw [this]
  exact ⟨hlt, hpe, fun m hm => by simpa using hle m hm⟩
/-- A key's own cell. -/
def own (n : Nat) (k : Int) : Nat := (k % (n : Int)).toNat
theorem own_lt {n : Nat} (hn : 0 < n) (k : Int) : own n k < n := by
  unfold own
  have := Int.emod_lt_of_pos k (show (0 : Int) < n by omega)
  have := Int.emod_nonneg k (show (n : Int) ≠ 0 by omega)
  omega
/-- Where a key goes. -/
def pos (t : List Int) (k : Int) : Nat := cy t.length (own t.length k + ff t (own t.length k))
def ins (t : List Int) (k : Int) : List Int := t.set (pos t k) k
@[simp] theorem length_ins (t : List Int) (k : Int) : (ins t k).length = t.length := by simp [ins]
/-- What a key costs in a cell. -/
def cost (n i : Nat) (k : Int) : Nat := cy n (i + n - own n k)
theorem cost_lt {n i : Nat} (hi : i < n) (k : Int) : cost n i k < n := cy_lt (by have := own_lt (n := n) (by omega) k; omega)
theorem own_cost {n i : Nat} (hi : i < n) (k : Int) : cy n (own n k + cost n i k) = i := by
  have := own_lt (n := n) (by omega) k
  unfold cost cy; split <;> split <;> omega
theorem cost_own {n d : Nat} (hd : d < n) (k : Int) : cost n (cy n (own n k + d)) k = d := by
  have := own_lt (n := n) (by omega) k
  unfold cost cy; split <;> split <;> omega
theorem pos_lt {t : List Int} (hF : Free t) (k : Int) : pos t k < t.length := by
  have hn : 0 < t.length := by obtain ⟨i, hi, _⟩ := hF; omega
  have ho := own_lt hn k
  have := (ff_spec hF ho).1
  exact cy_lt (by omega)
theorem pos_free {t : List Int} (hF : Free t) (k : Int) : us t (pos t k) = false := by
  have hn : 0 < t.length := by obtain ⟨i, hi, _⟩ := hF; omega
  exact (ff_spec hF (own_lt hn k)).2.1
/-- The sum of all costs. -/
def costs (t : List Int) : List Nat := t.mapIdx fun i k => if 0 ≤ k then cost t.length i k else 0
def total (t : List Int) : Nat := (costs t).sum
theorem sum_set_nat : ∀ (l : List Nat) (i x : Nat), i < l.length → (l.set i x).sum + l.getD i 0 = l.sum + x
  | [], i, x, h => by simp at h
  | y :: l, 0, x, h => by simp; omega
  | y :: l, i + 1, x, h => by
    have := sum_set_nat l i x (by simpa using h)
    simp only [List.set_cons_succ, List.sum_cons, List.getD_cons_succ]; omega
theorem costs_set (t : List Int) (p : Nat) (k : Int) : costs (t.set p k) = (costs t).set p (if 0 ≤ k then cost t.length p k else 0) := by
  apply List.ext_getElem
  · simp [costs]
  · intro i h1 h2
    simp only [costs, List.length_set, List.getElem_mapIdx, List.getElem_set]
    by_cases e : p = i
    · subst e; simp
    · simp [e]
theorem getD_costs (t : List Int) (i : Nat) (hi : i < t.length) : (costs t).getD i 0 = if 0 ≤ t.getD i (-1) then cost t.length i (t.getD i (-1)) else 0 := by
  simp [costs, List.getD_eq_getElem?_getD, List.getElem?_mapIdx, List.getElem?_eq_getElem hi]
theorem total_set (t : List Int) (p : Nat) (k : Int) (hp : p < t.length) (hk : 0 ≤ k) (hf : us t p = false) : total (t.set p k) = total t + cost t.length p k := by
  have := sum_set_nat (costs t) p (cost t.length p k) (by simpa [costs] using hp)
  rw [getD_costs t p hp, if_neg (by simpa [us] using hf)] at this
  unfold total
  rw [costs_set t p k, if_pos hk]
  omega
theorem total_ins {t : List Int} (hF : Free t) {k : Int} (hk : 0 ≤ k) : total (ins t k) = total t + ff t (own t.length k) := by
  have hn : 0 < t.length := by obtain ⟨i, hi, _⟩ := hF; omega
  rw [ins, total_set _ _ _ (pos_lt hF k) hk (pos_free hF k), pos, cost_own (ff_spec hF (own_lt hn k)).1]
/-- Alike in their used cells. -/
def Alike (t u : List Int) : Prop := t.length = u.length ∧ ∀ i, us t i = us u i
theorem Alike.refl (t : List Int) : Alike t t := ⟨rfl, fun _ => rfl⟩
theorem Alike.symm {t u : List Int} (h : Alike t u) : Alike u t := ⟨h.1.symm, fun i => (h.2 i).symm⟩
theorem Alike.trans {t u v : List Int} (h : Alike t u) (k : Alike u v) : Alike t v := ⟨h.1.trans k.1, fun i => (h.2 i).trans (k.2 i)⟩
theorem Alike.free {t u : List Int} (h : Alike t u) (hF : Free t) : Free u := by
  obtain ⟨i, hi, hu⟩ := hF
  exact ⟨i, by have := h.1; omega, by rw [← h.2]; exact hu⟩
theorem ff_alike {t u : List Int} (h : Alike t u) (hF : Free t) {a : Nat} (ha : a < t.length) : ff u a = ff t a := by
  have := ff_spec hF ha
  apply ff_eq
  · rw [← h.1]; exact this.1
  · rw [← h.2, ← h.1]; exact this.2.1
  · intro m hm; rw [← h.2, ← h.1]; exact this.2.2 m hm
theorem pos_alike {t u : List Int} (h : Alike t u) (hF : Free t) (k : Int) : pos u k = pos t k := by
  have hn : 0 < t.length := by obtain ⟨i, hi, _⟩ := hF; omega
  unfold pos
  rw [← h.1, ff_alike h hF (own_lt hn k)]
theorem ins_alike {t u : List Int} (h : Alike t u) (hF : Free t) {k : Int} (hk : 0 ≤ k) : Alike (ins t k) (ins u k) := by
  refine ⟨by simpa using h.1, fun i => ?_⟩
  rw [ins, ins, us_set _ _ _ _ (pos_lt hF k) hk, us_set _ _ _ _ (pos_lt (h.free hF) k) hk, pos_alike h hF k, h.2]
/-- How many cells are used. -/
def many (t : List Int) : Nat := (t.filter fun k => decide (0 ≤ k)).length
theorem many_le (t : List Int) : many t ≤ t.length := List.length_filter_le _ _
theorem free_of_many : ∀ (t : List Int), many t < t.length → Free t
  | [], h => by simp [many] at h
  | k :: t, h => by
    by_cases hk : 0 ≤ k
    · have : many t < t.length := by simp only [many, List.filter_cons, hk, decide_true, if_true, List.length_cons] at h ⊢; omega
      obtain ⟨i, hi, hu⟩ := free_of_many t this
      exact ⟨i + 1, by simp; omega, by simpa [us] using hu⟩
    · exact ⟨0, by simp, by simp [us]; omega⟩
theorem many_of_free : ∀ {t : List Int}, Free t → many t < t.length
  | [], h => by obtain ⟨i, hi, _⟩ := h; simp at hi
  | k :: t, ⟨i, hi, hu⟩ => by
    have hle := many_le t
    cases i with
    | zero => have : ¬ 0 ≤ k := by simpa [us] using hu
              simp only [many, List.filter_cons, this, decide_false, Bool.false_eq_true, if_false, List.length_cons] at hle ⊢; omega
    | succ i =>
      have := many_of_free (t := t) ⟨i, by simpa using hi, by simpa [us] using hu⟩
      simp only [many, List.filter_cons, List.length_cons] at this ⊢
      split
      · simp only [List.length_cons]; omega
      · omega
theorem many_set : ∀ (t : List Int) (p : Nat) (k : Int), us t p = false → p < t.length → 0 ≤ k → many (t.set p k) = many t + 1
  | [], p, k, _, h, _ => by simp at h
  | x :: t, 0, k, hu, _, hk => by have : ¬ 0 ≤ x := by simpa [us] using hu
                                  simp [many, this, hk]
  | x :: t, p + 1, k, hu, hp, hk => by
    have := many_set t p k (by simpa [us] using hu) (by simpa using hp) hk
    simp only [many, List.set_cons_succ, List.filter_cons] at this ⊢
    split
    · simp only [List.length_cons]; omega
    · omega
theorem many_ins {t : List Int} (hF : Free t) {k : Int} (hk : 0 ≤ k) : many (ins t k) = many t + 1 := many_set _ _ _ (pos_free hF k) (pos_lt hF k) hk
theorem many_alike {t u : List Int} (h : Alike t u) : many t = many u := by
  have key : ∀ (t u : List Int), t.length = u.length → (∀ i, us t i = us u i) → many t = many u := by
    intro t
    induction t with
    | nil => intro u hl _; cases u with
      | nil => rfl
      | cons => simp at hl
    | cons x t ih =>
      intro u hl hu
      cases u with
      | nil => simp at hl
      | cons y u =>
        have h0 := hu 0
        have := ih u (by simpa using hl) (fun i => by simpa [us] using hu (i + 1))
        have h0 : decide (0 ≤ x) = decide (0 ≤ y) := by simpa [us] using h0
        simp only [many, List.filter_cons, h0] at this ⊢
        split <;> simp [this]
  exact key t u h.1 h.2
/-- Two keys in either order: the same cells, the same costs together. -/
theorem ins_swap {t : List Int} {a b : Int} (ha : 0 ≤ a) (hb : 0 ≤ b) (hm : many t + 1 < t.length) : Alike (ins (ins t a) b) (ins (ins t b) a) ∧ total (ins (ins t a) b) = total (ins (ins t b) a) := by
  have hF : Free t := free_of_many t (by omega)
  have hn : 0 < t.length := by omega
  have hFa : Free (ins t a) := free_of_many _ (by rw [many_ins hF ha, length_ins]; exact hm)
  have hFb : Free (ins t b) := free_of_many _ (by rw [many_ins hF hb, length_ins]; exact hm)
  have oa := own_lt hn a
  have ob := own_lt hn b
  have sa := ff_spec hF oa
  have sb := ff_spec hF ob
  have ua : ∀ i, us (ins t a) i = (decide (i = pos t a) || us t i) := fun i => us_set _ _ _ _ (pos_lt hF a) ha
  have ub : ∀ i, us (ins t b) i = (decide (i = pos t b) || us t i) := fun i => us_set _ _ _ _ (pos_lt hF b) hb
  have Ub : ∀ i, us (ins (ins t a) b) i = (decide (i = pos (ins t a) b) || us (ins t a) i) := fun i => us_set _ _ _ _ (pos_lt hFa b) hb
  have Ua : ∀ i, us (ins (ins t b) a) i = (decide (i = pos (ins t b) a) || us (ins t b) i) := fun i => us_set _ _ _ _ (pos_lt hFb a) ha
  have Ta := total_ins hF ha
  have Tb := total_ins hF hb
  have Tab := total_ins hFa hb
  have Tba := total_ins hFb ha
  rw [length_ins] at Tab Tba
  by_cases hp : pos t a = pos t b
  · -- both would have gone to one cell: the later one goes on from there
    have al : Alike (ins t a) (ins t b) := ⟨by simp, fun i => by rw [ua, ub, hp]⟩
    have hF1 := hFa
    have q1 := pos_lt hF a
    have sp := ff_spec hFa (a := pos t a) (by simpa using q1)
    rw [length_ins] at sp
    -- from an own cell: first to the common cell, then on
    have go : ∀ (k : Int), pos t k = pos t a → own t.length k < t.length → ff t (own t.length k) < t.length → (∀ m, m < ff t (own t.length k) → us t (cy t.length (own t.length k + m)) = true) →
        ff (ins t a) (own t.length k) = ff t (own t.length k) + ff (ins t a) (pos t a) := by
      intro k hk ho h1 h2
      have hx := ff_spec hFa (a := own t.length k) (by simpa using ho)
      rw [length_ins] at hx
      have used : ∀ m, m < ff t (own t.length k) + ff (ins t a) (pos t a) → us (ins t a) (cy t.length (own t.length k + m)) = true ∨ t.length ≤ m := by
        intro m hm
        rcases Nat.lt_or_ge m t.length with hmn | hmn
        · left
          rcases Nat.lt_or_ge m (ff t (own t.length k)) with h | h
          · rw [ua, h2 m h]; simp
          · have e := sp.2.2 (m - ff t (own t.length k)) (by omega)
            have : cy t.length (pos t a + (m - ff t (own t.length k))) = cy t.length (own t.length k + m) := by
              rw [← hk]; unfold pos cy; split <;> split <;> split <;> omega
            rw [this] at e
            exact e
        · exact .inr hmn
      -- the first free cell is not before
      have ge : ff t (own t.length k) + ff (ins t a) (pos t a) ≤ ff (ins t a) (own t.length k) := by
        rcases Nat.lt_or_ge (ff (ins t a) (own t.length k)) (ff t (own t.length k) + ff (ins t a) (pos t a)) with h | h
        · rcases used _ h with h' | h'
          · rw [hx.2.1] at h'; cases h'
          · omega
        · exact h
      have hlt : ff t (own t.length k) + ff (ins t a) (pos t a) < t.length := by omega
      have hm := ff_eq (t := ins t a) (a := own t.length k) (e := ff t (own t.length k) + ff (ins t a) (pos t a)) (by simpa using hlt) (by
        rw [length_ins]
        have hP : pos t a = cy t.length (own t.length k + ff t (own t.length k)) := hk.symm
        have : cy t.length (own t.length k + (ff t (own t.length k) + ff (ins t a) (pos t a))) = cy t.length (pos t a + ff (ins t a) (pos t a)) := by
          generalize ff (ins t a) (pos t a) = f at hlt
          rw [hP]; unfold cy; split <;> split <;> split <;> omega
        rw [this]; exact sp.2.1) (by
        intro m hm
        rw [length_ins]
        rcases used m hm with h' | h'
        · exact h'
        · omega)
      exact hm
    have ga := go a rfl oa sa.1 sa.2.2
    have gb := go b hp.symm ob sb.1 sb.2.2
    have ga' : ff (ins t b) (own t.length a) = ff (ins t a) (own t.length a) := ff_alike al hFa (by simpa using oa)
    constructor
    · refine ⟨by simp, fun i => ?_⟩
      rw [Ub, Ua, ua, ub, hp]
      have e1 : pos (ins t a) b = pos (ins t b) a := by
        rw [pos_alike al hFa a]
        unfold pos
        rw [length_ins, ga, gb]
        have hpa : pos t a = cy t.length (own t.length a + ff t (own t.length a)) := rfl
        have hpb : pos t a = cy t.length (own t.length b + ff t (own t.length b)) := hp
        have hxa := ff_spec hFa (a := own t.length a) (by simpa using oa)
        have hxb := ff_spec hFa (a := own t.length b) (by simpa using ob)
        rw [length_ins, ga] at hxa
        rw [length_ins, gb] at hxb
        have h1 := hxa.1
        have h2 := hxb.1
        generalize ff (ins t a) (pos t a) = f at *
        revert hpa hpb
        generalize pos t a = P
        unfold cy
        split <;> split <;> split <;> split <;> omega
      rw [e1]
    · omega
  · -- two cells: each key goes to its own one in either order
    have eb : ff (ins t a) (own t.length b) = ff t (own t.length b) := by
      apply ff_eq
      · simpa using sb.1
      · rw [length_ins, ua, sb.2.1]
        have : ¬ cy t.length (own t.length b + ff t (own t.length b)) = pos t a := fun e => hp e.symm
        simp [this]
      · intro m hm; rw [length_ins, ua, sb.2.2 m hm]; simp
    have ea : ff (ins t b) (own t.length a) = ff t (own t.length a) := by
      apply ff_eq
      · simpa using sa.1
      · rw [length_ins, ub, sa.2.1]
        have : ¬ cy t.length (own t.length a + ff t (own t.length a)) = pos t b := fun e => hp e
        simp [this]
      · intro m hm; rw [length_ins, ub, sa.2.2 m hm]; simp
    have pb : pos (ins t a) b = pos t b := by unfold pos; rw [length_ins, eb]
    have pa : pos (ins t b) a = pos t a := by unfold pos; rw [length_ins, ea]
    constructor
    · refine ⟨by simp, fun i => ?_⟩
      rw [Ub, Ua, ua, ub, pa, pb]
      cases decide (i = pos t a) <;> cases decide (i = pos t b) <;> simp
    · omega
/-- All keys, in order. -/
def insAll (t : List Int) (ks : List Int) : List Int := ks.foldl ins t
@[simp] theorem length_insAll (ks : List Int) : ∀ (t : List Int), (insAll t ks).length = t.length := by
  induction ks with
  | nil => intro t; rfl
  | cons k ks ih => intro t; simp only [insAll, List.foldl_cons] at ih ⊢; rw [ih]; simp
theorem insAll_alike : ∀ (ks t u : List Int), Alike t u → total t = total u → (∀ k ∈ ks, 0 ≤ k) → many t + ks.length < t.length → Alike (insAll t ks) (insAll u ks) ∧ total (insAll t ks) = total (insAll u ks)
  | [], t, u, h, ht, _, _ => ⟨h, ht⟩
  | k :: ks, t, u, h, ht, hk, hm => by
    have hk0 : 0 ≤ k := hk k (by simp)
    have hF : Free t := free_of_many t (by omega)
    have hn : 0 < t.length := by omega
    have := insAll_alike ks (ins t k) (ins u k) (ins_alike h hF hk0) (by rw [total_ins hF hk0, total_ins (h.free hF) hk0, ht, ← h.1, ff_alike h hF (own_lt hn k)]) (fun x hx => hk x (by simp [hx])) (by rw [many_ins hF hk0, length_ins]; simp at hm; omega)
    exact this
/-- THE USED CELLS AND THE SUM OF ALL COSTS DO NOT DEPEND ON THE ORDER. -/
theorem insAll_perm {ks ks' : List Int} (h : ks.Perm ks') : ∀ (t u : List Int), Alike t u → total t = total u → (∀ k ∈ ks, 0 ≤ k) → many t + ks.length < t.length → Alike (insAll t ks) (insAll u ks') ∧ total (insAll t ks) = total (insAll u ks') := by
  induction h with
  | nil => intro t u h ht _ _; exact ⟨h, ht⟩
  | cons k p ih =>
    intro t u h ht hk hm
    have hk0 : 0 ≤ k := hk k (by simp)
    have hF : Free t := free_of_many t (by simp at hm; omega)
    have hn : 0 < t.length := by omega
    exact ih (ins t k) (ins u k) (ins_alike h hF hk0) (by rw [total_ins hF hk0, total_ins (h.free hF) hk0, ht, ← h.1, ff_alike h hF (own_lt hn k)]) (fun x hx => hk x (by simp [hx])) (by rw [many_ins hF hk0, length_ins]; simp at hm; omega)
  | swap a b l =>
    intro t u h ht hk hm
    have ha : 0 ≤ a := hk a (by simp)
    have hb : 0 ≤ b := hk b (by simp)
    have hm' : many t + 1 < t.length := by simp at hm; omega
    have hF : Free t := free_of_many t (by omega)
    have hn : 0 < t.length := by omega
    obtain ⟨s1, s2⟩ := ins_swap (t := t) hb ha hm'
    have hFa : Free (ins t a) := free_of_many _ (by rw [many_ins hF ha, length_ins]; exact hm')
    have e1 := ins_alike h hF ha
    have e2 := ins_alike e1 hFa hb
    have oa := own_lt hn a
    have ob := own_lt hn b
    have e3 : total (ins (ins t a) b) = total (ins (ins u a) b) := by
      rw [total_ins hFa hb, total_ins (e1.free hFa) hb, total_ins hF ha, total_ins (h.free hF) ha, ht, ← h.1, ff_alike h hF oa, length_ins, length_ins, ← h.1, ff_alike e1 hFa (by simpa using ob)]
    exact insAll_alike l _ _ (s1.trans e2) (s2.trans e3) (fun x hx => hk x (by simp [hx])) (by
      have hFb : Free (ins t b) := free_of_many _ (by rw [many_ins hF hb, length_ins]; exact hm')
      rw [many_ins hFb ha, many_ins hF hb]; simp at hm ⊢; omega)
  | trans p q ih1 ih2 =>
    intro t u h ht hk hm
    have a := ih1 t t (Alike.refl t) rfl hk hm
    have b := ih2 t u h ht (fun x hx => hk x (p.mem_iff.2 hx)) (by rw [← p.length_eq]; exact hm)
    exact ⟨a.1.trans b.1, a.2.trans b.2⟩
structure Valid (t : List Int) : Prop where
  free : Free t
  ge : ∀ i, i < t.length → -1 ≤ t.getD i (-1)
  nodup : ∀ i j, us t i = true → us t j = true → t.getD i (-1) = t.getD j (-1) → i = j
  path : ∀ i, us t i = true → ∀ m, m < cost t.length i (t.getD i (-1)) → us t (cy t.length (own t.length (t.getD i (-1)) + m)) = true
/-- A part of a table. -/
def Part (p t : List Int) : Prop := p.length = t.length ∧ ∀ i, us p i = true → us t i = true ∧ p.getD i (-1) = t.getD i (-1)
/-- The key of a cell may come next. -/
def Ready (t p : List Int) (i : Nat) : Prop := us t i = true ∧ us p i = false ∧ ∀ m, m < cost t.length i (t.getD i (-1)) → us p (cy t.length (own t.length (t.getD i (-1)) + m)) = true
theorem exists_ready {t p : List Int} (hV : Valid t) (hne : ∃ i, us t i = true ∧ us p i = false) : ∃ i, Ready t p i := by
  obtain ⟨g, hg, hgu⟩ := hV.free
  obtain ⟨i0, h1, h2⟩ := hne
  have hi0 := us_lt h1
  have hx : 1 ≤ cy t.length (i0 + t.length - g) ∧ us t (cy t.length (g + cy t.length (i0 + t.length - g))) = true ∧ us p (cy t.length (g + cy t.length (i0 + t.length - g))) = false := by
    have e : cy t.length (g + cy t.length (i0 + t.length - g)) = i0 := by unfold cy; split <;> split <;> omega
    rw [e]
    refine ⟨?_, h1, h2⟩
    have : i0 ≠ g := fun e => by rw [e, hgu] at h1; cases h1
    unfold cy; split <;> omega
  obtain ⟨e, he, ⟨he1, hp1, hp2⟩, hle⟩ := least_nat (p := fun e => 1 ≤ e ∧ us t (cy t.length (g + e)) = true ∧ us p (cy t.length (g + e)) = false) _ hx
  have hen : e < t.length := by have : cy t.length (i0 + t.length - g) < t.length := cy_lt (by omega); omega
  refine ⟨_, hp1, hp2, fun m hm => ?_⟩
  have hi := us_lt hp1
  generalize hk : t.getD (cy t.length (g + e)) (-1) = k at hm ⊢
  have hpath := hV.path _ hp1
  rw [hk] at hpath
  have ho := own_lt (n := t.length) (by omega) k
  have hc := cost_lt hi k
  have hoc := own_cost hi k
  generalize hcc : cost t.length (cy t.length (g + e)) k = c at *
  generalize own t.length k = o at *
  have hce : c < e := by
    rcases Nat.lt_or_ge c e with h | h
    · exact h
    · have := hpath (c - e) (by omega)
      have e1 : cy t.length (o + (c - e)) = g := by revert hoc; unfold cy; split <;> split <;> split <;> omega
      rw [e1, hgu] at this; cases this
  have hu := hpath m hm
  have e2 : cy t.length (o + m) = cy t.length (g + (e - c + m)) := by revert hoc; unfold cy; split <;> split <;> split <;> split <;> omega
  rw [e2] at hu ⊢
  cases hq : us p (cy t.length (g + (e - c + m))) with
  | true => rfl
  | false => exact absurd ⟨by omega, hu, hq⟩ (hle (e - c + m) (by omega))
theorem Part.free {p t : List Int} (hP : Part p t) (hF : Free t) : Free p := by
  obtain ⟨i, hi, hu⟩ := hF
  refine ⟨i, by rw [hP.1]; exact hi, ?_⟩
  cases h : us p i with
  | false => rfl
  | true => rw [(hP.2 i h).1] at hu; cases hu
/-- The key that may come next comes to its cell. -/
theorem ready_pos {t p : List Int} (hP : Part p t) {i : Nat} (hR : Ready t p i) : pos p (t.getD i (-1)) = i := by
  have hi := us_lt hR.1
  have : ff p (own t.length (t.getD i (-1))) = cost t.length i (t.getD i (-1)) := by
    apply ff_eq
    · rw [hP.1]; exact cost_lt hi _
    · rw [hP.1, own_cost hi]; exact hR.2.1
    · intro m hm; rw [hP.1]; exact hR.2.2 m hm
  unfold pos
  rw [hP.1, this, own_cost hi]
theorem Part.set {p t : List Int} (hP : Part p t) {i : Nat} (hu : us t i = true) : Part (p.set i (t.getD i (-1))) t := by
  have hi := us_lt hu
  refine ⟨by simpa using hP.1, fun j hj => ?_⟩
  rw [us_set _ _ _ _ (by rw [hP.1]; exact hi) (by simpa [us] using hu)] at hj
  rw [getD_set _ _ _ _ _ (by rw [hP.1]; exact hi)]
  by_cases e : j = i
  · subst e; simp [hu]
  · simp [e] at hj ⊢; exact hP.2 j hj
/-- A part in which all cells are used that are used in the whole. -/
theorem Part.full {p t : List Int} (hP : Part p t) (hg : ∀ i, i < t.length → -1 ≤ t.getD i (-1)) (hp : ∀ i, i < p.length → -1 ≤ p.getD i (-1)) (h : ∀ i, us t i = true → us p i = true) : p = t := by
  apply List.ext_getElem hP.1
  intro i h1 h2
  have e1 : p.getD i (-1) = p[i] := by rw [List.getD_eq_getElem?_getD, List.getElem?_eq_getElem h1]; rfl
  have e2 : t.getD i (-1) = t[i] := by rw [List.getD_eq_getElem?_getD, List.getElem?_eq_getElem h2]; rfl
  cases hu : us t i with
  | true => rw [← e1, ← e2]; exact (hP.2 i (h i hu)).2
  | false =>
    have hq : us p i = false := by
      cases hq : us p i with
      | false => rfl
      | true => rw [(hP.2 i hq).1] at hu; cases hu
    have a := hg i h2
    have b := hp i h1
    simp only [us, decide_eq_false_iff_not] at hu hq
    omega
/-- All but the paths through the hole are as in a table. -/
structure Holed (t : List Int) (h : Nat) : Prop where
  hole : h < t.length ∧ t.getD h (-1) = -1
  other : ∃ g, g < t.length ∧ g ≠ h ∧ us t g = false
  ge : ∀ i, i < t.length → -1 ≤ t.getD i (-1)
  nodup : ∀ i j, us t i = true → us t j = true → t.getD i (-1) = t.getD j (-1) → i = j
  path : ∀ i, us t i = true → ∀ m, m < cost t.length i (t.getD i (-1)) → cy t.length (own t.length (t.getD i (-1)) + m) ≠ h → us t (cy t.length (own t.length (t.getD i (-1)) + m)) = true
theorem Valid.holed {t : List Int} (hV : Valid t) {h : Nat} (hu : us t h = true) : Holed (t.set h (-1)) h := by
  have hh := us_lt hu
  have uc : ∀ i, us (t.set h (-1)) i = (!decide (i = h) && us t i) := fun i => us_clear t h i hh
  refine ⟨⟨by simpa using hh, by rw [getD_set _ _ _ _ _ hh]; simp⟩, ?_, ?_, ?_, ?_⟩
  · obtain ⟨g, hg, hgu⟩ := hV.free
    refine ⟨g, by simpa using hg, (fun e => by rw [e, hu] at hgu; cases hgu), ?_⟩
    rw [uc, hgu]; simp
  · intro i hi
    rw [getD_set _ _ _ _ _ hh]
    split
    · omega
    · exact hV.ge i (by simpa using hi)
  · intro i j hi hj
    rw [uc] at hi hj
    simp at hi hj
    rw [getD_set _ _ _ _ _ hh, getD_set _ _ _ _ _ hh, if_neg hi.1, if_neg hj.1]
    exact hV.nodup i j hi.2 hj.2
  · intro i hi m hm hne
    rw [uc] at hi
    simp at hi
    rw [List.length_set] at hm hne ⊢
    rw [getD_set _ _ _ _ _ hh, if_neg hi.1] at hm hne ⊢
    rw [uc, hV.path i hi.2 m hm]
    simp only [hne, decide_false, Bool.not_false, Bool.and_true]
theorem Holed.valid {t : List Int} {h k : Nat} (hH : Holed t h) (hk : k < t.length) (h1 : 1 ≤ k) (hfree : us t (cy t.length (h + k)) = false)
    (hu : ∀ m, 1 ≤ m → m < k → us t (cy t.length (h + m)) = true ∧ cost t.length (cy t.length (h + m)) (t.getD (cy t.length (h + m)) (-1)) < m) : Valid t := by
  have hn : 0 < t.length := by omega
  have hh := hH.hole.1
  refine ⟨⟨h, hh, by rw [us, hH.hole.2]; rfl⟩, hH.ge, hH.nodup, fun i hi m hm => ?_⟩
  by_cases e : cy t.length (own t.length (t.getD i (-1)) + m) = h
  · -- the cell i lies behind the hole, before the free cell
    exfalso
    have hil := us_lt hi
    have ho := own_lt hn (t.getD i (-1))
    have hc := cost_lt hil (t.getD i (-1))
    have hoc := own_cost hil (t.getD i (-1))
    have hpath := hH.path i hi
    generalize hcc : cost t.length i (t.getD i (-1)) = c at *
    generalize own t.length (t.getD i (-1)) = o at *
    -- i = h + (c - m)
    have ei : i = cy t.length (h + (c - m)) := by revert e hoc; unfold cy; split <;> split <;> split <;> omega
    rcases Nat.lt_or_ge (c - m) k with hlt | hge
    · have := (hu (c - m) (by omega) hlt).2
      rw [← ei, hcc] at this
      omega
    · have hne : cy t.length (o + (m + k)) = cy t.length (h + k) := by revert e; unfold cy; split <;> split <;> split <;> omega
      rcases Nat.lt_or_ge (m + k) c with hmk | hmk
      · have := hpath (m + k) hmk (by rw [hne]; unfold cy; split <;> omega)
        rw [hne, hfree] at this; cases this
      · have : c - m = k := by omega
        rw [this] at ei
        rw [ei, hfree] at hi; cases hi
  · exact hH.path i hi m hm e
end TabT
