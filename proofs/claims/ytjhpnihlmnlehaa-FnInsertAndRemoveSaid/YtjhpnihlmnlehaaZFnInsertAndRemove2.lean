/- The law FnInsertAndRemove: part 2 of the printed functions and the facts on them that its row leans on (merged by this session's slim.py). -/
import Derived.Test.YtjhpnihlmnlehaaZFnInsertAndRemove1
set_option linter.unusedVariables false
set_option linter.unusedSimpArgs false
namespace Go.Proofs.Ytjhpnihlmnlehaa.G
open Go.RowKit Go.Proofs.YtjhpnihlmnlehaaW.PrintWords Go.Proofs.YtjhpnihlmnlehaaW.PrintLast Go.Proofs.YtjhpnihlmnlehaaW.PrintMore
attribute [local go_sem] max2_int min2_int max_two min_two max_three min_three max_four min_four   -- for this text's walks alone
/-! ### spec_DrawInsertKey: function 5 -/
def spec_DrawInsertKey.f (k : Nat) (l0 : List Int) : Option (List Int × Int) := (spec_l1Cur_table.f k l0 0 0).bind fun bt248 => ((spec_l1Cur_one.f l0 bt248.2.1 bt248.2.2 4).bind fun bt254 => (if bt254.1 = true then ((spec_l1Cur_held.f k l0 bt254.2.1 bt254.2.2 bt248.1).bind fun bt257 => (some (bt248.1, bt257.1))) else ((spec_l1Cur_among.f l0 bt254.2.1 bt254.2.2 (([12, 1000] : List Int))).bind fun bt263 => ((spec_l1Cur_pick.f l0 bt263.2.1 bt263.2.2 bt263.1).bind fun bt266 => (some (bt248.1, bt266.1))))))
theorem spec_DrawInsertKey.mono : ∀ a0 k, LeO (spec_DrawInsertKey.f k a0) (spec_DrawInsertKey.f (k + 1) a0) := by
 intro a0 k
 unfold spec_DrawInsertKey.f
 repeat' first
   | (with_reducible exact spec_l1Cur_held.mono _ _ _ _ _)
   | (with_reducible exact spec_l1Cur_table.mono _ _ _ _)
   | (with_reducible exact LeO.refl _)
   | (with_reducible exact LeO.none _)
   | (with_reducible refine LeO.ite ?_ ?_)
   | (with_reducible refine LeO.bind ?_ (fun _ => ?_))
   | exact spec_l1Cur_held.mono _ _ _ _ _
   | exact spec_l1Cur_table.mono _ _ _ _
   | exact LeO.none _
   | refine LeO.ite ?_ ?_
   | refine LeO.bind ?_ (fun _ => ?_)
def spec_DrawInsertKey.T5 : Bool × List (List Nat × List Nat) := (true, [([], []), ([], []), ([], []), ([], []), ([2, 3], [2, 3]), ([1, 4, 4], [1, 4]), ([0, 5, 0], [0]), ([5, 6, 0, 1, 2, 3, 4, 5, 6], [5])])
def spec_DrawInsertKey.B5 : List Nat := [0, 0, 0, 0, 12, 30, 63, 127]
theorem spec_DrawInsertKey.tab5 : rtab .any (opsOf Try.f5 5) = spec_DrawInsertKey.T5 := by kernel_rfl
theorem spec_DrawInsertKey.bits5 : waitsOk spec_DrawInsertKey.T5.2 spec_DrawInsertKey.B5 = true := by kernel_rfl
set_option maxHeartbeats 8000000 in
set_option maxRecDepth 100000 in
theorem spec_DrawInsertKey.calls (k : Nat) (A0 : Option Addr) (c0 : Nat) (l0 : List Int) (r1 : List Int) (r2 : Int) (w : World) (hr0 : Kd.C (Kd.int .u8) w A0 l0.length l0) (hc0 : l0.length ≤ c0) (h : spec_DrawInsertKey.f k l0 = some (r1, r2)) :
  Calls Try.prog 5 #[.slice A0 l0.length c0] w fun e w' => ∃ v0_ : Value, e = .returned (.tuple #[.agg #[v0_], .int .i64 r2]) ∧ Kd.R (Kd.int .i64) 3 w' w.heap.size (fun _ => True) v0_ r1 ∧ Below w.heap.size w w' := by
 have hu26 := Try.underlying26
 have hu46 := Try.underlying46
 have HR0 := aS_ hr0
 have HC0 := aS_ hc0
 clear hr0 hc0
 have HB := aS_ (Below.refl w.heap.size w)
 have H : ((spec_l1Cur_table.f k l0 0 0).bind fun bt248 => ((spec_l1Cur_one.f l0 bt248.2.1 bt248.2.2 4).bind fun bt254 => (if bt254.1 = true then ((spec_l1Cur_held.f k l0 bt254.2.1 bt254.2.2 bt248.1).bind fun bt257 => (some (bt248.1, bt257.1))) else ((spec_l1Cur_among.f l0 bt254.2.1 bt254.2.2 (([12, 1000] : List Int))).bind fun bt263 => ((spec_l1Cur_pick.f l0 bt263.2.1 bt263.2.2 bt263.1).bind fun bt266 => (some (bt248.1, bt266.1))))))) = some (r1, r2) := h
 clear h
 replace H := Option.bind_eq_some_iff.mp H
 obtain ⟨⟨t248, t251, t252⟩, A20, H⟩ := H
 have A2 := aS_ A20
 clear A20
 replace H := Option.bind_eq_some_iff.mp H
 obtain ⟨⟨t254, t255, t256⟩, A30, H⟩ := H
 have A3 := aS_ A30
 clear A30
 by_cases c4 : t254 = true
 ·subst c4
  rw [if_pos rfl] at H
  replace H := Option.bind_eq_some_iff.mp H
  obtain ⟨⟨t257, t258, t259⟩, A50, H⟩ := H
  have A5 := aS_ A50
  clear A50
  simp only [Option.some.injEq, Prod.mk.injEq] at H
  obtain ⟨rfl, rfl⟩ := H
  go_enter Try.func5, Try.ntmps5
  try go_wp2_with (first | ((with_reducible refine gate_dst (N := 2) rfl ?_); refine box_event ?hg (N := 2) ?hd (cs := #[.slice none 0 0]) (t := 26) ?hr ?_; (case hd => rfl); (case hg => rfl); (case hr => first | (go_simp; done) | (go_simp; rfl)); intro gb246 hg w6 hbox hb; have BK246 := aS_ (hbox); have GW246 := gE_ HB hg; have GE246 := gE_ HB hg; replace HB := bE_ HB hb; clear hb hbox hg) | ((with_reducible refine gate_dst (N := 8) rfl ?_); refine box_event ?hg (N := 8) ?hd (cs := #[.slice A0 l0.length c0, .int .i64 0, .int .u64 0]) (t := 46) ?hr ?_; (case hd => rfl); (case hg => rfl); (case hr => first | (go_simp; done) | (go_simp; rfl)); intro gb247 hg w7 hbox hb; have GW247 := gE_ HB hg; have GE247 := gE_ HB hg; have NB246_247 := nL_ BK246 hg; have NB247_246 := nG_ BK246 hg; replace BK246 := kO_ BK246 hb; have HI247 := aS_ ((⟨_, _,  hbox, (by rw [hg]; exact (below_size (bb_ HB))), HR0.out⟩ : IsS46 w w7 gb247 l0 0 0)); replace HB := bE_ HB hb; clear hb hbox hg) | ((with_reducible refine gate_callee (f := 20) rfl ?_); refine goesL_ (some 10) rfl rfl Try.func20 (by kernel_rfl) rfl #[.pointer (some ⟨gb247, 0, none⟩)] rfl aR_ ?_; (with_reducible refine (spec_l1Cur_table.calls k gb247 l0 0 0 t248 t251 t252 w _ ?side1 ?side2 A2.out).mono ?_); (case side1 => exact ss_ HI247); (case side2 => repeat (first | (with_reducible first | exact HB.out | apply bA_ | apply pN_ | apply bD_ | refine bS_ ?_ (IsS46.ge HI247.out) | refine bS_ ?_ GE246.out) | exact HB.out)); rintro e w8 ⟨v249, rfl, ho0, hi, hb, hk⟩; refine ⟨_, rfl, ?_⟩; replace BK246 := aS_ (KeepBut.blk hk (g' := gb246) (o := .cells #[.slice none 0 0] 26 (0, 0)) (kk_ BK246) NB246_247.out (by simp)); have HO250 := aS_ (Kd.R_lower ho0 (below_size (by repeat (first | (with_reducible first | exact HB.out | apply bA_ | apply pN_ | apply bD_ | refine bS_ ?_ (IsS46.ge HI247.out) | refine bS_ ?_ GE246.out) | exact HB.out)))); replace HB := aS_ (hb); replace HI247 := aS_ (hi); (try clear hb); (try clear hk); (try clear hi); (try clear ho0)) | ((with_reducible refine gate_dst (N := 5) rfl ?_); refine box_event ?hg (N := 5) ?hd (cs := #[.slice none 0 0]) (t := 26) ?hr ?_; (case hd => rfl); (case hg => rfl); (case hr => first | (go_simp; done) | (go_simp; rfl)); intro gb253 hg w9 hbox hb; replace HO250 := aS_ (Kd.R_below (rr_ HO250) hb); have BK253 := aS_ (hbox); have GW253 := aS_ ((by rw [hg]; exact (below_size (by repeat (first | (with_reducible first | exact HB.out | apply bA_ | apply pN_ | apply bD_ | refine bS_ ?_ (IsS46.ge HI247.out) | refine bS_ ?_ GE246.out) | exact HB.out))) : w.heap.size ≤ gb253)); have GE253 := aS_ ((by rw [hg]; exact (below_size (by repeat (first | (with_reducible first | exact HB.out | apply bA_ | apply pN_ | apply bD_ | refine bS_ ?_ (IsS46.ge HI247.out) | refine bS_ ?_ GE246.out) | exact HB.out))) : w.heap.size ≤ gb253)); replace HB := aS_ (below_step (by repeat (first | (with_reducible first | exact HB.out | apply bA_ | apply pN_ | apply bD_ | refine bS_ ?_ (IsS46.ge HI247.out) | refine bS_ ?_ GE246.out) | exact HB.out)) hb); have NB246_253 := nL_ BK246 hg; have NB253_246 := nG_ BK246 hg; replace BK246 := kO_ BK246 hb; have NB247_253 := aS_ ((by rw [hg]; exact Nat.ne_of_lt (IsS46.lt (show IsS46 w _ gb247 l0 t251 t252 from ss_ HI247)) : gb247 ≠ gb253)); have NB253_247 := aS_ ((by rw [hg]; exact Nat.ne_of_gt (IsS46.lt (show IsS46 w _ gb247 l0 t251 t252 from ss_ HI247)) : gb253 ≠ gb247)); replace HI247 := aS_ (IsS46.below (ss_ HI247) hb); clear hb hbox hg; obtain ⟨Ao10, co10, eo10⟩ := Kd.R_slice HO250.out; subst eo10; have hnb11 := NB253_246.out; have hnc11 := NB246_253.out; have hnb12 := NB253_247.out; have hnc12 := NB247_253.out; have hcz13_0 : w9.cell? ⟨gb253, 0, none⟩ = some (.slice none 0 0) := (blk_cell BK253.out 0).trans rfl; have hfz13_0 := blk_frozen BK253.out 0) | ((with_reducible refine gate_callee (f := 21) rfl ?_); refine goesL_ (some 12) rfl rfl Try.func21 (by kernel_rfl) rfl #[.pointer (some ⟨gb247, 0, none⟩), .int .i64 4] rfl aR_ ?_; (with_reducible refine (spec_l1Cur_one.calls gb247 l0 t251 t252 4 true t255 t256 w _ ?side1 ?side2 A3.out).mono ?_); (case side1 => exact ss_ HI247); (case side2 => repeat (first | (with_reducible first | exact HB.out | apply bA_ | apply pN_ | apply bD_ | refine bS_ ?_ (IsS46.ge HI247.out) | refine bS_ ?_ GE246.out | refine bS_ ?_ GE253.out) | exact HB.out)); rintro e w14 ⟨rfl, hi, hb, hk⟩; refine ⟨_, rfl, ?_⟩; replace BK246 := aS_ (KeepBut.blk hk (g' := gb246) (o := .cells #[.slice none 0 0] 26 (0, 0)) (by (with_reducible repeat (first | refine kN_ ?_ _ | refine kD_ ?_ | refine kA_ ?_ _)); refine blk_far ?_ NB246_253.out _; (with_reducible repeat (first | refine kN_ ?_ _ | refine kD_ ?_ | refine kA_ ?_ _)); exact BK246.out) NB246_247.out (by simp)); replace HO250 := aS_ (Kd.R_mono (Kd.R_keep (IsS46.apart (show IsS46 w _ gb247 l0 t251 t252 from ss_ HI247) (by (with_reducible repeat (first | apply rA_ | apply rN_ | apply rD_)); exact (Kd.R_mono (Kd.R_far (p := ⟨gb253, 0, none⟩) (Kd.R_types HO250.out BK253.out (by decide)) (fun _ hk => hk.2) (.slice Ao10 t248.length co10)) (fun _ h_ => h_.1))) (by decide)) hk (fun _ h => h.2)) (fun _ h => h.1)); replace BK253 := aS_ (KeepBut.blk hk (g' := gb253) (o := .cells #[.slice Ao10 t248.length co10] 26 (0, 0)) (by (with_reducible repeat (first | refine kN_ ?_ _ | refine kD_ ?_ | refine kA_ ?_ _)); refine blk_put (cs := #[.slice none 0 0]) ?_ 0 _ rfl; (with_reducible repeat (first | refine kN_ ?_ _ | refine kD_ ?_ | refine kA_ ?_ _)); exact BK253.out) NB253_247.out (by simp)); replace HB := aS_ (hb); replace HI247 := aS_ (hi); (try clear hb); (try clear hk); (try clear hi)))
  replace HO250 := aS_ (rD_ HO250.out)
  replace BK246 := aS_ (kD_ BK246.out)
  replace BK253 := aS_ (kD_ BK253.out)
  replace HI247 := aS_ (IsS46.drew HI247.out)
  replace HB := aS_ (bD_ HB.out)
  refine start_ (n := 6) (S := fun w' => w'.cell? ⟨gb253, 0, none⟩ = some (.slice Ao10 t248.length co10)) (ds := []) #[false, false, false, false, false, false] (by kernel_rfl) rfl rfl ((blk_cell BK253.out 0).trans rfl) (fun hHeld => ?_)
  generalize w14.drew = w15 at HO250 BK246 BK253 HI247 HB hHeld ⊢
  refine pure_ (i := 1) (N := some 14) (v := ?_) (a' := ?_) #[false, true, false, false, false, false] rfl rfl (by kernel_rfl) (fun _ _ _ h => h) (Or.inl ⟨by rfl, ?_⟩) ?_ ?_
  rotate_left
  ·intro w'
   go_simp
   with_reducible rfl
  rotate_left
  ·simp only [Act.put, List.setIfInBounds_toArray, List.set_cons_zero, List.set_cons_succ, i64_w, i32_w]
   rfl
  refine take_ (i := 0) (N := some 13) (v := ?_) (a' := ?_) #[true, true, false, false, false, false] rfl rfl (by kernel_rfl) (fun _ _ _ h => h) (Or.inl ⟨by rfl, ?_⟩) hHeld ?_ ?_
  rotate_left
  ·intro w' s0
   go_simp
   with_reducible rfl
  rotate_left
  ·simp only [Act.put, List.setIfInBounds_toArray, List.set_cons_zero, List.set_cons_succ, i64_w, i32_w]
   rfl
  refine take_ (i := 2) (N := some 15) (v := ?_) (a' := ?_) #[true, true, true, false, false, false] rfl rfl (by kernel_rfl) (fun _ _ _ h => h) (Or.inl ⟨by rfl, ?_⟩) hHeld ?_ ?_
  rotate_left
  ·intro w' s0
   go_simp
   with_reducible rfl
  rotate_left
  ·simp only [Act.put, List.setIfInBounds_toArray, List.set_cons_zero, List.set_cons_succ, i64_w, i32_w]
   rfl
  refine one_ (i := 3) (N := some 16) #[true, true, true, true, false, false] rfl rfl (by kernel_rfl) (by decide) (fun K hK => ?_)
  refine goes_ Try.func22 (by kernel_rfl) rfl #[.pointer (some ⟨gb247, 0, none⟩), .agg #[.slice Ao10 t248.length co10]] (by rfl) rfl rfl aR_ ?_
  with_reducible refine (spec_l1Cur_held.calls k gb247 l0 t255 t256 _ _ t248 t257 t258 t259 w _ ?side1 ?side2 ?side3 ?side4 ?side5 A5.out).mono ?_
  (case side1 => exact ss_ HI247)
  (case side2 => repeat (first | (with_reducible first | exact HB.out | apply bA_ | apply pN_ | apply bD_ | refine bS_ ?_ (IsS46.ge HI247.out) | refine bS_ ?_ GE246.out | refine bS_ ?_ GE253.out) | exact HB.out))
  (case side3 => exact cR_ HO250)
  (case side4 => exact (Kd.R_reads' HO250.out).2.1)
  (case side5 => exact far_slice (IsS46.own_ne HI247.out HO250.out (by decide)))
  rintro e w16 ⟨rfl, hi, hb, hk⟩
  refine ⟨_, rfl, ?_⟩
  replace BK246 := aS_ (KeepBut.blk hk (g' := gb246) (o := .cells #[.slice none 0 0] 26 (0, 0)) (kk_ BK246) NB246_247.out (by simp))
  replace HO250 := aS_ (Kd.R_mono (Kd.R_keep (IsS46.apart (show IsS46 w _ gb247 l0 t255 t256 from ss_ HI247) (rr_ HO250) (by decide)) hk (fun _ h => h.2)) (fun _ h => h.1))
  replace BK253 := aS_ (KeepBut.blk hk (g' := gb253) (o := .cells #[.slice Ao10 t248.length co10] 26 (0, 0)) (kk_ BK253) NB253_247.out (by simp))
  replace HB := aS_ (hb)
  replace HI247 := aS_ (hi)
  (try clear hb)
  (try clear hk)
  (try clear hi)
  refine hK.out _ _ ((blk_cell BK253.out 0).trans rfl) (fun hHeld => ?_)
  clear hK K
  refine norm_ (a' := ?_) ?_ ?_
  rotate_left
  ·show Act.put _ (some 16) _ = _
   simp only [Act.put, List.setIfInBounds_toArray, List.set_cons_zero, List.set_cons_succ, i64_w, i32_w]
   rfl
  refine one_ (i := 4) (N := none) #[true, true, true, true, true, false] rfl rfl (by kernel_rfl) (by decide) (fun K hK => ?_)
  have hs17 : w16.cell? ⟨gb246, 0, none⟩ = some (.slice none 0 0) := (blk_cell BK246.out 0).trans rfl
  have hfs17 := blk_frozen BK246.out 0
  have hns17_1 := NB253_246.out
  have hms17_1 := NB246_253.out
  refine skip_ (w1 := ?_) (by rfl) rfl ?_ ?_
  rotate_left
  ·go_simp
   rfl
  refine hK.out _ _ (((cell_far (p := ⟨gb246, _, none⟩) NB253_246.out _).trans (hHeld))) (fun hHeld => ?_)
  clear hK K
  refine pure_ (i := 5) (N := some 3) (v := ?_) (a' := ?_) #[true, true, true, true, true, true] rfl rfl (by kernel_rfl) (fun _ _ _ h => h) (Or.inl ⟨by rfl, ?_⟩) ?_ ?_
  rotate_left
  ·intro w'
   go_simp
   with_reducible rfl
  rotate_left
  ·simp only [Act.put, List.setIfInBounds_toArray, List.set_cons_zero, List.set_cons_succ, i64_w, i32_w]
   rfl
  refine done_ (by kernel_rfl) ?_
  try go_wp2
  refine bodyPost_ret (results_ct rfl _ _ gb246 26 #[.slice Ao10 t248.length co10] (0, 0) _ rfl (by (with_reducible repeat (first | refine kN_ ?_ _ | refine kD_ ?_ | refine kA_ ?_ _)); refine blk_put (cs := #[.slice none 0 0]) ?_ 0 _ rfl; (with_reducible repeat (first | refine kN_ ?_ _ | refine kD_ ?_ | refine kA_ ?_ _)); exact BK246.out) Try.underlying26 rfl (by kernel_rfl)) rfl ?_
  exact ⟨_, by first | rfl | (simp [errW_none, errW_some] <;> rfl) | (simp [*, errW_none, errW_some] <;> rfl), by (with_reducible repeat (first | apply rA_ | apply rN_ | apply rD_)); exact Kd.R_mono (Kd.R_far (p := ⟨gb246, 0, none⟩) (Kd.R_types HO250.out BK246.out (by decide)) (fun _ hk => hk.2) (.slice Ao10 t248.length co10)) (fun _ hk => trivial), by repeat (first | (with_reducible first | exact HB.out | apply bA_ | apply pN_ | apply bD_ | refine bS_ ?_ (IsS46.ge HI247.out) | refine bS_ ?_ GE246.out | refine bS_ ?_ GE253.out) | exact HB.out)⟩
 ·replace c4 := Bool.eq_false_iff.mpr c4
  subst c4
  rw [if_neg (show ¬ (false = true) by decide)] at H
  obtain ⟨y260, hy260⟩ : ∃ y_ : List Int, y_ = (([12, 1000] : List Int)) := ⟨_, rfl⟩
  replace H : ((spec_l1Cur_among.f l0 t255 t256 y260).bind fun bt263 => ((spec_l1Cur_pick.f l0 bt263.2.1 bt263.2.2 bt263.1).bind fun bt266 => (some (t248, bt266.1)))) = some (r1, r2) := by first | (rw [hy260]; with_reducible exact H) | (have H2_ := (Option.bind_some _ _).symm.trans H; rw [hy260]; with_reducible exact H2_) | (have H2_ := (Option.bind_some _ _).symm.trans H; with_reducible exact H2_) | with_reducible exact H | (rw [hy260]; exact H) | exact H
  have Ny260 := aS_ hy260
  clear hy260
  replace H := Option.bind_eq_some_iff.mp H
  obtain ⟨⟨t263, t264, t265⟩, A180, H⟩ := H
  have A18 := aS_ A180
  clear A180
  replace H := Option.bind_eq_some_iff.mp H
  obtain ⟨⟨t266, t267, t268⟩, A190, H⟩ := H
  have A19 := aS_ A190
  clear A190
  simp only [Option.some.injEq, Prod.mk.injEq] at H
  obtain ⟨rfl, rfl⟩ := H
  go_enter Try.func5, Try.ntmps5
  try go_wp2_with (first | ((with_reducible refine gate_dst (N := 2) rfl ?_); refine box_event ?hg (N := 2) ?hd (cs := #[.slice none 0 0]) (t := 26) ?hr ?_; (case hd => rfl); (case hg => rfl); (case hr => first | (go_simp; done) | (go_simp; rfl)); intro gb246 hg w20 hbox hb; have BK246 := aS_ (hbox); have GW246 := gE_ HB hg; have GE246 := gE_ HB hg; replace HB := bE_ HB hb; clear hb hbox hg) | ((with_reducible refine gate_dst (N := 8) rfl ?_); refine box_event ?hg (N := 8) ?hd (cs := #[.slice A0 l0.length c0, .int .i64 0, .int .u64 0]) (t := 46) ?hr ?_; (case hd => rfl); (case hg => rfl); (case hr => first | (go_simp; done) | (go_simp; rfl)); intro gb247 hg w21 hbox hb; have GW247 := gE_ HB hg; have GE247 := gE_ HB hg; have NB246_247 := nL_ BK246 hg; have NB247_246 := nG_ BK246 hg; replace BK246 := kO_ BK246 hb; have HI247 := aS_ ((⟨_, _,  hbox, (by rw [hg]; exact (below_size (bb_ HB))), HR0.out⟩ : IsS46 w w21 gb247 l0 0 0)); replace HB := bE_ HB hb; clear hb hbox hg) | ((with_reducible refine gate_callee (f := 20) rfl ?_); refine goesL_ (some 10) rfl rfl Try.func20 (by kernel_rfl) rfl #[.pointer (some ⟨gb247, 0, none⟩)] rfl aR_ ?_; (with_reducible refine (spec_l1Cur_table.calls k gb247 l0 0 0 t248 t251 t252 w _ ?side1 ?side2 A2.out).mono ?_); (case side1 => exact ss_ HI247); (case side2 => repeat (first | (with_reducible first | exact HB.out | apply bA_ | apply pN_ | apply bD_ | refine bS_ ?_ (IsS46.ge HI247.out) | refine bS_ ?_ GE246.out) | exact HB.out)); rintro e w22 ⟨v249, rfl, ho0, hi, hb, hk⟩; refine ⟨_, rfl, ?_⟩; replace BK246 := aS_ (KeepBut.blk hk (g' := gb246) (o := .cells #[.slice none 0 0] 26 (0, 0)) (kk_ BK246) NB246_247.out (by simp)); have HO250 := aS_ (Kd.R_lower ho0 (below_size (by repeat (first | (with_reducible first | exact HB.out | apply bA_ | apply pN_ | apply bD_ | refine bS_ ?_ (IsS46.ge HI247.out) | refine bS_ ?_ GE246.out) | exact HB.out)))); replace HB := aS_ (hb); replace HI247 := aS_ (hi); (try clear hb); (try clear hk); (try clear hi); (try clear ho0)) | ((with_reducible refine gate_dst (N := 5) rfl ?_); refine box_event ?hg (N := 5) ?hd (cs := #[.slice none 0 0]) (t := 26) ?hr ?_; (case hd => rfl); (case hg => rfl); (case hr => first | (go_simp; done) | (go_simp; rfl)); intro gb253 hg w23 hbox hb; replace HO250 := aS_ (Kd.R_below (rr_ HO250) hb); have BK253 := aS_ (hbox); have GW253 := aS_ ((by rw [hg]; exact (below_size (by repeat (first | (with_reducible first | exact HB.out | apply bA_ | apply pN_ | apply bD_ | refine bS_ ?_ (IsS46.ge HI247.out) | refine bS_ ?_ GE246.out) | exact HB.out))) : w.heap.size ≤ gb253)); have GE253 := aS_ ((by rw [hg]; exact (below_size (by repeat (first | (with_reducible first | exact HB.out | apply bA_ | apply pN_ | apply bD_ | refine bS_ ?_ (IsS46.ge HI247.out) | refine bS_ ?_ GE246.out) | exact HB.out))) : w.heap.size ≤ gb253)); replace HB := aS_ (below_step (by repeat (first | (with_reducible first | exact HB.out | apply bA_ | apply pN_ | apply bD_ | refine bS_ ?_ (IsS46.ge HI247.out) | refine bS_ ?_ GE246.out) | exact HB.out)) hb); have NB246_253 := nL_ BK246 hg; have NB253_246 := nG_ BK246 hg; replace BK246 := kO_ BK246 hb; have NB247_253 := aS_ ((by rw [hg]; exact Nat.ne_of_lt (IsS46.lt (show IsS46 w _ gb247 l0 t251 t252 from ss_ HI247)) : gb247 ≠ gb253)); have NB253_247 := aS_ ((by rw [hg]; exact Nat.ne_of_gt (IsS46.lt (show IsS46 w _ gb247 l0 t251 t252 from ss_ HI247)) : gb253 ≠ gb247)); replace HI247 := aS_ (IsS46.below (ss_ HI247) hb); clear hb hbox hg; obtain ⟨Ao24, co24, eo24⟩ := Kd.R_slice HO250.out; subst eo24; have hnb25 := NB253_246.out; have hnc25 := NB246_253.out; have hnb26 := NB253_247.out; have hnc26 := NB247_253.out; have hcz27_0 : w23.cell? ⟨gb253, 0, none⟩ = some (.slice none 0 0) := (blk_cell BK253.out 0).trans rfl; have hfz27_0 := blk_frozen BK253.out 0) | ((with_reducible refine gate_callee (f := 21) rfl ?_); refine goesL_ (some 12) rfl rfl Try.func21 (by kernel_rfl) rfl #[.pointer (some ⟨gb247, 0, none⟩), .int .i64 4] rfl aR_ ?_; (with_reducible refine (spec_l1Cur_one.calls gb247 l0 t251 t252 4 false t255 t256 w _ ?side1 ?side2 A3.out).mono ?_); (case side1 => exact ss_ HI247); (case side2 => repeat (first | (with_reducible first | exact HB.out | apply bA_ | apply pN_ | apply bD_ | refine bS_ ?_ (IsS46.ge HI247.out) | refine bS_ ?_ GE246.out | refine bS_ ?_ GE253.out) | exact HB.out)); rintro e w28 ⟨rfl, hi, hb, hk⟩; refine ⟨_, rfl, ?_⟩; replace BK246 := aS_ (KeepBut.blk hk (g' := gb246) (o := .cells #[.slice none 0 0] 26 (0, 0)) (by (with_reducible repeat (first | refine kN_ ?_ _ | refine kD_ ?_ | refine kA_ ?_ _)); refine blk_far ?_ NB246_253.out _; (with_reducible repeat (first | refine kN_ ?_ _ | refine kD_ ?_ | refine kA_ ?_ _)); exact BK246.out) NB246_247.out (by simp)); replace HO250 := aS_ (Kd.R_mono (Kd.R_keep (IsS46.apart (show IsS46 w _ gb247 l0 t251 t252 from ss_ HI247) (by (with_reducible repeat (first | apply rA_ | apply rN_ | apply rD_)); exact (Kd.R_mono (Kd.R_far (p := ⟨gb253, 0, none⟩) (Kd.R_types HO250.out BK253.out (by decide)) (fun _ hk => hk.2) (.slice Ao24 t248.length co24)) (fun _ h_ => h_.1))) (by decide)) hk (fun _ h => h.2)) (fun _ h => h.1)); replace BK253 := aS_ (KeepBut.blk hk (g' := gb253) (o := .cells #[.slice Ao24 t248.length co24] 26 (0, 0)) (by (with_reducible repeat (first | refine kN_ ?_ _ | refine kD_ ?_ | refine kA_ ?_ _)); refine blk_put (cs := #[.slice none 0 0]) ?_ 0 _ rfl; (with_reducible repeat (first | refine kN_ ?_ _ | refine kD_ ?_ | refine kA_ ?_ _)); exact BK253.out) NB253_247.out (by simp)); replace HB := aS_ (hb); replace HI247 := aS_ (hi); (try clear hb); (try clear hk); (try clear hi)))
  replace HO250 := aS_ (rD_ HO250.out)
  replace BK246 := aS_ (kD_ BK246.out)
  replace BK253 := aS_ (kD_ BK253.out)
  replace HI247 := aS_ (IsS46.drew HI247.out)
  replace HB := aS_ (bD_ HB.out)
  refine start_ (n := 8) (S := fun w' => w'.cell? ⟨gb253, 0, none⟩ = some (.slice Ao24 t248.length co24)) (ds := []) #[false, false, false, false, false, false, false, false] (by kernel_rfl) rfl rfl ((blk_cell BK253.out 0).trans rfl) (fun hHeld => ?_); refine with_tabW spec_DrawInsertKey.tab5 spec_DrawInsertKey.bits5 (fun HT_ HW_ => ?_)
  generalize w28.drew = w29 at HO250 BK246 BK253 HI247 HB hHeld ⊢
  refine pure_ (i := 1) (N := some 18) (v := ?_) (a' := ?_) #[false, true, false, false, false, false, false, false] rfl rfl (any_of HT_.out (by kernel_rfl)) (fun _ _ _ h => h) (Or.inl ⟨by rfl, ?_⟩) ?_ ?_
  rotate_left
  ·intro w'
   go_simp
   with_reducible rfl
  rotate_left
  ·simp only [Act.put, List.setIfInBounds_toArray, List.set_cons_zero, List.set_cons_succ, i64_w, i32_w]
   rfl
  refine pure_ (i := 2) (N := some 19) (v := ?_) (a' := ?_) #[false, true, true, false, false, false, false, false] rfl rfl (any_of HT_.out (by kernel_rfl)) (fun _ _ _ h => h) (Or.inl ⟨by rfl, ?_⟩) ?_ ?_
  rotate_left
  ·intro w'
   go_simp
   with_reducible rfl
  rotate_left
  ·simp only [Act.put, List.setIfInBounds_toArray, List.set_cons_zero, List.set_cons_succ, i64_w, i32_w]
   rfl
  refine take_ (i := 0) (N := some 17) (v := ?_) (a' := ?_) #[true, true, true, false, false, false, false, false] rfl rfl (take_ofW HT_.out HW_.out (by kernel_rfl)) (fun _ _ _ h => h) (Or.inl ⟨by rfl, ?_⟩) hHeld ?_ ?_
  rotate_left
  ·intro w' s0
   go_simp
   with_reducible rfl
  rotate_left
  ·simp only [Act.put, List.setIfInBounds_toArray, List.set_cons_zero, List.set_cons_succ, i64_w, i32_w]
   rfl
  refine one_ (i := 3) (N := some 20) #[true, true, true, true, false, false, false, false] rfl rfl (one_of HT_.out (by kernel_rfl)) (by decide) (fun K hK => ?_)
  refine Kd.R_lit_step (Kd.int .i64) _ 3 ?hg (N := 20) ?hd (xs := ([12, 1000] : List Int)) (inner := [.int .i64 12, .int .i64 1000]) (ok := fun _ => True) (okp := fun _ => True) ?hr ?hp (fun _ hk => hk) trivial (Below.refl _ _) (Nat.le_refl _) (by simp) ?_; (case hd => rfl); (case hg => rfl); (case hr => first | (go_simp; done) | (go_simp; rfl)); (case hp => exact (Reps.one (show Kd.M (Kd.int .i64) _ _ _ 12 [.int .i64 12] from rfl) (Reps.one (show Kd.M (Kd.int .i64) _ _ _ 1000 [.int .i64 1000] from rfl) (Reps.none _ _))))
  intro v261 w30 ho31 hb hg_ hnew_
  clear hg_ hnew_
  (first | rw [← Ny260.out] at ho31 | (simp only [Int.reduceToNat] at ho31; rw [← Ny260.out] at ho31))
  have HO262 := aS_ (Kd.R_lower (Kd.R_new' ho31 (Kd.R_lt (rr_ HO250))) (below_size (by repeat (first | (with_reducible first | exact HB.out | apply bA_ | apply pN_ | apply bD_ | refine bS_ ?_ (IsS46.ge HI247.out) | refine bS_ ?_ GE246.out | refine bS_ ?_ GE253.out) | exact HB.out))))
  replace HO250 := aS_ (Kd.R_elder' (rr_ HO250) (Kd.R_base ho31) hb)
  replace BK246 := kO_ BK246 hb
  replace BK253 := kO_ BK253 hb
  replace HB := aS_ (below_step (by repeat (first | (with_reducible first | exact HB.out | apply bA_ | apply pN_ | apply bD_ | refine bS_ ?_ (IsS46.ge HI247.out) | refine bS_ ?_ GE246.out | refine bS_ ?_ GE253.out) | exact HB.out)) hb)
  replace HI247 := aS_ (IsS46.below (ss_ HI247) hb)
  clear hb ho31
  obtain ⟨Ao32, co32, eo32⟩ := Kd.R_slice HO262.out
  (first | subst eo32 | (injection eo32 with f1_ f2_ f3_; have f4_ := f1_.symm; have f5_ := f3_.symm; clear f1_ f2_ f3_; subst f4_; subst f5_))
  refine hK.out _ _ ((blk_cell BK253.out 0).trans rfl) (fun hHeld => ?_)
  clear hK K
  refine norm_ (a' := ?_) ?_ ?_
  rotate_left
  ·show Act.put _ (some 20) _ = _
   simp only [Act.put, List.setIfInBounds_toArray, List.set_cons_zero, List.set_cons_succ, i64_w, i32_w]
   rfl
  refine one_ (i := 4) (N := some 21) #[true, true, true, true, true, false, false, false] rfl rfl (one_of HT_.out (by kernel_rfl)) (by decide) (fun K hK => ?_)
  refine goes_ Try.func24 (by kernel_rfl) rfl #[.pointer (some ⟨gb247, 0, none⟩), .slice Ao32 y260.length co32] (by rfl) rfl rfl aR_ ?_
  with_reducible refine (spec_l1Cur_among.calls gb247 l0 t255 t256 _ _ y260 t263 t264 t265 w _ ?side1 ?side2 ?side3 ?side4 ?side5 A18.out).mono ?_
  (case side1 => exact ss_ HI247)
  (case side2 => repeat (first | (with_reducible first | exact HB.out | apply bA_ | apply pN_ | apply bD_ | refine bS_ ?_ (IsS46.ge HI247.out) | refine bS_ ?_ GE246.out | refine bS_ ?_ GE253.out) | exact HB.out))
  (case side3 => exact cR_ HO262)
  (case side4 => exact (Kd.R_reads' HO262.out).2.1)
  (case side5 => exact far_slice (IsS46.own_ne HI247.out HO262.out (by decide)))
  rintro e w33 ⟨rfl, hi, hb, hk⟩
  refine ⟨_, rfl, ?_⟩
  replace BK246 := aS_ (KeepBut.blk hk (g' := gb246) (o := .cells #[.slice none 0 0] 26 (0, 0)) (kk_ BK246) NB246_247.out (by simp))
  replace HO250 := aS_ (Kd.R_mono (Kd.R_keep (IsS46.apart (show IsS46 w _ gb247 l0 t255 t256 from ss_ HI247) (rr_ HO250) (by decide)) hk (fun _ h => h.2)) (fun _ h => h.1))
  replace BK253 := aS_ (KeepBut.blk hk (g' := gb253) (o := .cells #[.slice Ao24 t248.length co24] 26 (0, 0)) (kk_ BK253) NB253_247.out (by simp))
  replace HO262 := aS_ (Kd.R_mono (Kd.R_keep (IsS46.apart (show IsS46 w _ gb247 l0 t255 t256 from ss_ HI247) (rr_ HO262) (by decide)) hk (fun _ h => h.2)) (fun _ h => h.1))
  replace HB := aS_ (hb)
  replace HI247 := aS_ (hi)
  (try clear hb)
  (try clear hk)
  (try clear hi)
  refine hK.out _ _ ((blk_cell BK253.out 0).trans rfl) (fun hHeld => ?_)
  clear hK K
  refine norm_ (a' := ?_) ?_ ?_
  rotate_left
  ·show Act.put _ (some 21) _ = _
   simp only [Act.put, List.setIfInBounds_toArray, List.set_cons_zero, List.set_cons_succ, i64_w, i32_w]
   rfl
  refine one_ (i := 5) (N := some 22) #[true, true, true, true, true, true, false, false] rfl rfl (one_of HT_.out (by kernel_rfl)) (by decide) (fun K hK => ?_)
  refine goes_ Try.func23 (by kernel_rfl) rfl #[.pointer (some ⟨gb247, 0, none⟩), .int .i64 t263] (by rfl) rfl rfl aR_ ?_
  with_reducible refine (spec_l1Cur_pick.calls gb247 l0 t264 t265 t263 t266 t267 t268 w _ ?side1 ?side2 A19.out).mono ?_
  (case side1 => exact ss_ HI247)
  (case side2 => repeat (first | (with_reducible first | exact HB.out | apply bA_ | apply pN_ | apply bD_ | refine bS_ ?_ (IsS46.ge HI247.out) | refine bS_ ?_ GE246.out | refine bS_ ?_ GE253.out) | exact HB.out))
  rintro e w34 ⟨rfl, hi, hb, hk⟩
  refine ⟨_, rfl, ?_⟩
  replace BK246 := aS_ (KeepBut.blk hk (g' := gb246) (o := .cells #[.slice none 0 0] 26 (0, 0)) (kk_ BK246) NB246_247.out (by simp))
  replace HO250 := aS_ (Kd.R_mono (Kd.R_keep (IsS46.apart (show IsS46 w _ gb247 l0 t264 t265 from ss_ HI247) (rr_ HO250) (by decide)) hk (fun _ h => h.2)) (fun _ h => h.1))
  replace BK253 := aS_ (KeepBut.blk hk (g' := gb253) (o := .cells #[.slice Ao24 t248.length co24] 26 (0, 0)) (kk_ BK253) NB253_247.out (by simp))
  replace HO262 := aS_ (Kd.R_mono (Kd.R_keep (IsS46.apart (show IsS46 w _ gb247 l0 t264 t265 from ss_ HI247) (rr_ HO262) (by decide)) hk (fun _ h => h.2)) (fun _ h => h.1))
  replace HB := aS_ (hb)
  replace HI247 := aS_ (hi)
  (try clear hb)
  (try clear hk)
  (try clear hi)
  refine hK.out _ _ ((blk_cell BK253.out 0).trans rfl) (fun hHeld => ?_)
  clear hK K
  refine norm_ (a' := ?_) ?_ ?_
  rotate_left
  ·show Act.put _ (some 22) _ = _
   simp only [Act.put, List.setIfInBounds_toArray, List.set_cons_zero, List.set_cons_succ, i64_w, i32_w]
   rfl
  refine one_ (i := 6) (N := none) #[true, true, true, true, true, true, true, false] rfl rfl (one_of HT_.out (by kernel_rfl)) (by decide) (fun K hK => ?_)
  have hs35 : w34.cell? ⟨gb246, 0, none⟩ = some (.slice none 0 0) := (blk_cell BK246.out 0).trans rfl
  have hfs35 := blk_frozen BK246.out 0
  have hns35_1 := NB253_246.out
  have hms35_1 := NB246_253.out
  refine skip_ (w1 := ?_) (by rfl) rfl ?_ ?_
  rotate_left
  ·go_simp
   rfl
  refine hK.out _ _ (((cell_far (p := ⟨gb246, _, none⟩) NB253_246.out _).trans (hHeld))) (fun hHeld => ?_)
  clear hK K
  refine pure_ (i := 7) (N := some 3) (v := ?_) (a' := ?_) #[true, true, true, true, true, true, true, true] rfl rfl (any_of HT_.out (by kernel_rfl)) (fun _ _ _ h => h) (Or.inl ⟨by rfl, ?_⟩) ?_ ?_
  rotate_left
  ·intro w'
   go_simp
   with_reducible rfl
  rotate_left
  ·simp only [Act.put, List.setIfInBounds_toArray, List.set_cons_zero, List.set_cons_succ, i64_w, i32_w]
   rfl
  refine done_ (done_of HT_.out (by kernel_rfl)) ?_
  try go_wp2
  refine bodyPost_ret (results_ct rfl _ _ gb246 26 #[.slice Ao24 t248.length co24] (0, 0) _ rfl (by (with_reducible repeat (first | refine kN_ ?_ _ | refine kD_ ?_ | refine kA_ ?_ _)); refine blk_put (cs := #[.slice none 0 0]) ?_ 0 _ rfl; (with_reducible repeat (first | refine kN_ ?_ _ | refine kD_ ?_ | refine kA_ ?_ _)); exact BK246.out) Try.underlying26 rfl (by kernel_rfl)) rfl ?_
  exact ⟨_, by first | rfl | (simp [errW_none, errW_some] <;> rfl) | (simp [*, errW_none, errW_some] <;> rfl), by (with_reducible repeat (first | apply rA_ | apply rN_ | apply rD_)); exact Kd.R_mono (Kd.R_far (p := ⟨gb246, 0, none⟩) (Kd.R_types HO250.out BK246.out (by decide)) (fun _ hk => hk.2) (.slice Ao24 t248.length co24)) (fun _ hk => trivial), by repeat (first | (with_reducible first | exact HB.out | apply bA_ | apply pN_ | apply bD_ | refine bS_ ?_ (IsS46.ge HI247.out) | refine bS_ ?_ GE246.out | refine bS_ ?_ GE253.out) | exact HB.out)⟩
/-! ### slices_Index_int_int: function 37 -/
def slices_Index_int_int.l0 : Nat → List Int → Int → Int → Int → Option (Int)
 | 0, _, _, _, _ => none
 | k + 1, x0, x1, x7, x8 => if x8 < x7 then (if 0 ≤ x8 then (if x8 < (x0.length : Int) then (if x1 = (rd x0 x8) then (some x8) else (slices_Index_int_int.l0 k x0 x1 x7 (wrap64 (x8 + 1)))) else (none)) else (none)) else (some (-1))
def slices_Index_int_int.f (k : Nat) (l0 : List Int) (a1 : Int) : Option (Int) := slices_Index_int_int.l0 k l0 a1 (l0.length : Int) 0
theorem slices_Index_int_int.mono_l : ∀ k, (∀ y0 y1 y2 y3, LeO (slices_Index_int_int.l0 k y0 y1 y2 y3) (slices_Index_int_int.l0 (k + 1) y0 y1 y2 y3))
 | 0 => fun _ _ _ _ r h => by simp [slices_Index_int_int.l0] at h
 | k + 1 => by
  have ih0 := slices_Index_int_int.mono_l k
  ·intro y0 y1 y2 y3
   unfold slices_Index_int_int.l0
   repeat' first
   | (with_reducible exact ih0 _ _ _ _)
   | (with_reducible exact LeO.refl _)
   | (with_reducible exact LeO.none _)
   | (with_reducible refine LeO.ite ?_ ?_)
   | (with_reducible refine LeO.bind ?_ (fun _ => ?_))
   | exact ih0 _ _ _ _
   | exact LeO.none _
   | refine LeO.ite ?_ ?_
   | refine LeO.bind ?_ (fun _ => ?_)
theorem slices_Index_int_int.mono : ∀ a0 a1 k, LeO (slices_Index_int_int.f k a0 a1) (slices_Index_int_int.f (k + 1) a0 a1) := by
 intro a0 a1 k
 have ih0 := slices_Index_int_int.mono_l k
 unfold slices_Index_int_int.f
 repeat' first
   | (with_reducible exact ih0 _ _ _ _)
   | (with_reducible exact LeO.refl _)
   | (with_reducible exact LeO.none _)
   | (with_reducible refine LeO.ite ?_ ?_)
   | (with_reducible refine LeO.bind ?_ (fun _ => ?_))
   | exact ih0 _ _ _ _
   | exact LeO.none _
   | refine LeO.ite ?_ ?_
   | refine LeO.bind ?_ (fun _ => ?_)
set_option maxHeartbeats 8000000 in
set_option maxRecDepth 100000 in
theorem slices_Index_int_int.calls (k : Nat) (A0 : Option Addr) (c0 : Nat) (l0 : List Int) (a1 : Int) (r : Int) (w : World) (hr0 : Kd.C (Kd.int .i64) w A0 l0.length l0) (hc0 : l0.length ≤ c0) (h : slices_Index_int_int.f k l0 a1 = some r) :
  Calls Try.prog 37 #[.slice A0 l0.length c0, .int .i64 a1] w fun e w' => e = .returned (.int .i64 r) ∧ Drawn0 w w' := by
 have HR0 := aS_ hr0
 have HC0 := aS_ hc0
 clear hr0 hc0
 have H : (slices_Index_int_int.l0 k l0 a1 (l0.length : Int) 0) = some r := h
 clear h
 have H' := aS_ H
 clear H
 go_enter Try.func37, Try.ntmps37
 go_wp2
 go_loopg [8] k (fun kq v8 w' => ∃ (x8_1 : Int), v8 = .int .i64 x8_1 ∧ Aside0 (slices_Index_int_int.l0 kq l0 a1 (l0.length : Int) x8_1 = some r) ∧ Aside0 (kq ≤ k) ∧ Drawn0 w w')
 case atStart => exact ⟨(0), sR_, H', ⟨Nat.le_refl _⟩, by repeat (first | exact Drawn0.refl _ | apply Drawn0.step)⟩
 case round =>
  clear H'
  try clear p2
  obtain ⟨x8_1, rfl, HA, HK1, ⟨m1, rfl⟩⟩ := hrel
  cases gk with
  | zero => exact absurd HA.out (by simp [slices_Index_int_int.l0])
  | succ k1 =>
   have H := HA.out
   clear HA
   simp only [slices_Index_int_int.l0] at H
   by_cases c3 : x8_1 < (l0.length : Int)
   ·rw [if_pos c3] at H
    have c3b0 : decide (x8_1 < (l0.length : Int)) = true := decide_eq_true c3
    clear c3
    by_cases c4 : 0 ≤ x8_1
    ·rw [if_pos c4] at H
     have c4b0 : decide (0 ≤ x8_1) = true := decide_eq_true c4
     clear c4
     by_cases c5 : x8_1 < (l0.length : Int)
     ·rw [if_pos c5] at H
      have c5b0 : decide (x8_1 < (l0.length : Int)) = true := decide_eq_true c5
      clear c5
      by_cases c6 : a1 = (rd l0 x8_1)
      ·rw [if_pos c6] at H
       have c6b0 : (a1 == (rd l0 x8_1)) = true := beq_iff_eq.mpr c6
       have c6b1 : (a1 != (rd l0 x8_1)) = false := bne_eq_false_iff_eq.mpr c6
       clear c6
       obtain rfl := Option.some.inj H
       have p269 : 0 ≤ (x8_1 : Int) := of_decide_eq_true (by assumption)
       have q269 : x8_1 < (l0.length : Int) := of_decide_eq_true (by assumption)
       obtain ⟨ad269, e269, hx269_0⟩ := Kd.at_int HR0.out x8_1 p269 q269
       cases e269
       replace p269 := eq_true p269
       replace q269 := eq_true q269
       go_wp2
       go_ret
       exact ⟨sR_, by repeat (first | exact Drawn0.refl _ | apply Drawn0.step)⟩
      ·rw [if_neg c6] at H
       have c6b0 : (a1 == (rd l0 x8_1)) = false := beq_eq_false_iff_ne.mpr c6
       have c6b1 : (a1 != (rd l0 x8_1)) = true := bne_iff_ne.mpr c6
       have H' := aS_ H
       clear H
       have p269 : 0 ≤ (x8_1 : Int) := of_decide_eq_true (by assumption)
       have q269 : x8_1 < (l0.length : Int) := of_decide_eq_true (by assumption)
       obtain ⟨ad269, e269, hx269_0⟩ := Kd.at_int HR0.out x8_1 p269 q269
       cases e269
       replace p269 := eq_true p269
       replace q269 := eq_true q269
       go_wp2
       go_roundg k1
       case measure => have := HK1.out; omega
       case rel => exact ⟨(wrap64 (x8_1 + 1)), sR_, H', ⟨by have := HK1.out; omega⟩, by repeat (first | exact Drawn0.refl _ | apply Drawn0.step)⟩
     ·rw [if_neg c5] at H
      exact absurd H (by simp)
    ·rw [if_neg c4] at H
     exact absurd H (by simp)
   ·rw [if_neg c3] at H
    have c3b0 : decide (x8_1 < (l0.length : Int)) = false := decide_eq_false c3
    clear c3
    obtain rfl := Option.some.inj H
    go_wp2
    go_ret
    exact ⟨sR_, by repeat (first | exact Drawn0.refl _ | apply Drawn0.step)⟩
/-! ### slices_Contains_int_int: function 27 -/
def slices_Contains_int_int.f (k : Nat) (l0 : List Int) (a1 : Int) : Option (Bool) := (slices_Index_int_int.f k l0 a1).bind fun t270 => (some (decide (t270 ≥ 0)))
theorem slices_Contains_int_int.mono : ∀ a0 a1 k, LeO (slices_Contains_int_int.f k a0 a1) (slices_Contains_int_int.f (k + 1) a0 a1) := by
 intro a0 a1 k
 unfold slices_Contains_int_int.f
 repeat' first
   | (with_reducible exact slices_Index_int_int.mono _ _ _)
   | (with_reducible exact LeO.refl _)
   | (with_reducible exact LeO.none _)
   | (with_reducible refine LeO.ite ?_ ?_)
   | (with_reducible refine LeO.bind ?_ (fun _ => ?_))
   | exact slices_Index_int_int.mono _ _ _
   | exact LeO.none _
   | refine LeO.ite ?_ ?_
   | refine LeO.bind ?_ (fun _ => ?_)
set_option maxHeartbeats 8000000 in
set_option maxRecDepth 100000 in
theorem slices_Contains_int_int.calls (k : Nat) (A0 : Option Addr) (c0 : Nat) (l0 : List Int) (a1 : Int) (r : Bool) (w : World) (hr0 : Kd.C (Kd.int .i64) w A0 l0.length l0) (hc0 : l0.length ≤ c0) (h : slices_Contains_int_int.f k l0 a1 = some r) :
  Calls Try.prog 27 #[.slice A0 l0.length c0, .int .i64 a1] w fun e w' => e = .returned (.bool r) ∧ Drawn0 w w' := by
 have HR0 := aS_ hr0
 have HC0 := aS_ hc0
 clear hr0 hc0
 have H : ((slices_Index_int_int.f k l0 a1).bind fun t270 => (some (decide (t270 ≥ 0)))) = some r := h
 clear h
 replace H := Option.bind_eq_some_iff.mp H
 obtain ⟨t270, A30, H⟩ := H
 have A3 := aS_ A30
 clear A30
 obtain rfl := Option.some.inj H
 go_enter Try.func27, Try.ntmps27
 go_wp2_with (first | ((with_reducible refine gate_callee (f := 37) rfl ?_); refine goesL_ (some 7) rfl rfl Try.func37 (by kernel_rfl) rfl #[.slice A0 l0.length c0, .int .i64 a1] rfl aR_ ?_; (with_reducible refine (slices_Index_int_int.calls k _ _ l0 a1 t270 _ ?side1 ?side2 A3.out).mono ?_); (case side1 => repeat (first | exact HR0.out | (with_reducible refine Kd.C_alloc ?_ _) | (with_reducible refine Kd.C_drewN ?_ _) | (with_reducible refine Kd.C_drew ?_))); (case side2 => exact HC0.out); rintro e w' ⟨rfl, ⟨nd, rfl⟩⟩; refine ⟨_, rfl, ?_⟩))
 go_ret
 exact ⟨sR_, by repeat (first | exact Drawn0.refl _ | apply Drawn0.step)⟩
/-! ### impl_Table_cost: function 38 -/
def impl_Table_cost.f (l0_0 : List Int) (a1 : Int) : Option (Int) := if 0 ≤ a1 then (if a1 < (l0_0.length : Int) then (if (l0_0.length : Int) = 0 then (none) else (some (Int.tmod (wrap64 ((wrap64 (a1 - (Int.tmod (rd l0_0 a1) (l0_0.length : Int)))) + (l0_0.length : Int))) (l0_0.length : Int)))) else (none)) else (none)
set_option maxHeartbeats 8000000 in
set_option maxRecDepth 100000 in
theorem impl_Table_cost.calls (A0_0 : Option Addr) (c0_0 : Nat) (l0_0 : List Int) (a1 : Int) (r : Int) (w : World) (hr0_0 : Kd.C (Kd.int .i64) w A0_0 l0_0.length l0_0) (hc0_0 : l0_0.length ≤ c0_0) (h : impl_Table_cost.f l0_0 a1 = some r) :
  Calls Try.prog 38 #[.agg #[.slice A0_0 l0_0.length c0_0], .int .i64 a1] w fun e w' => e = .returned (.int .i64 r) ∧ Below w.heap.size w w' := by
 have hu26 := Try.underlying26
 have HR0_0 := aS_ hr0_0
 have HC0_0 := aS_ hc0_0
 clear hr0_0 hc0_0
 have HB := aS_ (Below.refl w.heap.size w)
 have H : (if 0 ≤ a1 then (if a1 < (l0_0.length : Int) then (if (l0_0.length : Int) = 0 then (none) else (some (Int.tmod (wrap64 ((wrap64 (a1 - (Int.tmod (rd l0_0 a1) (l0_0.length : Int)))) + (l0_0.length : Int))) (l0_0.length : Int)))) else (none)) else (none)) = some r := h
 clear h
 by_cases c3 : 0 ≤ a1
 ·rw [if_pos c3] at H
  have c3b0 : decide (0 ≤ a1) = true := decide_eq_true c3
  clear c3
  by_cases c4 : a1 < (l0_0.length : Int)
  ·rw [if_pos c4] at H
   have c4b0 : decide (a1 < (l0_0.length : Int)) = true := decide_eq_true c4
   clear c4
   by_cases c5 : (l0_0.length : Int) = 0
   ·rw [if_pos c5] at H
    exact absurd H (by simp)
   ·rw [if_neg c5] at H
    have c5b0 : ((l0_0.length : Int) == 0) = false := beq_eq_false_iff_ne.mpr c5
    have c5b1 : ((l0_0.length : Int) != 0) = true := bne_iff_ne.mpr c5
    have c5b2 : ¬ (l0_0 = []) := fun h_ => c5 (by rw [h_]; rfl)
    obtain rfl := Option.some.inj H
    go_enter Try.func38, Try.ntmps38
    go_wp2_with (first | ((with_reducible refine gate_dst (N := 2) rfl ?_); refine box_event ?hg (N := 2) ?hd (cs := #[.slice A0_0 l0_0.length c0_0]) (t := 26) ?hr ?_; (case hd => rfl); (case hg => rfl); (case hr => first | (go_simp; done) | (go_simp; rfl)); intro gb271 hg w6 hbox hb; have BK271 := aS_ (hbox); have GW271 := gE_ HB hg; have GE271 := gE_ HB hg; replace HB := bE_ HB hb; clear hb hbox hg; have hcz7_0 : w6.cell? ⟨gb271, 0, none⟩ = some (.slice A0_0 l0_0.length c0_0) := (blk_cell BK271.out 0).trans rfl; have hfz7_0 := blk_frozen BK271.out 0; have p272 : 0 ≤ (a1 : Int) := of_decide_eq_true (by assumption); have q272 : a1 < (l0_0.length : Int) := of_decide_eq_true (by assumption); obtain ⟨ad272, e272, hx272_0⟩ := Kd.at_int HR0_0.out a1 p272 q272; cases e272; replace hx272_0 := (HB.out.cell (World.block_lt_of_cell? w _ hx272_0)).trans hx272_0; replace p272 := eq_true p272; replace q272 := eq_true q272))
    go_ret
    exact ⟨eR_, bb_ HB⟩
  ·rw [if_neg c4] at H
   exact absurd H (by simp)
 ·rw [if_neg c3] at H
  exact absurd H (by simp)
/-! ### impl_between: function 55 -/
def impl_between.f (a0 : Int) (a1 : Int) (a2 : Int) : Option (Bool) := if a0 ≥ a1 then (some (decide (a0 ≤ a2))) else (some false)
set_option maxHeartbeats 8000000 in
set_option maxRecDepth 100000 in
theorem impl_between.calls (a0 : Int) (a1 : Int) (a2 : Int) (r : Bool) (w : World) (h : impl_between.f a0 a1 a2 = some r) :
  Calls Try.prog 55 #[.int .i64 a0, .int .i64 a1, .int .i64 a2] w fun e w' => e = .returned (.bool r) ∧ Drawn0 w w' := by
 have H : (if a0 ≥ a1 then (some (decide (a0 ≤ a2))) else (some false)) = some r := h
 clear h
 by_cases c4 : a0 ≥ a1
 ·rw [if_pos c4] at H
  have c4b0 : decide (a1 ≤ a0) = true := decide_eq_true c4
  clear c4
  obtain rfl := Option.some.inj H
  go_enter Try.func55, Try.ntmps55
  go_wp2
  go_ret
  exact ⟨sR_, by repeat (first | exact Drawn0.refl _ | apply Drawn0.step)⟩
 ·rw [if_neg c4] at H
  have c4b0 : decide (a1 ≤ a0) = false := decide_eq_false c4
  clear c4
  obtain rfl := Option.some.inj H
  go_enter Try.func55, Try.ntmps55
  go_wp2
  go_ret
  exact ⟨sR_, by repeat (first | exact Drawn0.refl _ | apply Drawn0.step)⟩
/-! ### impl_isSize: function 53 -/
def impl_isSize.f (a0 : Int) : Option (Bool) := (impl_between.f a0 2 12).bind fun t273 => (some t273)
set_option maxHeartbeats 8000000 in
set_option maxRecDepth 100000 in
theorem impl_isSize.calls (a0 : Int) (r : Bool) (w : World) (h : impl_isSize.f a0 = some r) :
  Calls Try.prog 53 #[.int .i64 a0] w fun e w' => e = .returned (.bool r) ∧ Drawn0 w w' := by
 have H : ((impl_between.f a0 2 12).bind fun t273 => (some t273)) = some r := h
 clear h
 replace H := Option.bind_eq_some_iff.mp H
 obtain ⟨t273, A20, H⟩ := H
 have A2 := aS_ A20
 clear A20
 obtain rfl := Option.some.inj H
 go_enter Try.func53, Try.ntmps53
 go_wp2_with (first | ((with_reducible refine gate_callee (f := 55) rfl ?_); refine goesL_ (some 4) rfl rfl Try.func55 (by kernel_rfl) rfl #[.int .i64 a0, .int .i64 2, .int .i64 12] rfl aR_ ?_; (with_reducible refine (impl_between.calls a0 2 12 t273 _ A2.out).mono ?_); rintro e w' ⟨rfl, ⟨nd, rfl⟩⟩; refine ⟨_, rfl, ?_⟩))
 go_ret
 exact ⟨sR_, by repeat (first | exact Drawn0.refl _ | apply Drawn0.step)⟩
end Go.Proofs.Ytjhpnihlmnlehaa.G
namespace Go.Proofs.Ytjhpnihlmnlehaa.G
open Go.RowKit Go.Proofs.YtjhpnihlmnlehaaW.PrintWords Go.Proofs.YtjhpnihlmnlehaaW.PrintLast Go.Proofs.YtjhpnihlmnlehaaW.PrintMore
/-- A function value that is a predicate on ints, in every world in which what lay still lies. -/
def PredB (g : Nat) (lb : Array Value) (p : Int → Bool) (w : World) : Prop :=
  ∀ (W : World) (x : Int), Below w.heap.size w W → Calls Try.prog g (#[.int .i64 x] ++ lb) W fun e w' => e = .returned (.bool (p x)) ∧ ∃ q, w' = W.drewN q
theorem PredB.later {g : Nat} {lb : Array Value} {p : Int → Bool} {w W : World} (h : PredB g lb p w) (hb : Below w.heap.size w W) : PredB g lb p W :=
  fun W' x hb' => h W' x (below_then hb hb.size hb')
theorem drew_below (w : World) (q : Nat) : Below w.heap.size w (w.drewN q) := pw_below_drewN (Below.refl _ w) q
/-- The place of the first element at which p holds, from place i on; -1 where there is none. -/
def idxF (p : Int → Bool) : List Int → Int → Int
  | [], _ => -1
  | x :: r, i => if p x = true then i else idxF p r (i + 1)
theorem idxF_hit (p : Int → Bool) : ∀ (l : List Int) (k : Nat) (i : Int), k < l.length → (∀ j, j < k → p (l.getD j 0) = false) → p (l.getD k 0) = true → idxF p l i = i + k
  | [], k, i, h, _, _ => by simp at h
  | x :: r, 0, i, h, h1, h2 => by
    have : p x = true := by simpa using h2
    simp [idxF, this]
  | x :: r, k + 1, i, h, h1, h2 => by
    have h0 : p x = false := by simpa using h1 0 (by omega)
    have := idxF_hit p r k (i + 1) (by simpa using h) (fun j hj => by simpa using h1 (j + 1) (by omega)) (by simpa using h2)
    simp only [idxF, h0, Bool.false_eq_true, if_false, this]
    push_cast
    omega
theorem idxF_miss (p : Int → Bool) : ∀ (l : List Int) (i : Int), (∀ j, j < l.length → p (l.getD j 0) = false) → idxF p l i = -1
  | [], i, _ => rfl
  | x :: r, i, h => by
    have h0 : p x = false := by simpa using h 0 (by simp)
    have := idxF_miss p r (i + 1) (fun j hj => by simpa using h (j + 1) (by simpa using hj))
    simp [idxF, h0, this]
theorem idxF_nonneg (p : Int → Bool) : ∀ (l : List Int) (i : Int), 0 ≤ i → decide (0 ≤ idxF p l i) = l.any p
  | [], i, _ => by simp [idxF]
  | x :: r, i, hi => by
    cases hx : p x with
    | true => simp [idxF, hx, hi]
    | false => simp only [idxF, hx, Bool.false_eq_true, if_false, List.any_cons, Bool.false_or]; exact idxF_nonneg p r (i + 1) (by omega)
set_option maxHeartbeats 2000000 in
theorem slices_IndexFunc.callsP (A : Option Addr) (c : Nat) (l : List Int) (g : Nat) (lb : Array Value) (p : Int → Bool) (w : World)
    (eg : ∀ args w, (callFunc g args).run Try.prog w = .ok (.enter g args) w)
    (hp0 : PredB g lb p w) (hr : Kd.C (Kd.int .i64) w A l.length l) (hc : l.length ≤ c) :
    Calls Try.prog 64 #[.slice A l.length c, .func (.func g) #[] lb] w fun e w' => e = .returned (.int .i64 (idxF p l 0)) ∧ ∃ q, w' = w.drewN q := by
  have hbig : l.length ≤ 9223372036854775807 := hr.2.1
  have HR := Aside0.mk hr
  clear hr hc
  have hpAt : ∀ (x : Int) (q : Nat), Calls Try.prog g (#[.int .i64 x] ++ lb) (w.drewN q) fun e w' => e = .returned (.bool (p x)) ∧ ∃ q', w' = (w.drewN q).drewN q' := fun x q => hp0 _ x (drew_below w q)
  clear hp0
  go_enter Try.func64, Try.ntmps64
  go_wp2
  go_loopg [5, 8] l.length (fun gg _ s8 wr => ∃ kk q : Nat, kk ≤ l.length ∧ l.length - kk ≤ gg ∧ s8 = .int .i64 kk ∧ wr = w.drewN q ∧ Aside0 (∀ j, j < kk → p (l.getD j 0) = false))
  case atStart => exact ⟨0, 0, Nat.zero_le _, by omega, rfl, rfl, ⟨fun j hj => absurd hj (Nat.not_lt_zero _)⟩⟩
  case round =>
    obtain ⟨kk, q, hkk, hg, rfl, rfl, AA⟩ := hrel
    by_cases hlt : kk < l.length
    · have hltz : (kk : Int) < (l.length : Int) := by omega
      obtain ⟨ad, rfl, hx⟩ := Kd.at_int HR.out (kk : Int) (by omega) hltz
      rw [Int.toNat_natCast] at hx
      obtain ⟨y, hy⟩ : ∃ y, y = rd l (kk : Int) := ⟨_, rfl⟩
      rw [← hy] at hx
      have B : Aside0 (l.getD kk 0 = y) := ⟨by rw [hy, rd, Int.toNat_natCast]⟩
      clear hy
      have hcall := hpAt y
      cases hq : p y with
      | true =>
        rw [hq] at hcall
        go_wp2_with (go_at_fn g; refine (hcall _).mono ?_; rintro e w' ⟨rfl, q', rfl⟩)
        go_ret
        refine ⟨?_, _, rfl⟩
        rw [idxF_hit p l kk 0 hlt AA.out (by rw [B.out]; exact hq)]
        simp
      | false =>
        rw [hq] at hcall
        go_wp2_with (go_at_fn g; refine (hcall _).mono ?_; rintro e w' ⟨rfl, q', rfl⟩)
        go_roundg (l.length - (kk + 1))
        case measure => omega
        case rel =>
          refine ⟨kk + 1, _, by omega, by omega, by go_num, rfl, ⟨fun j hj => ?_⟩⟩
          by_cases e : j = kk
          · subst e
            rw [B.out]; exact hq
          · exact AA.out j (by omega)
    · have hltz : ¬ (kk : Int) < (l.length : Int) := by omega
      obtain rfl : kk = l.length := by omega
      go_wp2
      go_ret
      refine ⟨?_, q, rfl⟩
      rw [idxF_miss p l 0 AA.out]; rfl
set_option maxHeartbeats 1000000 in
theorem slices_ContainsFunc.callsP (A : Option Addr) (c : Nat) (l : List Int) (g : Nat) (lb : Array Value) (p : Int → Bool) (w : World)
    (eg : ∀ args w, (callFunc g args).run Try.prog w = .ok (.enter g args) w)
    (hp0 : PredB g lb p w) (hr : Kd.C (Kd.int .i64) w A l.length l) (hc : l.length ≤ c) :
    Calls Try.prog 71 #[.slice A l.length c, .func (.func g) #[] lb] w fun e w' => e = .returned (.bool (l.any p)) ∧ ∃ q, w' = w.drewN q := by
  rw [← idxF_nonneg p l 0 (by omega)]
  have HR := Aside0.mk hr
  have HP := Aside0.mk hp0
  clear hr hp0
  go_enter Try.func71, Try.ntmps71
  go_wp2_with (go_at_call 64; refine (slices_IndexFunc.callsP _ _ l g lb p _ eg HP.out HR.out hc).mono ?_; rintro e w' ⟨rfl, q, rfl⟩)
  go_ret
  exact ⟨rfl, q, rfl⟩
def outP (a1 a2 x : Int) : Bool := !(decide (a1 ≤ x) && decide (x ≤ a2))
def impl_areBetween.f (l0 : List Int) (a1 : Int) (a2 : Int) : Option (Bool) := some (l0.all fun x => decide (a1 ≤ x) && decide (x ≤ a2))
set_option maxHeartbeats 2000000 in
theorem areBetween_pred (g1 g2 : Nat) (a1 a2 : Int) (w : World) (h1 : w.cell? ⟨g1, 0, none⟩ = some (.int .i64 a1)) (h2 : w.cell? ⟨g2, 0, none⟩ = some (.int .i64 a2)) :
    PredB 72 #[.pointer (some ⟨g1, 0, none⟩), .pointer (some ⟨g2, 0, none⟩)] (outP a1 a2) w := by
  intro W x hb
  have k1 := pw_cell_below hb h1
  have k2 := pw_cell_below hb h2
  clear h1 h2 hb
  simp only [List.append_toArray, List.cons_append, List.nil_append]
  by_cases c1 : a1 ≤ x
  · have d1 : decide (a1 ≤ x) = true := decide_eq_true c1
    by_cases c2 : x ≤ a2
    · have d2 : decide (x ≤ a2) = true := decide_eq_true c2
      go_enter Try.func72, Try.ntmps72
      go_wp2
      go_ret
      exact ⟨by simp [outP, d1, d2], 0, rfl⟩
    · have d2 : decide (x ≤ a2) = false := decide_eq_false c2
      go_enter Try.func72, Try.ntmps72
      go_wp2
      go_ret
      exact ⟨by simp [outP, d1, d2], 0, rfl⟩
  · have d1 : decide (a1 ≤ x) = false := decide_eq_false c1
    go_enter Try.func72, Try.ntmps72
    go_wp2
    go_ret
    exact ⟨by simp [outP, d1], 0, rfl⟩
theorem any_not (l : List Int) (p : Int → Bool) : (!l.any fun x => !p x) = l.all p := by
  induction l with
  | nil => rfl
  | cons x r ih => simp only [List.any_cons, List.all_cons, Bool.not_or, Bool.not_not, ih]
set_option maxHeartbeats 2000000 in
theorem impl_areBetween.calls (A0 : Option Addr) (c0 : Nat) (l0 : List Int) (a1 : Int) (a2 : Int) (r : Bool) (w : World) (hr0 : Kd.C (Kd.int .i64) w A0 l0.length l0) (hc0 : l0.length ≤ c0) (h : impl_areBetween.f l0 a1 a2 = some r) :
    Calls Try.prog 54 #[.slice A0 l0.length c0, .int .i64 a1, .int .i64 a2] w fun e w' => e = .returned (.bool r) ∧ Below w.heap.size w w' := by
  have e1 : r = !l0.any (outP a1 a2) := by
    have := (Option.some.inj h).symm
    rw [this, ← any_not]; rfl
  subst e1
  have HR := Aside0.mk hr0
  clear hr0 h
  go_enter Try.func54, Try.ntmps54
  go_wp2_with (go_at_call 71; refine (slices_ContainsFunc.callsP _ _ l0 _ _ _ _ (enters_of Try.func72 (by kernel_rfl) rfl) (areBetween_pred _ _ a1 a2 _ ?hc1 ?hc2) (Kd.C_alloc (Kd.C_alloc HR.out _) _) hc0).mono ?_; (case hc1 => simp [go_sem]); (case hc2 => simp [go_sem]); rintro e w' ⟨rfl, q, rfl⟩)
  go_ret
  exact ⟨rfl, pw_below_drewN (below_alloc (below_alloc (Below.refl _ _) _) _) q⟩
end Go.Proofs.Ytjhpnihlmnlehaa.G
namespace Go.Proofs.Ytjhpnihlmnlehaa.G
open Go.RowKit Go.Proofs.YtjhpnihlmnlehaaW.PrintWords Go.Proofs.YtjhpnihlmnlehaaW.PrintLast Go.Proofs.YtjhpnihlmnlehaaW.PrintMore
attribute [local go_sem] max2_int min2_int max_two min_two max_three min_three max_four min_four   -- for this text's walks alone
/-! ### impl_isTable: function 25 -/
mutual
def impl_isTable.j0 : Nat → Bool → List Int → Option (Bool)
 | 0, _, _ => none
 | k + 1, x22, x275000 => if x22 = true then (some false) else (impl_isTable.l0 k x275000 (x275000.length : Int) 0 x275000)
def impl_isTable.l0 : Nat → List Int → Int → Int → List Int → Option (Bool)
 | 0, _, _, _, _ => none
 | k + 1, x24, x25, x26, x275000 => if x26 < x25 then (if 0 ≤ x26 then (if x26 < (x24.length : Int) then (if (rd x24 x26) < 0 then (impl_isTable.l0 k x24 x25 (wrap64 (x26 + 1)) x275000) else (if x26 ≤ (x275000.length : Int) then ((slices_Contains_int_int.f k (x275000.take (x26 : Int).toNat) (rd x24 x26)).bind fun t280 => (if t280 = true then (some false) else ((impl_Table_cost.f x275000 x26).bind fun t281 => (impl_isTable.l1 k (rd x24 x26) x24 x25 x26 t281 0 x275000)))) else (none))) else (none)) else (none)) else (some true)
def impl_isTable.l1 : Nat → Int → List Int → Int → Int → Int → Int → List Int → Option (Bool)
 | 0, _, _, _, _, _, _, _ => none
 | k + 1, x4, x24, x25, x26, x41, x42, x275000 => if x42 < x41 then (if (x275000.length : Int) = 0 then (none) else (if 0 ≤ (Int.tmod (wrap64 (x4 + x42)) (x275000.length : Int)) then (if (Int.tmod (wrap64 (x4 + x42)) (x275000.length : Int)) < (x275000.length : Int) then (if (rd x275000 (Int.tmod (wrap64 (x4 + x42)) (x275000.length : Int))) < 0 then (some false) else (impl_isTable.l1 k x4 x24 x25 x26 x41 (wrap64 (x42 + 1)) x275000)) else (none)) else (none))) else (impl_isTable.l0 k x24 x25 (wrap64 (x26 + 1)) x275000)
end
def impl_isTable.f (k : Nat) (l0_0 : List Int) : Option (Bool) := (impl_isSize.f (l0_0.length : Int)).bind fun t275 => (if t275 = true then ((impl_areBetween.f l0_0 (-1) 999).bind fun t276 => (if t276 = true then ((slices_Contains_int_int.f k l0_0 (-1)).bind fun t277 => (impl_isTable.j0 k (!t277) l0_0)) else (impl_isTable.j0 k true l0_0))) else (impl_isTable.j0 k true l0_0))
theorem impl_isTable.mono_l : ∀ k, (∀ y0 y1, LeO (impl_isTable.j0 k y0 y1) (impl_isTable.j0 (k + 1) y0 y1)) ∧ (∀ y0 y1 y2 y3, LeO (impl_isTable.l0 k y0 y1 y2 y3) (impl_isTable.l0 (k + 1) y0 y1 y2 y3)) ∧ (∀ y0 y1 y2 y3 y4 y5 y6, LeO (impl_isTable.l1 k y0 y1 y2 y3 y4 y5 y6) (impl_isTable.l1 (k + 1) y0 y1 y2 y3 y4 y5 y6))
 | 0 => ⟨fun _ _ r h => by simp [impl_isTable.j0] at h, fun _ _ _ _ r h => by simp [impl_isTable.l0] at h, fun _ _ _ _ _ _ _ r h => by simp [impl_isTable.l1] at h⟩
 | k + 1 => by
  obtain ⟨ih0, ih1, ih2⟩ := impl_isTable.mono_l k
  refine ⟨?_, ?_, ?_⟩
  ·intro y0 y1
   unfold impl_isTable.j0
   repeat' first
   | (with_reducible exact ih0 _ _)
   | (with_reducible exact ih1 _ _ _ _)
   | (with_reducible exact ih2 _ _ _ _ _ _ _)
   | (with_reducible exact slices_Contains_int_int.mono _ _ _)
   | (with_reducible exact LeO.refl _)
   | (with_reducible exact LeO.none _)
   | (with_reducible refine LeO.ite ?_ ?_)
   | (with_reducible refine LeO.bind ?_ (fun _ => ?_))
   | exact ih0 _ _
   | exact ih1 _ _ _ _
   | exact ih2 _ _ _ _ _ _ _
   | exact slices_Contains_int_int.mono _ _ _
   | exact LeO.none _
   | refine LeO.ite ?_ ?_
   | refine LeO.bind ?_ (fun _ => ?_)
  ·intro y0 y1 y2 y3
   unfold impl_isTable.l0
   repeat' first
   | (with_reducible exact ih0 _ _)
   | (with_reducible exact ih1 _ _ _ _)
   | (with_reducible exact ih2 _ _ _ _ _ _ _)
   | (with_reducible exact slices_Contains_int_int.mono _ _ _)
   | (with_reducible exact LeO.refl _)
   | (with_reducible exact LeO.none _)
   | (with_reducible refine LeO.ite ?_ ?_)
   | (with_reducible refine LeO.bind ?_ (fun _ => ?_))
   | exact ih0 _ _
   | exact ih1 _ _ _ _
   | exact ih2 _ _ _ _ _ _ _
   | exact slices_Contains_int_int.mono _ _ _
   | exact LeO.none _
   | refine LeO.ite ?_ ?_
   | refine LeO.bind ?_ (fun _ => ?_)
  ·intro y0 y1 y2 y3 y4 y5 y6
   unfold impl_isTable.l1
   repeat' first
   | (with_reducible exact ih0 _ _)
   | (with_reducible exact ih1 _ _ _ _)
   | (with_reducible exact ih2 _ _ _ _ _ _ _)
   | (with_reducible exact slices_Contains_int_int.mono _ _ _)
   | (with_reducible exact LeO.refl _)
   | (with_reducible exact LeO.none _)
   | (with_reducible refine LeO.ite ?_ ?_)
   | (with_reducible refine LeO.bind ?_ (fun _ => ?_))
   | exact ih0 _ _
   | exact ih1 _ _ _ _
   | exact ih2 _ _ _ _ _ _ _
   | exact slices_Contains_int_int.mono _ _ _
   | exact LeO.none _
   | refine LeO.ite ?_ ?_
   | refine LeO.bind ?_ (fun _ => ?_)
theorem impl_isTable.mono : ∀ a0 k, LeO (impl_isTable.f k a0) (impl_isTable.f (k + 1) a0) := by
 intro a0 k
 obtain ⟨ih0, ih1, ih2⟩ := impl_isTable.mono_l k
 unfold impl_isTable.f
 repeat' first
   | (with_reducible exact ih0 _ _)
   | (with_reducible exact ih1 _ _ _ _)
   | (with_reducible exact ih2 _ _ _ _ _ _ _)
   | (with_reducible exact slices_Contains_int_int.mono _ _ _)
   | (with_reducible exact LeO.refl _)
   | (with_reducible exact LeO.none _)
   | (with_reducible refine LeO.ite ?_ ?_)
   | (with_reducible refine LeO.bind ?_ (fun _ => ?_))
   | exact ih0 _ _
   | exact ih1 _ _ _ _
   | exact ih2 _ _ _ _ _ _ _
   | exact slices_Contains_int_int.mono _ _ _
   | exact LeO.none _
   | refine LeO.ite ?_ ?_
   | refine LeO.bind ?_ (fun _ => ?_)
set_option maxHeartbeats 8000000 in
set_option maxRecDepth 100000 in
theorem impl_isTable.calls (k : Nat) (A0_0 : Option Addr) (c0_0 : Nat) (l0_0 : List Int) (r : Bool) (w : World) (hr0_0 : Kd.C (Kd.int .i64) w A0_0 l0_0.length l0_0) (hc0_0 : l0_0.length ≤ c0_0) (h : impl_isTable.f k l0_0 = some r) :
  Calls Try.prog 25 #[.agg #[.slice A0_0 l0_0.length c0_0]] w fun e w' => e = .returned (.bool r) ∧ Below w.heap.size w w' := by
 have hu26 := Try.underlying26
 have HR0_0 := aS_ hr0_0
 have HC0_0 := aS_ hc0_0
 clear hr0_0 hc0_0
 have HB := aS_ (Below.refl w.heap.size w)
 have H : ((impl_isSize.f (l0_0.length : Int)).bind fun t275 => (if t275 = true then ((impl_areBetween.f l0_0 (-1) 999).bind fun t276 => (if t276 = true then ((slices_Contains_int_int.f k l0_0 (-1)).bind fun t277 => (impl_isTable.j0 k (!t277) l0_0)) else (impl_isTable.j0 k true l0_0))) else (impl_isTable.j0 k true l0_0))) = some r := h
 clear h
 have HC2 := aS_ H
 clear H
 go_enter Try.func25, Try.ntmps25
 go_upto_region 1 with (first | ((with_reducible refine gate_dst (N := 1) rfl ?_); refine box_event ?hg (N := 1) ?hd (cs := #[.slice A0_0 l0_0.length c0_0]) (t := 26) ?hr ?_; (case hd => rfl); (case hg => rfl); (case hr => first | (go_simp; done) | (go_simp; rfl)); intro gb274 hg w3 hbox hb; have BK274 := aS_ (hbox); have GW274 := gE_ HB hg; have GE274 := gE_ HB hg; replace HB := bE_ HB hb; clear hb hbox hg))
 repeat (go_quiet (first | ((with_reducible refine gate_dst (N := 1) rfl ?_); refine box_event ?hg (N := 1) ?hd (cs := #[.slice A0_0 l0_0.length c0_0]) (t := 26) ?hr ?_; (case hd => rfl); (case hg => rfl); (case hr => first | (go_simp; done) | (go_simp; rfl)); intro gb274 hg w3 hbox hb; have BK274 := aS_ (hbox); have GW274 := gE_ HB hg; have GE274 := gE_ HB hg; replace HB := bE_ HB hb; clear hb hbox hg)); go_upto_region 1 with (first | ((with_reducible refine gate_dst (N := 1) rfl ?_); refine box_event ?hg (N := 1) ?hd (cs := #[.slice A0_0 l0_0.length c0_0]) (t := 26) ?hr ?_; (case hd => rfl); (case hg => rfl); (case hr => first | (go_simp; done) | (go_simp; rfl)); intro gb274 hg w3 hbox hb; have BK274 := aS_ (hbox); have GW274 := gE_ HB hg; have GE274 := gE_ HB hg; replace HB := bE_ HB hb; clear hb hbox hg)))
 (try simp only [Act.put, List.setIfInBounds_toArray, List.set_cons_zero, List.set_cons_succ])
 go_cut [22] (fun v22 wc => ∃ (kq : Nat) (x22_1 : Bool), v22 = .bool x22_1 ∧ Aside0 (impl_isTable.j0 kq x22_1 l0_0 = some r) ∧ Aside0 (kq ≤ k) ∧ Aside0 (wc.heap[gb274]? = some (.cells #[(.slice A0_0 l0_0.length c0_0)] 26 (0, 0))) ∧ Aside0 (Below w.heap.size w wc))
 case first =>
  have H := HC2.out
  clear HC2
  replace H := Option.bind_eq_some_iff.mp H
  obtain ⟨t275, A40, H⟩ := H
  have A4 := aS_ A40
  clear A40
  by_cases c5 : t275 = true
  ·subst c5
   rw [if_pos rfl] at H
   replace H := Option.bind_eq_some_iff.mp H
   obtain ⟨t276, A60, H⟩ := H
   have A6 := aS_ A60
   clear A60
   by_cases c7 : t276 = true
   ·subst c7
    rw [if_pos rfl] at H
    replace H := Option.bind_eq_some_iff.mp H
    obtain ⟨t277, A80, H⟩ := H
    have A8 := aS_ A80
    clear A80
    have H' := aS_ H
    clear H
    have hcz9_0 : w3.cell? ⟨gb274, 0, none⟩ = some (.slice A0_0 l0_0.length c0_0) := (blk_cell BK274.out 0).trans rfl
    have hfz9_0 := blk_frozen BK274.out 0
    go_wp2_with (first | (go_at_call 53; (with_reducible refine (impl_isSize.calls (l0_0.length : Int) true _ A4.out).mono ?_); rintro e w' ⟨rfl, ⟨nd, rfl⟩⟩; (try exact dR_)) | (go_at_call 54; (with_reducible refine (impl_areBetween.calls _ _ l0_0 (-1) 999 true _ ?side1 ?side2 A6.out).mono ?_); (case side1 => exact cD_ HR0_0 HB); (case side2 => exact HC0_0.out); rintro e w10 ⟨rfl, hb⟩; replace BK274 := kO_ BK274 hb; replace HB := bE_ HB hb; (try clear hb); have hcz11_0 : w10.cell? ⟨gb274, 0, none⟩ = some (.slice A0_0 l0_0.length c0_0) := (blk_cell BK274.out 0).trans rfl; have hfz11_0 := blk_frozen BK274.out 0) | (go_at_call 27; (with_reducible refine (slices_Contains_int_int.calls k _ _ l0_0 (-1) t277 _ ?side1 ?side2 A8.out).mono ?_); (case side1 => exact cB_ HR0_0 HB); (case side2 => exact HC0_0.out); rintro e w' ⟨rfl, ⟨nd, rfl⟩⟩; (try exact dR_)))
    repeat (go_quiet (first | (go_at_call 53; (with_reducible refine (impl_isSize.calls (l0_0.length : Int) true _ A4.out).mono ?_); rintro e w' ⟨rfl, ⟨nd, rfl⟩⟩; (try exact dR_)) | (go_at_call 54; (with_reducible refine (impl_areBetween.calls _ _ l0_0 (-1) 999 true _ ?side1 ?side2 A6.out).mono ?_); (case side1 => exact cD_ HR0_0 HB); (case side2 => exact HC0_0.out); rintro e w10 ⟨rfl, hb⟩; replace BK274 := kO_ BK274 hb; replace HB := bE_ HB hb; (try clear hb); have hcz11_0 : w10.cell? ⟨gb274, 0, none⟩ = some (.slice A0_0 l0_0.length c0_0) := (blk_cell BK274.out 0).trans rfl; have hfz11_0 := blk_frozen BK274.out 0) | (go_at_call 27; (with_reducible refine (slices_Contains_int_int.calls k _ _ l0_0 (-1) t277 _ ?side1 ?side2 A8.out).mono ?_); (case side1 => exact cB_ HR0_0 HB); (case side2 => exact HC0_0.out); rintro e w' ⟨rfl, ⟨nd, rfl⟩⟩; (try exact dR_))); try go_wp2_with (first | (go_at_call 53; (with_reducible refine (impl_isSize.calls (l0_0.length : Int) true _ A4.out).mono ?_); rintro e w' ⟨rfl, ⟨nd, rfl⟩⟩; (try exact dR_)) | (go_at_call 54; (with_reducible refine (impl_areBetween.calls _ _ l0_0 (-1) 999 true _ ?side1 ?side2 A6.out).mono ?_); (case side1 => exact cD_ HR0_0 HB); (case side2 => exact HC0_0.out); rintro e w10 ⟨rfl, hb⟩; replace BK274 := kO_ BK274 hb; replace HB := bE_ HB hb; (try clear hb); have hcz11_0 : w10.cell? ⟨gb274, 0, none⟩ = some (.slice A0_0 l0_0.length c0_0) := (blk_cell BK274.out 0).trans rfl; have hfz11_0 := blk_frozen BK274.out 0) | (go_at_call 27; (with_reducible refine (slices_Contains_int_int.calls k _ _ l0_0 (-1) t277 _ ?side1 ?side2 A8.out).mono ?_); (case side1 => exact cB_ HR0_0 HB); (case side2 => exact HC0_0.out); rintro e w' ⟨rfl, ⟨nd, rfl⟩⟩; (try exact dR_))))
    go_meet
    case rel => exact ⟨_, (!t277), sR_, H', ⟨by first | omega | exact Nat.le_refl _⟩, ⟨kk_ BK274⟩, ⟨bb_ HB⟩⟩
   ·replace c7 := Bool.eq_false_iff.mpr c7
    subst c7
    rw [if_neg (show ¬ (false = true) by decide)] at H
    have H' := aS_ H
    clear H
    have hcz12_0 : w3.cell? ⟨gb274, 0, none⟩ = some (.slice A0_0 l0_0.length c0_0) := (blk_cell BK274.out 0).trans rfl
    have hfz12_0 := blk_frozen BK274.out 0
    go_wp2_with (first | (go_at_call 53; (with_reducible refine (impl_isSize.calls (l0_0.length : Int) true _ A4.out).mono ?_); rintro e w' ⟨rfl, ⟨nd, rfl⟩⟩; (try exact dR_)) | (go_at_call 54; (with_reducible refine (impl_areBetween.calls _ _ l0_0 (-1) 999 false _ ?side1 ?side2 A6.out).mono ?_); (case side1 => exact cD_ HR0_0 HB); (case side2 => exact HC0_0.out); rintro e w13 ⟨rfl, hb⟩; replace BK274 := kO_ BK274 hb; replace HB := bE_ HB hb; (try clear hb)))
    repeat (go_quiet (first | (go_at_call 53; (with_reducible refine (impl_isSize.calls (l0_0.length : Int) true _ A4.out).mono ?_); rintro e w' ⟨rfl, ⟨nd, rfl⟩⟩; (try exact dR_)) | (go_at_call 54; (with_reducible refine (impl_areBetween.calls _ _ l0_0 (-1) 999 false _ ?side1 ?side2 A6.out).mono ?_); (case side1 => exact cD_ HR0_0 HB); (case side2 => exact HC0_0.out); rintro e w13 ⟨rfl, hb⟩; replace BK274 := kO_ BK274 hb; replace HB := bE_ HB hb; (try clear hb))); try go_wp2_with (first | (go_at_call 53; (with_reducible refine (impl_isSize.calls (l0_0.length : Int) true _ A4.out).mono ?_); rintro e w' ⟨rfl, ⟨nd, rfl⟩⟩; (try exact dR_)) | (go_at_call 54; (with_reducible refine (impl_areBetween.calls _ _ l0_0 (-1) 999 false _ ?side1 ?side2 A6.out).mono ?_); (case side1 => exact cD_ HR0_0 HB); (case side2 => exact HC0_0.out); rintro e w13 ⟨rfl, hb⟩; replace BK274 := kO_ BK274 hb; replace HB := bE_ HB hb; (try clear hb))))
    go_meet
    case rel => exact ⟨_, (true), sR_, H', ⟨by first | omega | exact Nat.le_refl _⟩, ⟨kk_ BK274⟩, ⟨bb_ HB⟩⟩
  ·replace c5 := Bool.eq_false_iff.mpr c5
   subst c5
   rw [if_neg (show ¬ (false = true) by decide)] at H
   have H' := aS_ H
   clear H
   have hcz14_0 : w3.cell? ⟨gb274, 0, none⟩ = some (.slice A0_0 l0_0.length c0_0) := (blk_cell BK274.out 0).trans rfl
   have hfz14_0 := blk_frozen BK274.out 0
   go_wp2_with (first | (go_at_call 53; (with_reducible refine (impl_isSize.calls (l0_0.length : Int) false _ A4.out).mono ?_); rintro e w' ⟨rfl, ⟨nd, rfl⟩⟩; (try exact dR_)))
   repeat (go_quiet (first | (go_at_call 53; (with_reducible refine (impl_isSize.calls (l0_0.length : Int) false _ A4.out).mono ?_); rintro e w' ⟨rfl, ⟨nd, rfl⟩⟩; (try exact dR_))); try go_wp2_with (first | (go_at_call 53; (with_reducible refine (impl_isSize.calls (l0_0.length : Int) false _ A4.out).mono ?_); rintro e w' ⟨rfl, ⟨nd, rfl⟩⟩; (try exact dR_))))
   go_meet
   case rel => exact ⟨_, (true), sR_, H', ⟨by first | omega | exact Nat.le_refl _⟩, ⟨kk_ BK274⟩, ⟨bb_ HB⟩⟩
 case rest =>
  clear HC2
  try clear c2
  try clear p2
  try clear c5
  try clear c7
  try clear hcz11_0
  try clear hcz12_0
  try clear hcz14_0
  try clear hcz9_0
  try clear hfz11_0
  try clear hfz12_0
  try clear hfz14_0
  try clear hfz9_0
  obtain ⟨kq, x22_1, rfl, HA, HJ1, BK274, HB⟩ := hcut
  cases kq with
  | zero => exact absurd HA.out (by simp [impl_isTable.j0])
  | succ kj1 =>
   have H := HA.out
   clear HA
   simp only [impl_isTable.j0] at H
   by_cases c15 : x22_1 = true
   ·subst c15
    rw [if_pos rfl] at H
    obtain rfl := Option.some.inj H
    go_wp2
    repeat (go_quiet (fail); try go_wp2)
    go_ret
    exact ⟨eR_, bb_ HB⟩
   ·replace c15 := Bool.eq_false_iff.mpr c15
    subst c15
    rw [if_neg (show ¬ (false = true) by decide)] at H
    have H' := aS_ H
    clear H
    have hcz16_0 : wc.cell? ⟨gb274, 0, none⟩ = some (.slice A0_0 l0_0.length c0_0) := (blk_cell BK274.out 0).trans rfl
    have hfz16_0 := blk_frozen BK274.out 0
    go_wp2
    repeat (go_quiet (fail); try go_wp2)
    go_loopg [26] kj1 (fun kq v26 w' => ∃ (x26_2 : Int), v26 = .int .i64 x26_2 ∧ Aside0 (impl_isTable.l0 kq l0_0 (l0_0.length : Int) x26_2 l0_0 = some r) ∧ Aside0 (kq ≤ kj1) ∧ Aside0 (w'.heap[gb274]? = some (.cells #[(.slice A0_0 l0_0.length c0_0)] 26 (0, 0))) ∧ Aside0 (Below w.heap.size w w'))
    case atStart => exact ⟨(0), sR_, H', ⟨Nat.le_refl _⟩, ⟨kk_ BK274⟩, ⟨bb_ HB⟩⟩
    case round =>
     clear H'
     try clear c1
     try clear c2
     try clear p2
     try clear c5
     try clear c7
     try clear c15
     try clear hcz11_0
     try clear hcz12_0
     try clear hcz14_0
     try clear hcz16_0
     try clear hcz9_0
     try clear hfz11_0
     try clear hfz12_0
     try clear hfz14_0
     try clear hfz16_0
     try clear hfz9_0
     try clear p2
     obtain ⟨x26_2, rfl, HA, HK2, BK274, HB⟩ := hrel
     cases gk with
     | zero => exact absurd HA.out (by simp [impl_isTable.l0])
     | succ k2 =>
      have H := HA.out
      clear HA
      simp only [impl_isTable.l0] at H
      by_cases c17 : x26_2 < (l0_0.length : Int)
      ·rw [if_pos c17] at H
       have c17b0 : decide (x26_2 < (l0_0.length : Int)) = true := decide_eq_true c17
       clear c17
       by_cases c18 : 0 ≤ x26_2
       ·rw [if_pos c18] at H
        have c18b0 : decide (0 ≤ x26_2) = true := decide_eq_true c18
        clear c18
        by_cases c19 : x26_2 < (l0_0.length : Int)
        ·rw [if_pos c19] at H
         have c19b0 : decide (x26_2 < (l0_0.length : Int)) = true := decide_eq_true c19
         clear c19
         by_cases c20 : (rd l0_0 x26_2) < 0
         ·rw [if_pos c20] at H
          have c20b0 : decide ((rd l0_0 x26_2) < 0) = true := decide_eq_true c20
          clear c20
          have H' := aS_ H
          clear H
          have p278 : 0 ≤ (x26_2 : Int) := of_decide_eq_true (by assumption)
          have q278 : x26_2 < (l0_0.length : Int) := of_decide_eq_true (by assumption)
          obtain ⟨ad278, e278, hx278_0⟩ := Kd.at_int HR0_0.out x26_2 p278 q278
          cases e278
          replace hx278_0 := (HB.out.cell (World.block_lt_of_cell? w _ hx278_0)).trans hx278_0
          replace p278 := eq_true p278
          replace q278 := eq_true q278
          go_wp2
          repeat (go_quiet (fail); try go_wp2)
          go_roundg k2
          case measure => have := HJ1.out; have := HK2.out; omega
          case rel => exact ⟨(wrap64 (x26_2 + 1)), sR_, H', ⟨by have := HJ1.out; have := HK2.out; omega⟩, ⟨kk_ BK274⟩, ⟨bb_ HB⟩⟩
         ·rw [if_neg c20] at H
          have c20b0 : decide ((rd l0_0 x26_2) < 0) = false := decide_eq_false c20
          clear c20
          have c21b0 := eq_true (of_decide_eq_true (by assumption) : 0 ≤ x26_2)
          by_cases c22 : x26_2 ≤ (l0_0.length : Int)
          ·rw [if_pos c22] at H
           have c22b0 := eq_true c22
           have c22b1 : decide (x26_2 ≤ (l0_0.length : Int)) = true := decide_eq_true c22
           clear c22
           replace H := Option.bind_eq_some_iff.mp H
           obtain ⟨t280, A230, H⟩ := H
           have A23 := aS_ A230
           clear A230
           by_cases c24 : t280 = true
           ·subst c24
            rw [if_pos rfl] at H
            obtain rfl := Option.some.inj H
            have p278 : 0 ≤ (x26_2 : Int) := of_decide_eq_true (by assumption)
            have q278 : x26_2 < (l0_0.length : Int) := of_decide_eq_true (by assumption)
            obtain ⟨ad278, e278, hx278_0⟩ := Kd.at_int HR0_0.out x26_2 p278 q278
            cases e278
            replace hx278_0 := (HB.out.cell (World.block_lt_of_cell? w _ hx278_0)).trans hx278_0
            replace p278 := eq_true p278
            replace q278 := eq_true q278
            have hcz25_0 : wr.cell? ⟨gb274, 0, none⟩ = some (.slice (some ad278) l0_0.length c0_0) := (blk_cell BK274.out 0).trans rfl
            have hfz25_0 := blk_frozen BK274.out 0
            obtain ⟨i026, hi026, _, hsz26, _⟩ := info_parts info3
            obtain ⟨hcut26, hA26, hC26⟩ := print_take_of (P := Try.prog) (Value.int .i64) 0 24 3 .i64 Try.underlying24 hi026 hsz26 (some ad278) c0_0 l0_0 x26_2 (of_decide_eq_true (by assumption)) (of_decide_eq_true (by assumption)) HC0_0.out
            have HR279 := aS_ (Kd.C_of_reads (h1 := fun _ => rfl) (hA26 _ (Kd.reads_of_C HR0_0.out)))
            have HC279 := aS_ hC26
            clear hA26 hC26 hi026 hsz26
            go_wp2_with (first | (go_at_call 27; (refine' calls_args ?ha_ ((slices_Contains_int_int.calls k2 _ _ (l0_0.take (x26_2 : Int).toNat) (rd l0_0 x26_2) true _ ?side1 ?side2 A23.out).mono ?_)); (case ha_ => first | rfl | (rw [List.length_take, Nat.min_eq_left (by have q_ : x26_2 ≤ (l0_0.length : Int) := of_decide_eq_true (by assumption); omega)]) | (rw [List.length_take, Nat.min_eq_left (by omega)])); (case side1 => exact cB_ HR279 HB); (case side2 => exact HC279.out); rintro e w' ⟨rfl, ⟨nd, rfl⟩⟩; (try exact dR_)))
            repeat (go_quiet (first | (go_at_call 27; (refine' calls_args ?ha_ ((slices_Contains_int_int.calls k2 _ _ (l0_0.take (x26_2 : Int).toNat) (rd l0_0 x26_2) true _ ?side1 ?side2 A23.out).mono ?_)); (case ha_ => first | rfl | (rw [List.length_take, Nat.min_eq_left (by have q_ : x26_2 ≤ (l0_0.length : Int) := of_decide_eq_true (by assumption); omega)]) | (rw [List.length_take, Nat.min_eq_left (by omega)])); (case side1 => exact cB_ HR279 HB); (case side2 => exact HC279.out); rintro e w' ⟨rfl, ⟨nd, rfl⟩⟩; (try exact dR_))); try go_wp2_with (first | (go_at_call 27; (refine' calls_args ?ha_ ((slices_Contains_int_int.calls k2 _ _ (l0_0.take (x26_2 : Int).toNat) (rd l0_0 x26_2) true _ ?side1 ?side2 A23.out).mono ?_)); (case ha_ => first | rfl | (rw [List.length_take, Nat.min_eq_left (by have q_ : x26_2 ≤ (l0_0.length : Int) := of_decide_eq_true (by assumption); omega)]) | (rw [List.length_take, Nat.min_eq_left (by omega)])); (case side1 => exact cB_ HR279 HB); (case side2 => exact HC279.out); rintro e w' ⟨rfl, ⟨nd, rfl⟩⟩; (try exact dR_))))
            go_ret
            exact ⟨eR_, bb_ HB⟩
           ·replace c24 := Bool.eq_false_iff.mpr c24
            subst c24
            rw [if_neg (show ¬ (false = true) by decide)] at H
            replace H := Option.bind_eq_some_iff.mp H
            obtain ⟨t281, A270, H⟩ := H
            have A27 := aS_ A270
            clear A270
            have H' := aS_ H
            clear H
            have p278 : 0 ≤ (x26_2 : Int) := of_decide_eq_true (by assumption)
            have q278 : x26_2 < (l0_0.length : Int) := of_decide_eq_true (by assumption)
            obtain ⟨ad278, e278, hx278_0⟩ := Kd.at_int HR0_0.out x26_2 p278 q278
            cases e278
            replace hx278_0 := (HB.out.cell (World.block_lt_of_cell? w _ hx278_0)).trans hx278_0
            replace p278 := eq_true p278
            replace q278 := eq_true q278
            have hcz28_0 : wr.cell? ⟨gb274, 0, none⟩ = some (.slice (some ad278) l0_0.length c0_0) := (blk_cell BK274.out 0).trans rfl
            have hfz28_0 := blk_frozen BK274.out 0
            obtain ⟨i029, hi029, _, hsz29, _⟩ := info_parts info3
            obtain ⟨hcut29, hA29, hC29⟩ := print_take_of (P := Try.prog) (Value.int .i64) 0 24 3 .i64 Try.underlying24 hi029 hsz29 (some ad278) c0_0 l0_0 x26_2 (of_decide_eq_true (by assumption)) (of_decide_eq_true (by assumption)) HC0_0.out
            have HR279 := aS_ (Kd.C_of_reads (h1 := fun _ => rfl) (hA29 _ (Kd.reads_of_C HR0_0.out)))
            have HC279 := aS_ hC29
            clear hA29 hC29 hi029 hsz29
            go_wp2_with (first | (go_at_call 27; (refine' calls_args ?ha_ ((slices_Contains_int_int.calls k2 _ _ (l0_0.take (x26_2 : Int).toNat) (rd l0_0 x26_2) false _ ?side1 ?side2 A23.out).mono ?_)); (case ha_ => first | rfl | (rw [List.length_take, Nat.min_eq_left (by have q_ : x26_2 ≤ (l0_0.length : Int) := of_decide_eq_true (by assumption); omega)]) | (rw [List.length_take, Nat.min_eq_left (by omega)])); (case side1 => exact cB_ HR279 HB); (case side2 => exact HC279.out); rintro e w' ⟨rfl, ⟨nd, rfl⟩⟩; (try exact dR_)) | (go_at_call 38; (with_reducible refine (impl_Table_cost.calls _ _ l0_0 x26_2 t281 _ ?side1 ?side2 A27.out).mono ?_); (case side1 => exact cD_ HR0_0 HB); (case side2 => exact HC0_0.out); rintro e w30 ⟨rfl, hb⟩; replace BK274 := kO_ BK274 hb; replace HB := bE_ HB hb; (try clear hb)))
            repeat (go_quiet (first | (go_at_call 27; (refine' calls_args ?ha_ ((slices_Contains_int_int.calls k2 _ _ (l0_0.take (x26_2 : Int).toNat) (rd l0_0 x26_2) false _ ?side1 ?side2 A23.out).mono ?_)); (case ha_ => first | rfl | (rw [List.length_take, Nat.min_eq_left (by have q_ : x26_2 ≤ (l0_0.length : Int) := of_decide_eq_true (by assumption); omega)]) | (rw [List.length_take, Nat.min_eq_left (by omega)])); (case side1 => exact cB_ HR279 HB); (case side2 => exact HC279.out); rintro e w' ⟨rfl, ⟨nd, rfl⟩⟩; (try exact dR_)) | (go_at_call 38; (with_reducible refine (impl_Table_cost.calls _ _ l0_0 x26_2 t281 _ ?side1 ?side2 A27.out).mono ?_); (case side1 => exact cD_ HR0_0 HB); (case side2 => exact HC0_0.out); rintro e w30 ⟨rfl, hb⟩; replace BK274 := kO_ BK274 hb; replace HB := bE_ HB hb; (try clear hb))); try go_wp2_with (first | (go_at_call 27; (refine' calls_args ?ha_ ((slices_Contains_int_int.calls k2 _ _ (l0_0.take (x26_2 : Int).toNat) (rd l0_0 x26_2) false _ ?side1 ?side2 A23.out).mono ?_)); (case ha_ => first | rfl | (rw [List.length_take, Nat.min_eq_left (by have q_ : x26_2 ≤ (l0_0.length : Int) := of_decide_eq_true (by assumption); omega)]) | (rw [List.length_take, Nat.min_eq_left (by omega)])); (case side1 => exact cB_ HR279 HB); (case side2 => exact HC279.out); rintro e w' ⟨rfl, ⟨nd, rfl⟩⟩; (try exact dR_)) | (go_at_call 38; (with_reducible refine (impl_Table_cost.calls _ _ l0_0 x26_2 t281 _ ?side1 ?side2 A27.out).mono ?_); (case side1 => exact cD_ HR0_0 HB); (case side2 => exact HC0_0.out); rintro e w30 ⟨rfl, hb⟩; replace BK274 := kO_ BK274 hb; replace HB := bE_ HB hb; (try clear hb))))
            go_loopg [42] k2 (fun kq v42 w' => ∃ (x42_3 : Int), v42 = .int .i64 x42_3 ∧ Aside0 (impl_isTable.l1 kq (rd l0_0 x26_2) l0_0 (l0_0.length : Int) x26_2 t281 x42_3 l0_0 = some r) ∧ Aside0 (kq ≤ k2) ∧ Aside0 (w'.heap[gb274]? = some (.cells #[(.slice (some ad278) l0_0.length c0_0)] 26 (0, 0))) ∧ Aside0 (Below w.heap.size w w'))
            case atStart => exact ⟨(0), sR_, H', ⟨Nat.le_refl _⟩, ⟨kk_ BK274⟩, ⟨bb_ HB⟩⟩
            case round =>
             clear H'
             try clear c1
             try clear c2
             try clear p2
             try clear q2
             try clear hx2
             try clear c5
             try clear p6
             try clear c7
             try clear c15
             try clear c17
             try clear c17b0
             try clear c18
             try clear c18b0
             try clear c19
             try clear c19b0
             try clear c20
             try clear c20b0
             try clear c21
             try clear c21b0
             try clear c22
             try clear c22b0
             try clear c22b1
             try clear c24
             try clear c25
             try clear p27
             try clear q27
             try clear hx27
             try clear hcz11_0
             try clear hcz12_0
             try clear hcz14_0
             try clear hcz16_0
             try clear hcz25_0
             try clear hcz28_0
             try clear hcz9_0
             try clear hfz11_0
             try clear hfz12_0
             try clear hfz14_0
             try clear hfz16_0
             try clear hfz25_0
             try clear hfz28_0
             try clear hfz9_0
             try clear hx278_0
             try clear p2
             try clear p278
             try clear q278
             obtain ⟨x42_3, rfl, HA, HK3, BK274, HB⟩ := hrel
             cases gk with
             | zero => exact absurd HA.out (by simp [impl_isTable.l1])
             | succ k3 =>
              have H := HA.out
              clear HA
              simp only [impl_isTable.l1] at H
              by_cases c31 : x42_3 < t281
              ·rw [if_pos c31] at H
               have c31b0 : decide (x42_3 < t281) = true := decide_eq_true c31
               clear c31
               by_cases c32 : (l0_0.length : Int) = 0
               ·rw [if_pos c32] at H
                exact absurd H (by simp)
               ·rw [if_neg c32] at H
                have c32b0 : ((l0_0.length : Int) == 0) = false := beq_eq_false_iff_ne.mpr c32
                have c32b1 : ((l0_0.length : Int) != 0) = true := bne_iff_ne.mpr c32
                have c32b2 : ¬ (l0_0 = []) := fun h_ => c32 (by rw [h_]; rfl)
                obtain ⟨ji33, hji33⟩ : ∃ j_ : Int, (Int.tmod (wrap64 ((rd l0_0 x26_2) + x42_3)) (l0_0.length : Int)) = j_ := ⟨_, rfl⟩
                replace H : (if 0 ≤ (ji33) then (if (ji33) < (l0_0.length : Int) then (if (rd l0_0 (ji33)) < 0 then (some false) else (impl_isTable.l1 k3 (rd l0_0 x26_2) l0_0 (l0_0.length : Int) x26_2 t281 (wrap64 (x42_3 + 1)) l0_0)) else (none)) else (none)) = some r := by first | (rw [hji33] at H; exact H) | (simp only [hji33] at H ⊢; exact H)
                by_cases c34 : 0 ≤ (ji33)
                ·rw [if_pos c34] at H
                 have c34b0 : decide (0 ≤ (ji33)) = true := decide_eq_true c34
                 clear c34
                 by_cases c35 : (ji33) < (l0_0.length : Int)
                 ·rw [if_pos c35] at H
                  have c35b0 : decide ((ji33) < (l0_0.length : Int)) = true := decide_eq_true c35
                  clear c35
                  by_cases c36 : (rd l0_0 (ji33)) < 0
                  ·rw [if_pos c36] at H
                   have c36b0 : decide ((rd l0_0 (ji33)) < 0) = true := decide_eq_true c36
                   clear c36
                   obtain rfl := Option.some.inj H
                   have hcz37_0 : wr.cell? ⟨gb274, 0, none⟩ = some (.slice (some ad278) l0_0.length c0_0) := (blk_cell BK274.out 0).trans rfl
                   have hfz37_0 := blk_frozen BK274.out 0
                   have p282 : 0 ≤ ((ji33) : Int) := of_decide_eq_true (by assumption)
                   have q282 : (ji33) < (l0_0.length : Int) := of_decide_eq_true (by assumption)
                   obtain ⟨ad282, e282, hx282_0⟩ := Kd.at_int HR0_0.out (ji33) p282 q282
                   obtain rfl : ad278 = ad282 := (by injection e282)
                   replace hx282_0 := (HB.out.cell (World.block_lt_of_cell? w _ hx282_0)).trans hx282_0
                   replace p282 := eq_true p282
                   replace q282 := eq_true q282
                   go_wp2
                   repeat (go_quiet (fail); try go_wp2)
                   go_ret
                   exact ⟨by first | rfl | (simp [errW_none, errW_some] <;> rfl) | (simp only [← hji33]; first | rfl | (simp [errW_none, errW_some] <;> rfl)) | (simp [*, errW_none, errW_some] <;> rfl), bb_ HB⟩
                  ·rw [if_neg c36] at H
                   have c36b0 : decide ((rd l0_0 (ji33)) < 0) = false := decide_eq_false c36
                   clear c36
                   have H' := aS_ H
                   clear H
                   have hcz38_0 : wr.cell? ⟨gb274, 0, none⟩ = some (.slice (some ad278) l0_0.length c0_0) := (blk_cell BK274.out 0).trans rfl
                   have hfz38_0 := blk_frozen BK274.out 0
                   have p282 : 0 ≤ ((ji33) : Int) := of_decide_eq_true (by assumption)
                   have q282 : (ji33) < (l0_0.length : Int) := of_decide_eq_true (by assumption)
                   obtain ⟨ad282, e282, hx282_0⟩ := Kd.at_int HR0_0.out (ji33) p282 q282
                   obtain rfl : ad278 = ad282 := (by injection e282)
                   replace hx282_0 := (HB.out.cell (World.block_lt_of_cell? w _ hx282_0)).trans hx282_0
                   replace p282 := eq_true p282
                   replace q282 := eq_true q282
                   go_wp2
                   repeat (go_quiet (fail); try go_wp2)
                   go_roundg k3
                   case measure => have := HJ1.out; have := HK2.out; have := HK3.out; omega
                   case rel => exact ⟨(wrap64 (x42_3 + 1)), sR_, H', ⟨by have := HJ1.out; have := HK2.out; have := HK3.out; omega⟩, ⟨kk_ BK274⟩, ⟨bb_ HB⟩⟩
                 ·rw [if_neg c35] at H
                  exact absurd H (by simp)
                ·rw [if_neg c34] at H
                 exact absurd H (by simp)
              ·rw [if_neg c31] at H
               have c31b0 : decide (x42_3 < t281) = false := decide_eq_false c31
               clear c31
               have H' := aS_ H
               clear H
               go_wp2
               repeat (go_quiet (fail); try go_wp2)
               go_roundg k3
               case measure => have := HJ1.out; have := HK2.out; have := HK3.out; omega
               case rel => exact ⟨(wrap64 (x26_2 + 1)), sR_, H', ⟨by have := HJ1.out; have := HK2.out; have := HK3.out; omega⟩, ⟨kk_ BK274⟩, ⟨bb_ HB⟩⟩
          ·rw [if_neg c22] at H
           exact absurd H (by simp)
        ·rw [if_neg c19] at H
         exact absurd H (by simp)
       ·rw [if_neg c18] at H
        exact absurd H (by simp)
      ·rw [if_neg c17] at H
       have c17b0 : decide (x26_2 < (l0_0.length : Int)) = false := decide_eq_false c17
       clear c17
       obtain rfl := Option.some.inj H
       go_wp2
       repeat (go_quiet (fail); try go_wp2)
       go_ret
       exact ⟨eR_, bb_ HB⟩
end Go.Proofs.Ytjhpnihlmnlehaa.G
namespace Go.Proofs.Ytjhpnihlmnlehaa.G
open Go.RowKit Go.Proofs.YtjhpnihlmnlehaaW.PrintWords Go.Proofs.YtjhpnihlmnlehaaW.PrintLast Go.Proofs.YtjhpnihlmnlehaaW.PrintMore
theorem gv_info3 : (Try.prog.info? 3).map (fun i => (i.zero, i.size, i.bytes)) = some (some (.int .i64 0), 1, 8) := by kernel_rfl
def slices_Clone_int_int.f (l0 : List Int) : Option (List Int) := if l0.length ≤ 17592186044415 then some l0 else none
theorem eq_nil_run (w : World) (a : Option Addr) (n c : Nat) : (binOp .eql 24 (.slice a n c) (.slice none 0 0)).run Try.prog w = .ok (.bool a.isNone) w := Lib.run_eql_slice_nil w _ 3 a n c 0 0 Try.underlying24
theorem nums_cells {w : World} {ad : Addr} {l : List Int} (hr : Kd.C (Kd.int .i64) w (some ad) l.length l) : ∀ (j : Nat) (u : Value), (nums .i64 l)[j]? = some u → w.cell? (ad.add j) = some u := by
  intro j u hj
  simp only [nums, List.getElem?_map] at hj
  cases hx : l[j]? with
  | none => rw [hx] at hj; simp at hj
  | some x =>
    rw [hx] at hj
    simp only [Option.map_some, Option.some.injEq] at hj
    subst hj
    have hlt := (List.getElem?_eq_some_iff.1 hx).1
    obtain ⟨ad', e, hc⟩ := Kd.at_int hr (j : Int) (by omega) (by omega)
    cases e
    rw [Int.toNat_natCast] at hc
    rw [hc, rd, Int.toNat_natCast, List.getD_eq_getElem?_getD, hx]; rfl
theorem R_of_nums {e : Nat} {w : World} {base : Nat} {ok : Nat → Prop} {v : Value} {l : List Int} {n : Nat} (hn : n = l.length) (ho : w.ownsRow base e 1 v n (nums .i64 l)) (hok : ∀ k, v.ownBlock = some k → ok k) : Kd.R (Kd.int .i64) e w base ok v l := by
  subst hn
  exact Kd.R_of_own (enc := Value.int .i64) (h1 := fun _ => rfl) ho hok
set_option maxHeartbeats 2000000 in
set_option maxRecDepth 100000 in
theorem slices_Clone_int_int.calls (A0 : Option Addr) (c0 : Nat) (l0 : List Int) (r : List Int) (w : World) (hr0 : Kd.C (Kd.int .i64) w A0 l0.length l0) (hc0 : l0.length ≤ c0) (h : slices_Clone_int_int.f l0 = some r) :
    Calls Try.prog 59 #[.slice A0 l0.length c0] w fun e w' => ∃ v0_ : Value, e = .returned (v0_) ∧ Kd.R (Kd.int .i64) 3 w' w.heap.size (fun _ => True) v0_ r ∧ Below w.heap.size w w' := by
  unfold slices_Clone_int_int.f at h
  split at h
  · rename_i hlen
    obtain rfl := Option.some.inj h
    clear h
    cases A0 with
    | none =>
      have hl : l0 = [] := by
        cases l0 with
        | nil => rfl
        | cons x r => obtain ⟨ad, e, _⟩ := hr0.2.2 (by simp); cases e
      subst hl
      have q := eq_nil_run
      clear hr0
      go_enter Try.func59, Try.ntmps59
      go_wp2
      go_ret
      exact ⟨_, rfl, Kd.R_nil _ _ _ _ _, Below.refl _ _⟩
    | some ad =>
      have HN := Aside0.mk (nums_cells hr0)
      have q := eq_nil_run
      clear hr0
      obtain ⟨i0, hi, hzz⟩ := Option.map_eq_some_iff.1 gv_info3
      simp only [Prod.mk.injEq] at hzz
      obtain ⟨hz0, hz1, hz2⟩ := hzz
      go_enter Try.func59, Try.ntmps59
      go_wp2_with (at_builtin; refine wpList_append_own _ rfl _ _ 24 rfl w.heap.size 3 i0 (.int .i64 0) 1 8 Try.underlying24 hi hz0 hz1 hz2 rfl (by decide) _ _ _ rfl (World.ownsRow_made w #[] 0 (Nat.le_refl _) (Nat.zero_le _) (by simp)) ad l0.length c0 (nums .i64 l0) rfl ?qc1 ?qc2 ?qc3 ?qc4 ?qc5 ?qc6 ?_)
      case qc1 => simp [nums]
      case qc2 =>
        intro j u hj
        exact Lib.cell?_alloc_some _ (HN.out j u hj)
      case qc3 => intro u hu; simp only [nums, List.mem_map] at hu; obtain ⟨x, _, rfl⟩ := hu; rfl
      case qc4 => rw [Nat.zero_add]; simp only [maxLen]; omega
      case qc5 => rw [Nat.zero_add]; omega
      case qc6 => simp
      intro v' w1 hown hgrow hnil
      go_wp2
      go_ret
      have ho : w1.ownsRow w.heap.size 3 1 v' l0.length (nums .i64 l0) := by simpa using hown
      refine ⟨v', rfl, R_of_nums rfl ho (fun _ _ => trivial), ?_⟩
      exact ((Below.refl _ w).alloc (Nat.le_refl _) _).grown hgrow (by simp) (by intro k hk; simp [Value.ownBlock] at hk; omega)
  · cases h
end Go.Proofs.Ytjhpnihlmnlehaa.G
namespace Go.Proofs.Ytjhpnihlmnlehaa.G
open Go.RowKit Go.Proofs.YtjhpnihlmnlehaaW.PrintWords Go.Proofs.YtjhpnihlmnlehaaW.PrintLast Go.Proofs.YtjhpnihlmnlehaaW.PrintMore
attribute [local go_sem] max2_int min2_int max_two min_two max_three min_three max_four min_four   -- for this text's walks alone
/-! ### impl_isKey: function 26 -/
def impl_isKey.f (a0 : Int) : Option (Bool) := (impl_between.f a0 0 999).bind fun t283 => (some t283)
set_option maxHeartbeats 8000000 in
set_option maxRecDepth 100000 in
theorem impl_isKey.calls (a0 : Int) (r : Bool) (w : World) (h : impl_isKey.f a0 = some r) :
  Calls Try.prog 26 #[.int .i64 a0] w fun e w' => e = .returned (.bool r) ∧ Drawn0 w w' := by
 have H : ((impl_between.f a0 0 999).bind fun t283 => (some t283)) = some r := h
 clear h
 replace H := Option.bind_eq_some_iff.mp H
 obtain ⟨t283, A20, H⟩ := H
 have A2 := aS_ A20
 clear A20
 obtain rfl := Option.some.inj H
 go_enter Try.func26, Try.ntmps26
 go_wp2_with (first | ((with_reducible refine gate_callee (f := 55) rfl ?_); refine goesL_ (some 4) rfl rfl Try.func55 (by kernel_rfl) rfl #[.int .i64 a0, .int .i64 0, .int .i64 999] rfl aR_ ?_; (with_reducible refine (impl_between.calls a0 0 999 t283 _ A2.out).mono ?_); rintro e w' ⟨rfl, ⟨nd, rfl⟩⟩; refine ⟨_, rfl, ?_⟩))
 go_ret
 exact ⟨sR_, by repeat (first | exact Drawn0.refl _ | apply Drawn0.step)⟩
/-! ### impl_Table_copied: function 29 -/
def impl_Table_copied.f (l0_0 : List Int) : Option (List Int) := (slices_Clone_int_int.f l0_0).bind fun t286 => (some t286)
set_option maxHeartbeats 8000000 in
set_option maxRecDepth 100000 in
theorem impl_Table_copied.calls (A0_0 : Option Addr) (c0_0 : Nat) (l0_0 : List Int) (r : List Int) (w : World) (hr0_0 : Kd.C (Kd.int .i64) w A0_0 l0_0.length l0_0) (hc0_0 : l0_0.length ≤ c0_0) (h : impl_Table_copied.f l0_0 = some r) :
  Calls Try.prog 29 #[.agg #[.slice A0_0 l0_0.length c0_0]] w fun e w' => ∃ v0_ : Value, e = .returned (.agg #[v0_]) ∧ Kd.R (Kd.int .i64) 3 w' w.heap.size (fun _ => True) v0_ r ∧ Below w.heap.size w w' := by
 have hu26 := Try.underlying26
 have HR0_0 := aS_ hr0_0
 have HC0_0 := aS_ hc0_0
 clear hr0_0 hc0_0
 have HB := aS_ (Below.refl w.heap.size w)
 have H : ((slices_Clone_int_int.f l0_0).bind fun t286 => (some t286)) = some r := h
 clear h
 replace H := Option.bind_eq_some_iff.mp H
 obtain ⟨t286, A20, H⟩ := H
 have A2 := aS_ A20
 clear A20
 obtain rfl := Option.some.inj H
 go_enter Try.func29, Try.ntmps29
 go_wp2_with (first | ((with_reducible refine gate_dst (N := 1) rfl ?_); refine box_event ?hg (N := 1) ?hd (cs := #[.slice A0_0 l0_0.length c0_0]) (t := 26) ?hr ?_; (case hd => rfl); (case hg => rfl); (case hr => first | (go_simp; done) | (go_simp; rfl)); intro gb284 hg w3 hbox hb; have BK284 := aS_ (hbox); have GW284 := gE_ HB hg; have GE284 := gE_ HB hg; replace HB := bE_ HB hb; clear hb hbox hg) | ((with_reducible refine gate_dst (N := 2) rfl ?_); refine box_event ?hg (N := 2) ?hd (cs := #[.slice none 0 0]) (t := 26) ?hr ?_; (case hd => rfl); (case hg => rfl); (case hr => first | (go_simp; done) | (go_simp; rfl)); intro gb285 hg w4 hbox hb; have BK285 := aS_ (hbox); have GW285 := gE_ HB hg; have GE285 := gE_ HB hg; replace HB := bE_ HB hb; have NB284_285 := nL_ BK284 hg; have NB285_284 := nG_ BK284 hg; replace BK284 := kO_ BK284 hb; clear hb hbox hg; have hnb5 := NB284_285.out; have hnc5 := NB285_284.out; have hcz6_0 : w4.cell? ⟨gb284, 0, none⟩ = some (.slice A0_0 l0_0.length c0_0) := (blk_cell BK284.out 0).trans rfl; have hfz6_0 := blk_frozen BK284.out 0) | ((with_reducible refine gate_callee (f := 59) rfl ?_); refine goesL_ (some 5) rfl rfl Try.func59 (by kernel_rfl) rfl #[.slice A0_0 l0_0.length c0_0] rfl aR_ ?_; (with_reducible refine (slices_Clone_int_int.calls _ _ l0_0 t286 _ ?side1 ?side2 A2.out).mono ?_); (case side1 => exact cB_ HR0_0 HB); (case side2 => exact HC0_0.out); rintro e w7 ⟨v287, rfl, ho0, hb⟩; refine ⟨_, rfl, ?_⟩; have HO288 := aS_ (Kd.R_lower ho0 (below_size (bb_ HB))); replace BK284 := kO_ BK284 hb; replace BK285 := kO_ BK285 hb; replace HB := bE_ HB hb; (try clear hb); (try clear ho0); obtain ⟨Ao8, co8, eo8⟩ := Kd.R_slice HO288.out; subst eo8; have hcz9_0 : w7.cell? ⟨gb285, 0, none⟩ = some (.slice none 0 0) := (blk_cell BK285.out 0).trans rfl; have hfz9_0 := blk_frozen BK285.out 0))
 refine bodyPost_ret (results_cell_row rfl _ _ gb285 26 #[.slice Ao8 t286.length co8] (0, 0) _ rfl (by (with_reducible repeat (first | refine kN_ ?_ _ | refine kD_ ?_ | refine kA_ ?_ _)); refine blk_put (cs := #[.slice none 0 0]) ?_ 0 _ rfl; (with_reducible repeat (first | refine kN_ ?_ _ | refine kD_ ?_ | refine kA_ ?_ _)); exact BK285.out) Try.underlying26 rfl (by kernel_rfl)) rfl ?_
 exact ⟨_, by first | rfl | (simp [errW_none, errW_some] <;> rfl) | (simp [*, errW_none, errW_some] <;> rfl), by (with_reducible repeat (first | apply rA_ | apply rN_ | apply rD_)); exact Kd.R_mono (Kd.R_far (p := ⟨gb285, 0, none⟩) (Kd.R_types HO288.out BK285.out (by decide)) (fun _ hk => hk.2) (.slice Ao8 t286.length co8)) (fun _ hk => trivial), bb_ HB⟩
/-! ### impl_Table_insert: function 30 -/
def impl_Table_insert.l0 : Nat → Int → Int → List Int → Option (Int × List Int)
 | 0, _, _, _ => none
 | k + 1, x1, x5, x290000 => if 0 ≤ x5 then (if x5 < (x290000.length : Int) then (if (rd x290000 x5) ≥ 0 then (if (x290000.length : Int) = 0 then (none) else (impl_Table_insert.l0 k x1 (Int.tmod (wrap64 (x5 + 1)) (x290000.length : Int)) x290000)) else (some (x5, (x290000.set (x5 : Int).toNat x1)))) else (none)) else (none)
def impl_Table_insert.f (k : Nat) (l0_0 : List Int) (a1 : Int) : Option (Int × List Int) := if (l0_0.length : Int) = 0 then (none) else (impl_Table_insert.l0 k a1 (Int.tmod a1 (l0_0.length : Int)) l0_0)
theorem impl_Table_insert.mono_l : ∀ k, (∀ y0 y1 y2, LeO (impl_Table_insert.l0 k y0 y1 y2) (impl_Table_insert.l0 (k + 1) y0 y1 y2))
 | 0 => fun _ _ _ r h => by simp [impl_Table_insert.l0] at h
 | k + 1 => by
  have ih0 := impl_Table_insert.mono_l k
  ·intro y0 y1 y2
   unfold impl_Table_insert.l0
   repeat' first
   | (with_reducible exact ih0 _ _ _)
   | (with_reducible exact LeO.refl _)
   | (with_reducible exact LeO.none _)
   | (with_reducible refine LeO.ite ?_ ?_)
   | (with_reducible refine LeO.bind ?_ (fun _ => ?_))
   | exact ih0 _ _ _
   | exact LeO.none _
   | refine LeO.ite ?_ ?_
   | refine LeO.bind ?_ (fun _ => ?_)
theorem impl_Table_insert.mono : ∀ a0 a1 k, LeO (impl_Table_insert.f k a0 a1) (impl_Table_insert.f (k + 1) a0 a1) := by
 intro a0 a1 k
 have ih0 := impl_Table_insert.mono_l k
 unfold impl_Table_insert.f
 repeat' first
   | (with_reducible exact ih0 _ _ _)
   | (with_reducible exact LeO.refl _)
   | (with_reducible exact LeO.none _)
   | (with_reducible refine LeO.ite ?_ ?_)
   | (with_reducible refine LeO.bind ?_ (fun _ => ?_))
   | exact ih0 _ _ _
   | exact LeO.none _
   | refine LeO.ite ?_ ?_
   | refine LeO.bind ?_ (fun _ => ?_)
set_option maxHeartbeats 8000000 in
set_option maxRecDepth 100000 in
theorem impl_Table_insert.calls (k : Nat) (P0_0_ : Nat → Prop) (u9000_ : Value) (l0_0 : List Int) (a1 : Int) (r1 : Int) (r2 : List Int) (w0 w : World) (hB : Below w0.heap.size w0 w) (ho0_0 : Kd.R (Kd.int .i64) 3 w w0.heap.size P0_0_ u9000_ l0_0) (h : impl_Table_insert.f k l0_0 a1 = some (r1, r2)) :
  Calls Try.prog 30 #[.agg #[u9000_], .int .i64 a1] w fun e w' => e = .returned (.int .i64 r1) ∧ Kd.R (Kd.int .i64) 3 w' w0.heap.size (fun k_ => (P0_0_ k_ ∨ w.heap.size ≤ k_)) u9000_ r2 ∧ Below w0.heap.size w0 w' ∧ Kept w w' (fun k_ => P0_0_ k_) := by
 have hu26 := Try.underlying26
 have HO0_0 := aS_ (show Kd.R (Kd.int .i64) 3 w w0.heap.size (fun k_ => (P0_0_ k_ ∨ w.heap.size ≤ k_)) u9000_ l0_0 from Kd.R_mono ho0_0 (fun k_ hk => (.inl hk)))
 have HK := aS_ (Kept.refl w (fun k_ => P0_0_ k_))
 have HW0 := aS_ hB.size
 have HB := aS_ hB
 clear hB
 have H : (if (l0_0.length : Int) = 0 then (none) else (impl_Table_insert.l0 k a1 (Int.tmod a1 (l0_0.length : Int)) l0_0)) = some (r1, r2) := h
 clear h
 by_cases c3 : (l0_0.length : Int) = 0
 ·rw [if_pos c3] at H
  exact absurd H (by simp)
 ·rw [if_neg c3] at H
  have c3b0 : ((l0_0.length : Int) == 0) = false := beq_eq_false_iff_ne.mpr c3
  have c3b1 : ((l0_0.length : Int) != 0) = true := bne_iff_ne.mpr c3
  have c3b2 : ¬ (l0_0 = []) := fun h_ => c3 (by rw [h_]; rfl)
  have H' := aS_ H
  clear H
  obtain ⟨Ao4, co4, eo4⟩ := Kd.R_slice HO0_0.out
  subst eo4
  go_enter Try.func30, Try.ntmps30
  go_wp2_with (first | ((with_reducible refine gate_dst (N := 2) rfl ?_); refine box_event ?hg (N := 2) ?hd (cs := #[.slice Ao4 l0_0.length co4]) (t := 26) ?hr ?_; (case hd => rfl); (case hg => rfl); (case hr => first | (go_simp; done) | (go_simp; rfl)); intro gb289 hg w5 hbox hb; replace HO0_0 := aS_ (Kd.R_below (rr_ HO0_0) hb); have BK289 := aS_ (hbox); have GW289 := aS_ ((by rw [hg]; exact (by first | exact HK.out.1 | exact (show Kept w _ (fun k_ => P0_0_ k_) from by repeat (first | (with_reducible first | exact HK.out | apply Kept.alloc | apply Kept.drewN | apply Kept.drew) | exact HK.out)).1) : w.heap.size ≤ gb289)); replace HK := aS_ (Kept.below (S := (fun k_ => P0_0_ k_)) (by repeat (first | (with_reducible first | exact HK.out | apply Kept.alloc | apply Kept.drewN | apply Kept.drew) | exact HK.out)) hb); have GE289 := gE_ HB hg; replace HB := bE_ HB hb; clear hb hbox hg; have hcz6_0 : w5.cell? ⟨gb289, 0, none⟩ = some (.slice Ao4 l0_0.length co4) := (blk_cell BK289.out 0).trans rfl; have hfz6_0 := blk_frozen BK289.out 0))
  go_loopg [5] k (fun kq v5 w' => ∃ (x5_1 : Int), v5 = .int .i64 x5_1 ∧ Aside0 (impl_Table_insert.l0 kq a1 x5_1 l0_0 = some (r1, r2)) ∧ Aside0 (kq ≤ k) ∧ Aside0 (Kd.R (Kd.int .i64) 3 w' w0.heap.size (fun k_ => (P0_0_ k_ ∨ w.heap.size ≤ k_)) (.slice Ao4 l0_0.length co4) l0_0) ∧ Aside0 (w'.heap[gb289]? = some (.cells #[(.slice Ao4 l0_0.length co4)] 26 (0, 0))) ∧ Aside0 (Kept w w' (fun k_ => P0_0_ k_)) ∧ Aside0 (Below w0.heap.size w0 w'))
  case atStart => exact ⟨(Int.tmod a1 (l0_0.length : Int)), sR_, H', ⟨Nat.le_refl _⟩, ⟨rr_ HO0_0⟩, ⟨kk_ BK289⟩, ⟨by repeat (first | (with_reducible first | exact HK.out | apply Kept.alloc | apply Kept.drewN | apply Kept.drew | refine Kept.setCell ?_ (.inr GW289.out) _) | exact HK.out)⟩, ⟨bb_ HB⟩⟩
  case round =>
   clear H'
   try clear p2
   try clear c3
   try clear c3b0
   try clear c3b1
   try clear c3b2
   try clear hcz6_0
   try clear hfz6_0
   obtain ⟨x5_1, rfl, HA, HK1, HO_290000, BK289, HK, HB⟩ := hrel
   cases gk with
   | zero => exact absurd HA.out (by simp [impl_Table_insert.l0])
   | succ k1 =>
    have H := HA.out
    clear HA
    simp only [impl_Table_insert.l0] at H
    by_cases c7 : 0 ≤ x5_1
    ·rw [if_pos c7] at H
     have c7b0 : decide (0 ≤ x5_1) = true := decide_eq_true c7
     clear c7
     by_cases c8 : x5_1 < (l0_0.length : Int)
     ·rw [if_pos c8] at H
      have c8b0 : decide (x5_1 < (l0_0.length : Int)) = true := decide_eq_true c8
      clear c8
      by_cases c9 : (rd l0_0 x5_1) ≥ 0
      ·rw [if_pos c9] at H
       have c9b0 : decide (0 ≤ (rd l0_0 x5_1)) = true := decide_eq_true c9
       clear c9
       by_cases c10 : (l0_0.length : Int) = 0
       ·rw [if_pos c10] at H
        exact absurd H (by simp)
       ·rw [if_neg c10] at H
        have c10b0 : ((l0_0.length : Int) == 0) = false := beq_eq_false_iff_ne.mpr c10
        have c10b1 : ((l0_0.length : Int) != 0) = true := bne_iff_ne.mpr c10
        have c10b2 : ¬ (l0_0 = []) := fun h_ => c10 (by rw [h_]; rfl)
        have H' := aS_ H
        clear H
        have hcz11_0 : wr.cell? ⟨gb289, 0, none⟩ = some (.slice Ao4 l0_0.length co4) := (blk_cell BK289.out 0).trans rfl
        have hfz11_0 := blk_frozen BK289.out 0
        have p290 : 0 ≤ (x5_1 : Int) := of_decide_eq_true (by assumption)
        have q290 : x5_1 < (l0_0.length : Int) := of_decide_eq_true (by assumption)
        obtain ⟨ad290, e290, hx290_0⟩ := Kd.at_int (Kd.R_reads' HO_290000.out).2.2 x5_1 p290 q290
        cases e290
        replace p290 := eq_true p290
        replace q290 := eq_true q290
        go_wp2
        go_roundg k1
        case measure => have := HK1.out; omega
        case rel => exact ⟨(Int.tmod (wrap64 (x5_1 + 1)) (l0_0.length : Int)), sR_, H', ⟨by have := HK1.out; omega⟩, ⟨rr_ HO_290000⟩, ⟨kk_ BK289⟩, ⟨by repeat (first | (with_reducible first | exact HK.out | apply Kept.alloc | apply Kept.drewN | apply Kept.drew | refine Kept.setCell ?_ (.inr GW289.out) _) | exact HK.out)⟩, ⟨bb_ HB⟩⟩
      ·rw [if_neg c9] at H
       have c9b0 : decide (0 ≤ (rd l0_0 x5_1)) = false := decide_eq_false c9
       clear c9
       obtain ⟨y291, hy291⟩ : ∃ y_ : List Int, y_ = (l0_0.set (x5_1 : Int).toNat a1) := ⟨_, rfl⟩
       replace H : (some (x5_1, y291)) = some (r1, r2) := by first | (rw [hy291]; with_reducible exact H) | (have H2_ := (Option.bind_some _ _).symm.trans H; rw [hy291]; with_reducible exact H2_) | (have H2_ := (Option.bind_some _ _).symm.trans H; with_reducible exact H2_) | with_reducible exact H | (rw [hy291]; exact H) | exact H
       have Ny291 := aS_ hy291
       clear hy291
       simp only [Option.some.injEq, Prod.mk.injEq] at H
       obtain ⟨rfl, rfl⟩ := H
       have hcz13_0 : wr.cell? ⟨gb289, 0, none⟩ = some (.slice Ao4 l0_0.length co4) := (blk_cell BK289.out 0).trans rfl
       have hfz13_0 := blk_frozen BK289.out 0
       have p290 : 0 ≤ (x5_1 : Int) := of_decide_eq_true (by assumption)
       have q290 : x5_1 < (l0_0.length : Int) := of_decide_eq_true (by assumption)
       obtain ⟨ad290, e290, hx290_0⟩ := Kd.at_int (Kd.R_reads' HO_290000.out).2.2 x5_1 p290 q290
       cases e290
       replace p290 := eq_true p290
       replace q290 := eq_true q290
       have p12 : 0 ≤ (x5_1 : Int) := of_decide_eq_true (by assumption)
       have q12 : (x5_1 : Int) < ((l0_0.length : Int) : Int) := of_decide_eq_true (by assumption)
       obtain ⟨go12, co12, eo12, gb12, gl12, cl12, HG12⟩ := Kd.R_form HO_290000.out (by omega)
       (first | cases eo12 | (injection eo12 with ea_ en_ ec_; (first | subst ea_ | (injection ea_ with ea_; subst ea_)); subst ec_; clear en_))
       have GB12 := aS_ gb12
       have GG12 := aS_ HG12
       clear gb12 gl12 HG12
       have HMgo12 := aS_ (show (P0_0_ go12 ∨ w.heap.size ≤ go12) from (HO_290000.out.1 _ rfl))
       (first | simp only [add_plain] at hx290_0 | skip)
       obtain ⟨hx12_0, hf12_0⟩ := Kd.R_celln 0 HO_290000.out (x5_1 : Int) p12 q12
       replace p12 := eq_true p12
       replace q12 := eq_true q12
       have HP14 := Kd.R_putg HO_290000.out (x5_1 : Int) a1
       go_wp2_with (first | ((with_reducible refine gate_store (t := 3) (p := 27) rfl ?_); refine store_event (t := 3) (p := 27) (v := ?vo_w15) (w1 := (wr.setCell ⟨go12, (x5_1 : Int).toNat, none⟩ (.int .i64 a1))) ?hg ?ho ?hn ?hr ?_; (case ho => rfl); (case hg => rfl); (case hn => rfl); (case hr => first | (go_simp; done) | (go_simp; rfl)); intro w15 hw; have hg : wr.grownBy w15 (some go12) := (by rw [hw]; exact HP14.2); have hp_ : Kd.R (Kd.int .i64) 3 w15 w0.heap.size (fun k_ => (P0_0_ k_ ∨ w.heap.size ≤ k_)) (.slice (some ⟨go12, 0, none⟩) l0_0.length co4) y291 := (by rw [hw, Ny291.out]; exact HP14.1); clear HP14; replace BK289 := aS_ (blk_grown (g := gb289) (o := .cells #[.slice (some ⟨go12, 0, none⟩) l0_0.length co4] 26 (0, 0)) (kk_ BK289) hg (Kd.R_ne HO_290000.out BK289.out (by decide))); replace HB := aS_ ((by rw [hw]; exact bS_ (HB.out) GB12.out : Below w0.heap.size w0 w15)); replace HK := aS_ (Kept.of_grown (S := (fun k_ => P0_0_ k_)) hg (by repeat (first | (with_reducible first | exact HK.out | apply Kept.alloc | apply Kept.drewN | apply Kept.drew | refine Kept.setCell ?_ (.inr GW289.out) _) | exact HK.out)) (fun k_ e_ => (HO_290000.out.1 k_ e_))); replace HO_290000 := aS_ (hp_); clear hg hw hp_))
       go_ret
       exact ⟨eR_, rr_ HO_290000, bb_ HB, by repeat (first | (with_reducible first | exact HK.out | apply Kept.alloc | apply Kept.drewN | apply Kept.drew | refine Kept.setCell ?_ (.inr GW289.out) _) | exact HK.out)⟩
     ·rw [if_neg c8] at H
      exact absurd H (by simp)
    ·rw [if_neg c7] at H
     exact absurd H (by simp)
end Go.Proofs.Ytjhpnihlmnlehaa.G
namespace Go.Proofs.Ytjhpnihlmnlehaa.Q
open Go.Proofs Go.RowKit Go.Shelf Go.Proofs.YtjhpnihlmnlehaaW.PrintWords Go.Proofs.YtjhpnihlmnlehaaW.PrintLast Go.Proofs.YtjhpnihlmnlehaaW.PrintMore
attribute [local go_sem] Oper.semAt_some
theorem take_snocD (zs : List Int) {k : Nat} (h : k < zs.length) : zs.take k ++ [zs.getD k 0] = zs.take (k + 1) := by
  rw [List.take_add_one, List.getElem?_eq_getElem h, List.getD_eq_getElem?_getD, List.getElem?_eq_getElem h]; rfl
/-- The slice value holds the numbers, in a block below n₀. -/
def Ints (n₀ : Nat) (W : World) (A : Option Addr) (zs : List Int) : Prop :=
  ∀ j, j < zs.length → ∃ ad, A = some ad ∧ (ad.add j).block < n₀ ∧ W.cell? (ad.add j) = some (.int .i64 (zs.getD j 0))
theorem Ints.below {n₀ : Nat} {A B : World} (h : Below n₀ A B) {a : Option Addr} {zs : List Int} (hi : Ints n₀ A a zs) : Ints n₀ B a zs := fun j hj => by
  obtain ⟨ad, e, hb, hc⟩ := hi j hj
  exact ⟨ad, e, hb, (h.cell (p := ad.add j) hb).trans hc⟩
set_option maxRecDepth 100000 in
set_option maxHeartbeats 2000000 in
/-- The closure that slices.Values hands back: for every loop body that keeps what lay below n₀. -/
theorem values1_in (F : Fence) (n : Nat) (h7 : F.fn 78) (hro : F.round = none) (hn : 1 ≤ n) (l Bs n₀ cap : Nat) (A : Option Addr) (zs : List Int) (hreach : zs.length * 8 ≤ 140737488351232) (J Jx : List Int → World → Prop)
    (hY : ∀ pre x W, J pre W → pre.length < zs.length → YieldAt F (n - 1) Try.prog l #[.int .i64 x] W fun e W' =>
      (e = .returned (.bool true) ∧ J (pre ++ [x]) W' ∧ Below n₀ W W') ∨ (e = .returned (.bool false) ∧ Jx (pre ++ [x]) W'))
    (W : World) (hBs : W.cell? ⟨Bs, 0, none⟩ = some (.slice A zs.length cap)) (hc : Ints n₀ W A zs) (h0 : J [] W) :
    CallsIn F n Try.prog 78 #[.func (.yield l) #[] #[], .pointer (some ⟨Bs, 0, none⟩)] W fun e W' => (∃ v, e = .returned v) ∧
      ((∃ ys, ys = zs ∧ J ys W') ∨ (∃ pre, pre <+: zs ∧ Jx pre W')) := by
  refine callsIn_of_wp Try.func78 rfl h7 ?_ hro
  simp only [Try.ntmps78, List.size_toArray, List.length_cons, List.length_nil, Nat.reduceAdd, Nat.reduceSub, Array.replicate_succ, Array.replicate_zero, List.push_toArray, List.append_toArray, List.nil_append, List.cons_append]
  gi_wp2
  gi_loopw [7] (fun i wr => ∃ k : Nat, k ≤ zs.length ∧ i = .int .i64 k ∧ J (zs.take k) wr ∧ Below n₀ W wr)
    (fun i _ => zs.length - (intOf i).toNat)
  case atStart => exact ⟨0, Nat.zero_le _, rfl, h0, Below.refl _ _⟩
  case round =>
    obtain ⟨k, hk, rfl, hJs, hnx⟩ := hrel
    by_cases hlt : k < zs.length
    · obtain ⟨ad, rfl, hb, hck⟩ := hc k hlt
      obtain ⟨x, hx⟩ : ∃ x, x = zs.getD k 0 := ⟨_, rfl⟩
      rw [← hx] at hck
      have hsn : Aside0 (zs.take k ++ [x] = zs.take (k + 1)) := ⟨by rw [hx]; exact take_snocD zs hlt⟩
      have hcx : wr.cell? (ad.add k) = some (.int .i64 x) := (hnx.cell (p := ad.add k) hb).trans hck
      obtain ⟨fn, tmps, assign, body, hy, hR⟩ := hY _ x wr hJs (by rw [List.length_take]; omega)
      clear hck hx
      gi_wp2
      refine hR.mono ?_
      rintro e W3 (⟨rfl, hJ3, hk3⟩ | ⟨rfl, hJx3⟩)
      · gi_wp2
        go_roundw
        case rel => exact ⟨k + 1, by omega, by simp, by rw [← hsn.out]; exact hJ3, hnx.trans hk3⟩
        case measure => simp [intOf]; omega
      · gi_wp2
        refine bodyPost_ret (results_none rfl _ _ _) rfl ?_
        exact ⟨⟨_, rfl⟩, .inr ⟨_, by rw [hsn.out]; exact List.take_prefix _ _, hJx3⟩⟩
    · obtain rfl : k = zs.length := by omega
      gi_wp2
      go_end0
      exact ⟨⟨_, rfl⟩, .inl ⟨_, by rw [List.take_length], hJs⟩⟩
set_option maxHeartbeats 1000000 in
theorem values_in (F : Fence) (n : Nat) (h5 : F.fn 74) (hro : F.round = none) (a : Option Addr) (len cap : Nat) (w : World) :
    CallsIn F n Try.prog 74 #[.slice a len cap] w fun e w' => e = .returned (.func (.func 78) #[] #[.pointer (some ⟨w.heap.size, 0, none⟩)]) ∧ w' = w.alloc (.cells #[.slice a len cap] 24) := by
  refine callsIn_of_wp Try.func74 rfl h5 ?_ hro
  simp only [Try.ntmps74, List.size_toArray, List.length_cons, List.length_nil, Nat.reduceAdd, Nat.reduceSub, Array.replicate_succ, Array.replicate_zero, List.push_toArray, List.append_toArray, List.nil_append, List.cons_append]
  gi_wp2
  go_ret
  exact ⟨rfl, rfl⟩
theorem values_stops (F : Fence) (n : Nat) (h7 : F.fn 78) (hro : F.round = none) (hn : 1 ≤ n) (Bs n₀ cap : Nat) (A : Option Addr) (zs : List Int) (hreach : zs.length * 8 ≤ 140737488351232) (w : World) (hBs : Bs < w.heap.size) (hn₀ : n₀ ≤ w.heap.size)
    (hc : w.cell? ⟨Bs, 0, none⟩ = some (.slice A zs.length cap)) (hI : Ints n₀ w A zs) :
    SeqStopsK F n Try.prog 78 #[.pointer (some ⟨Bs, 0, none⟩)] (fun x : Int => #[Value.int .i64 x]) (Below n₀) (fun ys => ys = zs) (fun pre => pre <+: zs) zs.length w := fun l J Jx W hW _ _ hY h0 =>
  values1_in F n h7 hro hn l Bs n₀ cap A zs hreach J Jx hY W ((hW.cell (p := ⟨Bs, 0, none⟩) hBs).trans hc) (hI.below (hW.mono hn₀)) h0
theorem infoI : (Try.prog.info? 3).map (fun i => (i.zero, i.size, i.bytes)) = some (some (.int .i64 0), 1, 8) := by kernel_rfl
set_option maxRecDepth 100000 in
set_option maxHeartbeats 2000000 in
/-- slices.AppendSeq onto nil, over what slices.Values handed back. -/
theorem appendSeq_in (F : Fence) (n : Nat) (h3 : F.fn 81) (h5 : F.fn 78) (hro : F.round = none) (hn : 3 ≤ n) (Bs cap : Nat) (A : Option Addr) (zs : List Int) (hreach : zs.length * 8 ≤ 140737488351232) (w : World) (hBs : Bs < w.heap.size)
    (hcs : w.cell? ⟨Bs, 0, none⟩ = some (.slice A zs.length cap)) (hI : Ints w.heap.size w A zs) :
    CallsIn F n Try.prog 81 #[.slice none 0 0, .func (.func 78) #[] #[.pointer (some ⟨Bs, 0, none⟩)]] w fun e W' => ∃ v, e = .returned v ∧ W'.ownsRow w.heap.size 3 1 v zs.length (zs.map (Value.int .i64)) ∧ (v = .slice none 0 0 ↔ zs = []) ∧ Below w.heap.size w W' := by
  have h1 : 1 ≤ n := by omega
  have hmx : zs.length ≤ maxLen := by unfold maxLen; omega
  obtain ⟨i0, hi, hz0, hz1, hz2⟩ := info_parts infoI
  refine callsIn_of_wp_marks Try.func81 rfl h3 ?_ hro
  simp only [Try.ntmps81, List.size_toArray, List.length_cons, List.length_nil, Nat.reduceAdd, Nat.reduceSub, Array.replicate_succ, Array.replicate_zero, List.push_toArray, List.append_toArray, List.nil_append, List.cons_append]
  gi_wp2
  have bO := Boxed.new w 24 (.slice none 0 0)
  have hB0 : Below w.heap.size w (w.alloc (.cells #[.slice none 0 0] 24)) := (Below.refl _ w).alloc (Nat.le_refl _) _
  refine wpIn_rangeFunc_ownG hro h1 (gf := 78) (lb := #[.pointer (some ⟨Bs, 0, none⟩)]) rfl h5 (enters_of Try.func78 (by kernel_rfl) rfl)
    (values_stops F (n - 1) h5 hro (by omega) Bs w.heap.size cap A zs hreach _ (by simp; omega) (by simp) ((hB0.cell (p := ⟨Bs, 0, none⟩) hBs).trans hcs) (hI.below hB0)) belowK_t (belowK_b (by simp)) (Below.refl _ _) (fun _ => rfl)
    (fun pre W => (∃ v, Boxed W w.heap.size 24 v ∧ W.ownsRow w.heap.size 3 1 v pre.length (pre.map (Value.int .i64)) ∧ (v = .slice none 0 0 ↔ pre = [])) ∧ Below w.heap.size w W)
    (fun _ _ _ => False)
    (OwnFrom.and (Own.from (holdsRow_own w.heap.size w.heap.size 24 3 1 (fun pre => pre.length) (fun pre => pre.map (Value.int .i64)) (fun pre v => v = .slice none 0 0 ↔ pre = [])) _) (ownFrom_below (Nat.le_refl _) (by simp)))
    (fun _ _ _ _ _ hs _ _ => hs)
    ⟨⟨_, bO, World.ownsRow_nil _ _ _ _, by simp⟩, hB0⟩
    (fun x => { tmps := #[.slice none 0 0, .func (.func 78) #[] #[.pointer (some ⟨Bs, 0, none⟩)], .pointer (some ⟨w.heap.size, 0, none⟩), undef, .slice none 0 0, .int .i64 x, .func (.func 78) #[] #[.pointer (some ⟨Bs, 0, none⟩)], .int .i64 x, undef, undef, undef, undef, undef], defers := [] }) ?assign ?body ?done ?stop
  case assign =>
    intro l x W K hK
    gi_wp2
    exact hK
  case body =>
    rintro l pre x W ⟨⟨v, hv, hrow, hnil⟩, hB⟩ hlt
    have hc := hv.cell
    gi_wp2_with (gi_at_builtin; refine wpListIn_append_own _ rfl _ _ 24 rfl w.heap.size 3 i0 (.int .i64 0) 1 8 Try.underlying24 hi hz0 hz1 hz2 rfl (by decide) _ _ _ rfl (hrow.alloc _) ⟨W.heap.size, 0, none⟩ 1 1 [.int .i64 x] rfl rfl (cell_one_new _ _ _) (by simp [Value.oneCell']) (by omega) (by omega) (by have := hB.size; simp; omega) ?_; intro v' w1 hown' hgrow _; obtain ⟨g', cap', rfl⟩ := ownsRow_succ hown'; obtain ⟨hv1, hv2, hr2, hk2, hb2⟩ := hv.appended (by decide) hrow hB.size (Nat.le_refl _) hown' hgrow; have hc1 := hv1.cell; have hf1 := hv1.frozen)
    exact ⟨hk2.from _, hb2, ⟨_, hv2, by simpa using hr2, by simp⟩, hB.trans hb2⟩
  case done =>
    rintro D ys W hD rfl ⟨⟨v, hv, hrow, hnil⟩, hB⟩ hK
    have hc := hv.cell
    gi_wp2
    refine ⟨by simp, .inl ⟨_, _, rfl, run_takeDeferred hK, ?_⟩⟩
    exact ⟨_, results_tmp rfl _ _ _, v, rfl, ownsRow_putObj hrow _ hK rfl, hnil, hB.trans (belowK_b (w := w) (Nat.le_refl _) W D _ _ (by simp at hD; omega) hK rfl rfl)⟩
  case stop =>
    rintro D c pre W _ _ h _
    exact h.elim
set_option maxHeartbeats 1000000 in
theorem collect_in (F : Fence) (n : Nat) (h8 : F.fn 76) (h3 : F.fn 81) (h5 : F.fn 78) (hro : F.round = none) (hn : 4 ≤ n) (Bs cap : Nat) (A : Option Addr) (zs : List Int) (hreach : zs.length * 8 ≤ 140737488351232) (w : World) (hBs : Bs < w.heap.size)
    (hcs : w.cell? ⟨Bs, 0, none⟩ = some (.slice A zs.length cap)) (hI : Ints w.heap.size w A zs) :
    CallsIn F n Try.prog 76 #[.func (.func 78) #[] #[.pointer (some ⟨Bs, 0, none⟩)]] w fun e W' => ∃ v, e = .returned v ∧ W'.ownsRow w.heap.size 3 1 v zs.length (zs.map (Value.int .i64)) ∧ (v = .slice none 0 0 ↔ zs = []) ∧ Below w.heap.size w W' := by
  have h1 : 1 ≤ n := by omega
  refine callsIn_of_wp Try.func76 rfl h8 ?_ hro
  simp only [Try.ntmps76, List.size_toArray, List.length_cons, List.length_nil, Nat.reduceAdd, Nat.reduceSub, Array.replicate_succ, Array.replicate_zero, List.push_toArray, List.append_toArray, List.nil_append, List.cons_append]
  gi_wp2_with (gi_at_call 81; refine (appendSeq_in F (n - 1) h3 h5 hro (by omega) Bs cap A zs hreach _ hBs hcs hI).mono ?_; rintro e w' ⟨v, rfl, hrow, hnil, hb⟩)
  go_ret
  exact ⟨v, rfl, hrow, hnil, hb⟩
end Go.Proofs.Ytjhpnihlmnlehaa.Q
namespace Go.Proofs
open Go.Shelf
def Try.laysNm220_ren : Go.Shelf.Ren := ⟨fun | 20 => 67 | n => n, fun | 22 => 24 | 3 => 3 | 4 => 4 | 0 => 0 | n => n, fun | n => n⟩
theorem Try.laysNm220 : Go.Proofs.Lays2.n20 Try.prog Try.laysNm220_ren := {
  mixed := by kernel_rfl
  f20 := Try.func67.trans (congrArg some (by kernel_rfl))
  t0 := Try.underlying0
  a0 := Try.isAgg0
  z0 := Try.sizeOf0
  v0 := Try.zeroValue0
  t3 := Try.underlying3
  a3 := Try.isAgg3
  z3 := Try.sizeOf3
  v3 := Try.zeroValue3
  t4 := Try.underlying4
  a4 := Try.isAgg4
  z4 := Try.sizeOf4
  v4 := Try.zeroValue4
  t22 := Try.underlying24
  a22 := Try.isAgg24
  z22 := Try.sizeOf24
  v22 := Try.zeroValue24
  i3 := by kernel_rfl }
open Go.RowKit Go.Lib Go.Sort in
theorem Try.slices_Compact_int (blk off cap : Nat) (zs : List Int) (w : World) (hH : Holds (Value.int .i64) w blk off zs.toArray) (hsz : zs.length ≤ 9223372036854775807) (hcap : zs.length ≤ cap) :
    Calls Try.prog 67 #[.slice (some ⟨blk, off, none⟩) zs.length cap] w fun e w' => e = .returned (.slice (some ⟨blk, off, none⟩) (Lib.compact zs).length cap) ∧ ∃ q, w' = putRow (Value.int .i64) (Sort.ahead w q) blk off (Lib.compact zs ++ List.replicate (zs.length - (Lib.compact zs).length) 0).toArray := Any.slices_Compact_int Try.laysNm220 blk off cap zs w hH hsz hcap
open Go.RowKit Go.Lib Go.Sort in
theorem Try.slices_Compact_int_empty (a : Option Addr) (cap : Nat) (w : World) :
    Calls Try.prog 67 #[.slice a 0 cap] w fun e w' => e = .returned (.slice a 0 cap) ∧ w' = w := Any.slices_Compact_int_empty Try.laysNm220 a cap w
def Try.laysSlH10_f56_ren : Go.Shelf.Ren := ⟨fun | 10 => 56 | 6 => 64 | n => n, fun | 22 => 24 | 23 => 3 | 25 => 48 | 3 => 3 | 4 => 4 | 0 => 0 | n => n, fun | n => n⟩
theorem Try.laysSlH10_f56 : Go.Proofs.SlLaysH.n10 Try.prog Try.laysSlH10_f56_ren := {
  mixed := by kernel_rfl
  f6 := ⟨Try.f64.name, by decide, Try.func64.trans (congrArg some (by kernel_rfl))⟩
  f10 := ⟨Try.f56.name, by decide, Try.func56.trans (congrArg some (by kernel_rfl))⟩
  t0 := Try.underlying0
  a0 := Try.isAgg0
  z0 := Try.sizeOf0
  v0 := Try.zeroValue0
  t3 := Try.underlying3
  a3 := Try.isAgg3
  z3 := Try.sizeOf3
  v3 := Try.zeroValue3
  t4 := Try.underlying4
  a4 := Try.isAgg4
  z4 := Try.sizeOf4
  v4 := Try.zeroValue4
  t22 := Try.underlying24
  a22 := Try.isAgg24
  z22 := Try.sizeOf24
  v22 := Try.zeroValue24
  a23 := Try.isAgg3
  z23 := Try.sizeOf3
  t25 := Try.underlying48
  a25 := Try.isAgg48
  z25 := Try.sizeOf48
  v25 := Try.zeroValue48 }
open Go.RowKit Go.Lib Go.Sort in
theorem Try.slices_DeleteFunc {α : Type} [Inhabited α] (enc : α → Value) (hO : OneCell enc) (p : α → Bool) (g : Nat) (lb : Array Value) (eg : ∀ args w, (callFunc g args).run Try.prog w = .ok (.enter g args) w) (zr : α) (v23 : ∀ w, (zeroValue 3).run Try.prog w = .ok (enc zr) w) (blk off cap : Nat) (d : Array α) (w : World) (hp : PredAt Try.prog g lb enc p w) (hpo : PredOver Try.prog g lb enc p blk off d.size w) (hH : Holds enc w blk off d) (hsz : d.size ≤ 9223372036854775807) (hcap : d.size ≤ cap) :
    Calls Try.prog 56 #[.slice (some ⟨blk, off, none⟩) d.size cap, .func (.func g) #[] lb] w fun e w' => e = .returned (.slice (some ⟨blk, off, none⟩) (d.toList.filter fun x => !p x).length cap) ∧ ∃ q, w' = putRow enc (Sort.ahead w q) blk off ((d.toList.filter fun x => !p x) ++ List.replicate (d.size - (d.toList.filter fun x => !p x).length) zr).toArray := AnyE.slices_DeleteFunc Try.laysSlH10_f56 enc hO p g lb eg zr v23 blk off cap d w hp hpo hH hsz hcap
def Try.laysSlM5_f77_ren : Go.Shelf.Ren := ⟨fun | 5 => 77 | 8 => 83 | 7 => 82 | 19 => 93 | 20 => 94 | 10 => 84 | 11 => 85 | 12 => 86 | 13 => 87 | 14 => 88 | 15 => 89 | 16 => 90 | 17 => 91 | 18 => 92 | 30 => 95 | 31 => 96 | 32 => 97 | 33 => 98 | 34 => 99 | 35 => 100 | 40 => 101 | n => n, fun | 23 => 24 | 25 => 3 | 3 => 3 | 32 => 71 | 22 => 24 | 0 => 0 | 44 => 80 | 46 => 44 | 4 => 4 | 36 => 90 | 35 => 89 | 41 => 38 | 5 => 5 | 9 => 9 | 53 => 97 | 57 => 101 | 63 => 103 | 64 => 104 | n => n, fun | n => n⟩
theorem Try.laysSlM5_f77 : Go.Proofs.SlLaysM.n5 Try.prog Try.laysSlM5_f77_ren := {
  mixed := by kernel_rfl
  f5 := ⟨Try.f77.name, by decide, Try.func77.trans (congrArg some (by kernel_rfl))⟩
  f7 := ⟨Try.f82.name, by decide, Try.func82.trans (congrArg some (by kernel_rfl))⟩
  f8 := Try.func83.trans (congrArg some (by kernel_rfl))
  f10 := ⟨Try.f84.name, by decide, Try.func84.trans (congrArg some (by kernel_rfl))⟩
  f11 := ⟨Try.f85.name, by decide, Try.func85.trans (congrArg some (by kernel_rfl))⟩
  f12 := ⟨Try.f86.name, by decide, Try.func86.trans (congrArg some (by kernel_rfl))⟩
  f13 := ⟨Try.f87.name, by decide, Try.func87.trans (congrArg some (by kernel_rfl))⟩
  f14 := ⟨Try.f88.name, by decide, Try.func88.trans (congrArg some (by kernel_rfl))⟩
  f15 := ⟨Try.f89.name, by decide, Try.func89.trans (congrArg some (by kernel_rfl))⟩
  f16 := ⟨Try.f90.name, by decide, Try.func90.trans (congrArg some (by kernel_rfl))⟩
  f17 := ⟨Try.f91.name, by decide, Try.func91.trans (congrArg some (by kernel_rfl))⟩
  f18 := ⟨Try.f92.name, by decide, Try.func92.trans (congrArg some (by kernel_rfl))⟩
  f19 := Try.func93.trans (congrArg some (by kernel_rfl))
  f20 := Try.func94.trans (congrArg some (by kernel_rfl))
  f30 := ⟨Try.f95.name, by decide, Try.func95.trans (congrArg some (by kernel_rfl))⟩
  f31 := Try.func96.trans (congrArg some (by kernel_rfl))
  f32 := Try.func97.trans (congrArg some (by kernel_rfl))
  f33 := ⟨Try.f98.name, by decide, Try.func98.trans (congrArg some (by kernel_rfl))⟩
  f34 := ⟨Try.f99.name, by decide, Try.func99.trans (congrArg some (by kernel_rfl))⟩
  f35 := ⟨Try.f100.name, by decide, Try.func100.trans (congrArg some (by kernel_rfl))⟩
  f40 := ⟨Try.f101.name, by decide, Try.func101.trans (congrArg some (by kernel_rfl))⟩
  t0 := Try.underlying0
  a0 := Try.isAgg0
  z0 := Try.sizeOf0
  v0 := Try.zeroValue0
  t3 := Try.underlying3
  a3 := Try.isAgg3
  z3 := Try.sizeOf3
  v3 := Try.zeroValue3
  t4 := Try.underlying4
  a4 := Try.isAgg4
  z4 := Try.sizeOf4
  v4 := Try.zeroValue4
  t5 := Try.underlying5
  a5 := Try.isAgg5
  z5 := Try.sizeOf5
  v5 := Try.zeroValue5
  t9 := Try.underlying9
  a9 := Try.isAgg9
  z9 := Try.sizeOf9
  v9 := Try.zeroValue9
  t22 := Try.underlying24
  a22 := Try.isAgg24
  z22 := Try.sizeOf24
  v22 := Try.zeroValue24
  t23 := Try.underlying24
  a23 := Try.isAgg24
  z23 := Try.sizeOf24
  v23 := Try.zeroValue24
  t25 := Try.underlying3
  a25 := Try.isAgg3
  z25 := Try.sizeOf3
  v25 := Try.zeroValue3
  t32 := Try.underlying71
  a32 := Try.isAgg71
  z32 := Try.sizeOf71
  v32 := Try.zeroValue71
  t35 := Try.underlying89
  a35 := Try.isAgg89
  z35 := Try.sizeOf89
  v35 := Try.zeroValue89
  t36 := Try.underlying90
  a36 := Try.isAgg90
  z36 := Try.sizeOf90
  v36 := Try.zeroValue90
  t41 := Try.underlying38
  a41 := Try.isAgg38
  z41 := Try.sizeOf38
  v41 := Try.zeroValue38
  t44 := Try.underlying80
  a44 := Try.isAgg80
  z44 := Try.sizeOf80
  v44 := Try.zeroValue80
  t46 := Try.underlying44
  a46 := Try.isAgg44
  z46 := Try.sizeOf44
  v46 := Try.zeroValue44
  t53 := Try.underlying97
  a53 := Try.isAgg97
  z53 := Try.sizeOf97
  v53 := Try.zeroValue97
  t57 := Try.underlying101
  a57 := Try.isAgg101
  z57 := Try.sizeOf101
  v57 := Try.zeroValue101
  t63 := Try.underlying103
  a63 := Try.isAgg103
  z63 := Try.sizeOf103
  v63 := Try.zeroValue103
  t64 := Try.underlying104
  a64 := Try.isAgg104
  z64 := Try.sizeOf104
  v64 := Try.zeroValue104 }
open Go.Sort Go.RowKit in
theorem Try.slices_Sort_int (blk off cap : Nat) (zs : List Int) (w : World) (hH : Holds (Value.int .i64) w blk off zs.toArray) (hblk : blk < w.heap.size) (hsz : zs.length < 4611686018427387904) :
    Calls Try.prog 77 #[.slice (some ⟨blk, off, none⟩) zs.length cap] w fun e w' =>
      e = .returned (.tuple #[]) ∧ ∃ n os, w' = grow (putRow (Value.int .i64) (Sort.ahead w n) blk off (zs.mergeSort fun x y => decide (x ≤ y)).toArray) os := AnyM.slices_Sort_int Try.laysSlM5_f77 blk off cap zs w hH hblk hsz
open Go.RowKit Go.Sort in
theorem Try.slices_Sort_int_none (p : Option Addr) (cap : Nat) (w : World) :
    Calls Try.prog 77 #[.slice p 0 cap] w fun e w' => e = .returned (.tuple #[]) ∧ w' = w := AnyM.slices_Sort_int_none Try.laysSlM5_f77 p cap w
end Go.Proofs
namespace Go.Proofs.Ytjhpnihlmnlehaa.G
open Go.RowKit Go.Sort Go.Proofs.YtjhpnihlmnlehaaW.PrintWords Go.Proofs.YtjhpnihlmnlehaaW.PrintLast Go.Proofs.YtjhpnihlmnlehaaW.PrintMore
def sortZ (l : List Int) : List Int := l.mergeSort fun x y => decide (x ≤ y)
theorem sortZ_len (l : List Int) : (sortZ l).length = l.length := List.length_mergeSort l
theorem o_R_of_own {e : Nat} {w : World} {base : Nat} {ok : Nat → Prop} {v : Value} {l : List Int} {n : Nat} (hn : n = l.length) (ho : w.ownsRow base e 1 v n (l.map (Value.int .i64))) (hok : ∀ k, v.ownBlock = some k → ok k) : Kd.R (Kd.int .i64) e w base ok v l := by
  subst hn
  exact Kd.R_of_own (enc := Value.int .i64) (h1 := fun _ => rfl) ho hok
theorem ints_of_C {A : Option Addr} {l : List Int} {w : World} (hr : Kd.C (Kd.int .i64) w A l.length l) : Q.Ints w.heap.size w A l := fun j hj => by
  obtain ⟨ad, e, hx⟩ := Kd.at_int hr (j : Int) (by omega) (by omega)
  have e2 : Go.Proofs.YtjhpnihlmnlehaaW.PrintWords.rd l (j : Int) = l.getD j 0 := by unfold Go.Proofs.YtjhpnihlmnlehaaW.PrintWords.rd; rw [Int.toNat_natCast]
  rw [Int.toNat_natCast, e2] at hx
  exact ⟨ad, e, World.block_lt_of_cell? w _ hx, hx⟩
theorem collectC (Bs cap : Nat) (A : Option Addr) (zs : List Int) (hreach : zs.length * 8 ≤ 140737488351232) (w : World) (hBs : Bs < w.heap.size)
    (hcs : w.cell? ⟨Bs, 0, none⟩ = some (.slice A zs.length cap)) (hI : Q.Ints w.heap.size w A zs) :
    Calls Try.prog 76 #[.func (.func 78) #[] #[.pointer (some ⟨Bs, 0, none⟩)]] w fun e W' => ∃ v, e = .returned v ∧ W'.ownsRow w.heap.size 3 1 v zs.length (zs.map (Value.int .i64)) ∧ (v = .slice none 0 0 ↔ zs = []) ∧ Below w.heap.size w W' :=
  callsIn_wide.1 (Q.collect_in Fence.wide 6 trivial trivial trivial rfl (by omega) Bs cap A zs hreach w hBs hcs hI)
theorem valuesC (a : Option Addr) (len cap : Nat) (w : World) :
    Calls Try.prog 74 #[.slice a len cap] w fun e w' => e = .returned (.func (.func 78) #[] #[.pointer (some ⟨w.heap.size, 0, none⟩)]) ∧ w' = w.alloc (.cells #[.slice a len cap] 24) :=
  callsIn_wide.1 (Q.values_in Fence.wide 6 trivial rfl a len cap w)
set_option maxHeartbeats 2000000 in
set_option maxRecDepth 100000 in
theorem slicesSorted (Bs cap : Nat) (A : Option Addr) (zs : List Int) (hreach : zs.length * 8 ≤ 140737488351232) (w : World) (hBs : Bs < w.heap.size)
    (hcs : w.cell? ⟨Bs, 0, none⟩ = some (.slice A zs.length cap)) (hI : Q.Ints w.heap.size w A zs) :
    Calls Try.prog 73 #[.func (.func 78) #[] #[.pointer (some ⟨Bs, 0, none⟩)]] w fun e W' => ∃ v, e = .returned v ∧ W'.ownsRow w.heap.size 3 1 v zs.length ((sortZ zs).map (Value.int .i64)) ∧ (v = .slice none 0 0 ↔ zs = []) ∧ Below w.heap.size w W' := by
  have hcol := collectC Bs cap A zs hreach w hBs hcs hI
  clear hcs hI hBs
  go_enter Try.func73, Try.ntmps73
  go_wp2_with (go_at_call 76; refine hcol.mono ?_; rintro e W ⟨v, rfl, hrow, hnil, hb⟩)
  rcases hrow.2 with ⟨rfl, hz⟩ | ⟨gb, cap', cur, rfl, hbase, hgb, r1, r2, r3, r4⟩
  · have hss : zs = [] := List.eq_nil_of_length_eq_zero hz
    subst hss
    go_wp2_with (go_at_call 77; refine (Try.slices_Sort_int_none none 0 W).mono ?_; rintro e w' ⟨rfl, rfl⟩)
    go_ret
    exact ⟨_, rfl, by simpa [sortZ] using hrow, by simp, hb⟩
  · have hH : Holds (Value.int .i64) W gb 0 zs.toArray := holds_of_block_i hgb (by simpa using r4)
    have hgl : gb < W.heap.size := (Array.getElem?_eq_some_iff.1 hgb).1
    have hsz : zs.length < 4611686018427387904 := by omega
    have cS := Try.slices_Sort_int gb 0 cap' zs W hH hgl hsz
    go_wp2_with (go_at_call 77; refine cS.mono ?_; rintro e w' ⟨rfl, nn, os, rfl⟩)
    go_ret
    exact ⟨_, rfl, ownsRow_sorted_i (sortZ_len zs) hbase hgb r1 r2 r3, hnil, hb.grown (grownBy_sorted_i _) hb.size (fun j hj => by cases hj; exact hbase)⟩
set_option maxHeartbeats 2000000 in
set_option maxRecDepth 100000 in
/-- impl.sorted: a row of the call's own. -/
theorem sorted_own (A0 : Option Addr) (c0 : Nat) (l0 : List Int) (w : World) (hr0 : Kd.C (Kd.int .i64) w A0 l0.length l0) (hreach : l0.length * 8 ≤ 140737488351232) :
    Calls Try.prog 57 #[.slice A0 l0.length c0] w fun e w' => ∃ v, e = .returned v ∧ w'.ownsRow w.heap.size 3 1 v l0.length ((sortZ l0).map (Value.int .i64)) ∧ (v = .slice none 0 0 ↔ l0 = []) ∧ Below w.heap.size w w' := by
  have hb0 : Below w.heap.size w (w.alloc (.cells #[.slice A0 l0.length c0] 24)) := (Below.refl _ w).alloc (Nat.le_refl _) _
  have hI : Q.Ints (w.alloc (.cells #[.slice A0 l0.length c0] 24)).heap.size (w.alloc (.cells #[.slice A0 l0.length c0] 24)) A0 l0 := fun j hj => by
    obtain ⟨ad, e, h1, h2⟩ := (ints_of_C hr0).below hb0 j hj
    exact ⟨ad, e, Nat.lt_of_lt_of_le h1 hb0.size, h2⟩
  have hcall := slicesSorted w.heap.size c0 A0 l0 hreach (w.alloc (.cells #[.slice A0 l0.length c0] 24)) (by simp) (Boxed.new w 24 _).cell hI
  clear hr0 hI
  go_enter Try.func57, Try.ntmps57
  go_wp2_with (first | (go_at_call 74; refine (valuesC _ _ _ _).mono ?_; rintro e w' ⟨rfl, rfl⟩) | (go_at_call 73; refine hcall.mono ?_; rintro e w' ⟨v, rfl, hrow, hnil, hb⟩))
  go_ret
  refine ⟨v, rfl, ?_, hnil, hb0.trans (hb.mono hb0.size)⟩
  obtain ⟨h1, h2⟩ := hrow
  refine ⟨h1, h2.imp id ?_⟩
  rintro ⟨g, cap, cur, e, hg, h⟩
  exact ⟨g, cap, cur, e, Nat.le_trans hb0.size hg, h⟩
def impl_sorted.f (l0 : List Int) : Option (List Int) := if l0.length ≤ 17592186043904 then some (sortZ l0) else none
theorem impl_sorted.calls (A0 : Option Addr) (c0 : Nat) (l0 : List Int) (r : List Int) (w : World) (hr0 : Kd.C (Kd.int .i64) w A0 l0.length l0) (hc0 : l0.length ≤ c0) (h : impl_sorted.f l0 = some r) :
    Calls Try.prog 57 #[.slice A0 l0.length c0] w fun e w' => ∃ v0_ : Value, e = .returned (v0_) ∧ Kd.R (Kd.int .i64) 3 w' w.heap.size (fun _ => True) v0_ r ∧ Below w.heap.size w w' := by
  unfold impl_sorted.f at h
  split at h
  case isFalse => cases h
  rename_i hl
  obtain rfl := Option.some.inj h
  refine (sorted_own A0 c0 l0 w hr0 (by omega)).mono ?_
  rintro e w' ⟨v, rfl, hrow, _, hb⟩
  exact ⟨v, rfl, o_R_of_own (sortZ_len l0).symm hrow (fun _ _ => trivial), hb⟩
theorem own_take {w : World} {base g n cap k : Nat} {e : TypeId} {xs : List Value} (h : w.ownsRow base e 1 (.slice (some ⟨g, 0, none⟩) n cap) n xs) (hk : k ≤ n) : w.ownsRow base e 1 (.slice (some ⟨g, 0, none⟩) k cap) k (xs.take k) := by
  obtain ⟨h1, h2⟩ := h
  rcases h2 with ⟨h, _⟩ | ⟨g', cap', cur, e', hb, hg, hn, hc, hs, ht⟩
  · cases h
  · cases e'
    refine ⟨by rw [List.length_take]; omega, .inr ⟨g, cap, cur, rfl, hb, hg, by omega, hc, hs, ?_⟩⟩
    rw [← ht, List.take_take]
    congr 1
    omega
def negKey (x : Int) : Bool := decide (x < 0)
def keysZ (l : List Int) : List Int := (sortZ l).filter fun x => !negKey x
theorem keys_pred (x : Int) (W : World) : FnGives Try.prog 58 #[] #[.int .i64 x] (.bool (negKey x)) W := by
  unfold FnGives
  simp only [List.append_toArray, List.append_nil]
  go_enter Try.func58, Try.ntmps58
  go_wp2
  go_ret
  exact ⟨rfl, 0, rfl⟩
def impl_Table_keys.f (l0_0 : List Int) : Option (List Int) := if 1 ≤ l0_0.length ∧ l0_0.length ≤ 1000000 then some (keysZ l0_0) else none
set_option maxHeartbeats 4000000 in
set_option maxRecDepth 100000 in
theorem impl_Table_keys.calls (A0_0 : Option Addr) (c0_0 : Nat) (l0_0 : List Int) (r : List Int) (w : World) (hr0_0 : Kd.C (Kd.int .i64) w A0_0 l0_0.length l0_0) (hc0_0 : l0_0.length ≤ c0_0) (h : impl_Table_keys.f l0_0 = some r) :
    Calls Try.prog 28 #[.agg #[.slice A0_0 l0_0.length c0_0]] w fun e w' => ∃ v0_ : Value, e = .returned (v0_) ∧ Kd.R (Kd.int .i64) 3 w' w.heap.size (fun _ => True) v0_ r ∧ Below w.heap.size w w' := by
  unfold impl_Table_keys.f at h
  split at h
  case isFalse => cases h
  rename_i hl
  obtain rfl := Option.some.inj h
  clear h
  have hbx : Below w.heap.size w (w.alloc (.cells #[.agg #[.slice A0_0 l0_0.length c0_0]] 26)) := (Below.refl _ w).alloc (Nat.le_refl _) _
  have hcall := fun o => sorted_own A0_0 c0_0 l0_0 (w.alloc o) (Kd.C_alloc hr0_0 o) (by omega)
  clear hr0_0
  go_enter Try.func28, Try.ntmps28
  go_wp2_with (go_at_call 57; refine (hcall _).mono ?_; rintro e w1 ⟨v, rfl, hrow, hnil, hb⟩)
  rcases hrow.2 with ⟨rfl, hz⟩ | ⟨gb, cap', cur, rfl, hbase, hgb, r1, r2, r3, r4⟩
  · omega
  · have hsl := sortZ_len l0_0
    have hH : Holds (Value.int .i64) w1 gb 0 (sortZ l0_0).toArray := holds_of_block_i hgb (by rw [hsl]; simpa using r4)
    have hD := Try.slices_DeleteFunc (Value.int .i64) (fun _ => rfl) negKey 58 #[] (enters_of Try.func58 (by kernel_rfl) rfl) 0 (fun w => Try.zeroValue3 w) gb 0 cap' (sortZ l0_0).toArray w1 (fun W x _ => keys_pred x W) (fun n os dk x _ => keys_pred x _) hH (by simp; omega) (by simp; omega)
    simp only [List.size_toArray, hsl] at hD
    go_wp2_with (go_at_call 56; refine hD.mono ?_; rintro e w2 ⟨rfl, q, rfl⟩)
    go_ret
    have hfl : ((sortZ l0_0).filter fun x => !negKey x).length ≤ l0_0.length := by have := List.length_filter_le (fun x => !negKey x) (sortZ l0_0); omega
    have hg := grownBy_sorted_i (w := w1) (g := gb) (n := q) (os := #[]) (((sortZ l0_0).filter fun x => !negKey x) ++ List.replicate (l0_0.length - ((sortZ l0_0).filter fun x => !negKey x).length) 0).toArray
    have ho := ownsRow_sorted_i (w := w1) (n := q) (os := #[]) (ss := sortZ l0_0) (ts := ((sortZ l0_0).filter fun x => !negKey x) ++ List.replicate (l0_0.length - ((sortZ l0_0).filter fun x => !negKey x).length) 0) (by simp; omega) hbase hgb (by omega) r2 r3
    rw [hsl] at ho
    have hk := own_take ho hfl
    rw [List.map_append, List.take_left' (by simp)] at hk
    refine ⟨_, rfl, Kd.R_lower (o_R_of_own rfl (by rw [grow_empty] at hk; exact hk) (fun _ _ => trivial)) (below_size (below_alloc (Below.refl w.heap.size w) _)), ?_⟩
    have hb2 : Below w.heap.size w w1 := below_step (below_alloc (Below.refl w.heap.size w) _) hb
    exact hb2.grown (by rw [grow_empty] at hg; exact hg) hb2.size (fun j hj => by cases hj; exact Nat.le_trans (below_size (below_alloc (Below.refl w.heap.size w) _)) hbase)
theorem isSizeC (a : Int) (w : World) : Calls Try.prog 53 #[.int .i64 a] w fun e w' => e = .returned (.bool (decide (2 ≤ a ∧ a ≤ 12))) ∧ Below w.heap.size w w' := by
  by_cases h1 : 2 ≤ a
  · by_cases h2 : a ≤ 12
    · have e1 : decide (2 ≤ a ∧ a ≤ 12) = true := decide_eq_true ⟨h1, h2⟩
      rw [e1]
      clear e1
      have d1 : decide (2 ≤ a) = true := decide_eq_true h1
      have d2 : decide (a ≤ 12) = true := decide_eq_true h2
      go_enter Try.func53, Try.ntmps53
      go_wp2_with go_in
      go_ret
      exact ⟨rfl, Below.refl _ _⟩
    · have e1 : decide (2 ≤ a ∧ a ≤ 12) = false := decide_eq_false (fun h => h2 h.2)
      rw [e1]
      clear e1
      have d1 : decide (2 ≤ a) = true := decide_eq_true h1
      have d2 : decide (a ≤ 12) = false := decide_eq_false h2
      go_enter Try.func53, Try.ntmps53
      go_wp2_with go_in
      go_ret
      exact ⟨rfl, Below.refl _ _⟩
  · have e1 : decide (2 ≤ a ∧ a ≤ 12) = false := decide_eq_false (fun h => h1 h.1)
    rw [e1]
    clear e1
    have d1 : decide (2 ≤ a) = false := decide_eq_false h1
    go_enter Try.func53, Try.ntmps53
    go_wp2_with go_in
    go_ret
    exact ⟨rfl, Below.refl _ _⟩
def areKeysB (l : List Int) (a : Int) : Bool := decide (2 ≤ a ∧ a ≤ 12) && decide ((l.length : Int) < a) && (l.all fun x => decide (0 ≤ x) && decide (x ≤ 999)) && decide ((Go.Lib.compact (sortZ l)).length = l.length)
def impl_areKeys.f (l0 : List Int) (a1 : Int) : Option Bool := if l0.length ≤ 1048576 then some (areKeysB l0 a1) else none
set_option maxHeartbeats 8000000 in
set_option maxRecDepth 100000 in
theorem impl_areKeys.calls (A0 : Option Addr) (c0 : Nat) (l0 : List Int) (a1 : Int) (r : Bool) (w : World) (hr0 : Kd.C (Kd.int .i64) w A0 l0.length l0) (hc0 : l0.length ≤ c0) (h : impl_areKeys.f l0 a1 = some r) :
    Calls Try.prog 46 #[.slice A0 l0.length c0, .int .i64 a1] w fun e w' => e = .returned (.bool r) ∧ Below w.heap.size w w' := by
  unfold impl_areKeys.f at h
  split at h
  case isFalse => cases h
  rename_i hl
  obtain rfl := Option.some.inj h
  clear h
  have hcall := sorted_own A0 c0 l0 w hr0 (by omega)
  have HR := Aside0.mk hr0
  have HC := Aside0.mk hc0
  have HL := Aside0.mk hl
  clear hr0 hc0 hl
  have hsl := sortZ_len l0
  go_enter Try.func46, Try.ntmps46
  go_wp2_with (go_at_call 57; refine hcall.mono ?_; rintro e w1 ⟨v, rfl, hrow, hnil, hb⟩)
  obtain ⟨s1, hs1⟩ : ∃ s1, s1 = decide (2 ≤ a1 ∧ a1 ≤ 12) := ⟨_, rfl⟩
  obtain ⟨s2, hs2⟩ : ∃ s2, s2 = decide ((l0.length : Int) < a1) := ⟨_, rfl⟩
  obtain ⟨s3, hs3⟩ : ∃ s3, s3 = (l0.all fun x => decide (0 ≤ x) && decide (x ≤ 999)) := ⟨_, rfl⟩
  obtain ⟨m, hm⟩ : ∃ m, m = (Go.Lib.compact (sortZ l0)).length := ⟨_, rfl⟩
  obtain ⟨s4, hs4⟩ : ∃ s4, s4 = decide (m = l0.length) := ⟨_, rfl⟩
  have HF : Aside0 (areKeysB l0 a1 = (s1 && s2 && s3 && s4)) := ⟨by rw [areKeysB, hs1, hs2, hs3, hs4, hm]⟩
  have HS1 := Aside0.mk hs1
  have HS3 := Aside0.mk hs3
  have HM := Aside0.mk hm
  have c2 : decide ((l0.length : Int) < a1) = s2 := hs2.symm
  have c4 : ((m : Int) == (l0.length : Int)) = s4 := by rw [hs4, Bool.eq_iff_iff, beq_iff_eq, decide_eq_true_iff]; omega
  clear hs1 hs2 hs3 hm
  rcases hrow.2 with ⟨rfl, hz⟩ | ⟨gb, cap', cur, rfl, hbase, hgb, r1, r2, r3, r4⟩
  · obtain rfl : l0 = [] := List.eq_nil_of_length_eq_zero hz
    obtain rfl : s3 = true := HS3.out
    obtain rfl : s4 = true := by rw [hs4, HM.out]; simp [sortZ, Go.Lib.compact, Go.Lib.compactUpTo]
    have c3 : decide ((0 : Int) < a1) = s2 := c2
    clear hs4 c4 c2 HS3 HM
    have HB := Aside0.mk hb
    have HR2 := Aside0.mk (Kd.C_below HR.out hb)
    clear hb hrow hcall hnil hz hsl
    go_wp2_with (go_at_call 67; refine (Try.slices_Compact_int_empty none 0 w1).mono ?_; rintro e w2 ⟨rfl, rfl⟩)
    cases s1 with
    | false =>
      go_wp2_with (first | (go_at_call 53; refine (isSizeC a1 _).mono ?_; rintro e w3 ⟨rfl, hb3⟩; rw [← HS1.out]; have nB_ := Aside0.mk (below_step HB.out hb3); have nR_ := Aside0.mk (Kd.C_below HR2.out hb3); clear HB HR2 hb3; have HB := nB_; have HR2 := nR_; clear nB_ nR_))
      go_ret
      exact ⟨by rw [HF.out]; rfl, HB.out⟩
    | true =>
      cases s2 with
      | false =>
        go_wp2_with (first | (go_at_call 53; refine (isSizeC a1 _).mono ?_; rintro e w3 ⟨rfl, hb3⟩; rw [← HS1.out]; have nB_ := Aside0.mk (below_step HB.out hb3); have nR_ := Aside0.mk (Kd.C_below HR2.out hb3); clear HB HR2 hb3; have HB := nB_; have HR2 := nR_; clear nB_ nR_))
        go_ret
        exact ⟨by rw [HF.out]; rfl, HB.out⟩
      | true =>
        go_wp2_with (first | (go_at_call 53; refine (isSizeC a1 _).mono ?_; rintro e w3 ⟨rfl, hb3⟩; rw [← HS1.out]; have nB_ := Aside0.mk (below_step HB.out hb3); have nR_ := Aside0.mk (Kd.C_below HR2.out hb3); clear HB HR2 hb3; have HB := nB_; have HR2 := nR_; clear nB_ nR_) | (go_at_call 54; refine (impl_areBetween.calls _ _ [] 0 999 _ _ HR2.out HC.out rfl).mono ?_; rintro e w3 ⟨rfl, hb3⟩; have nB_ := Aside0.mk (below_step HB.out hb3); clear HB HR2 hb3; have HB := nB_; clear nB_))
        go_ret
        exact ⟨by rw [HF.out]; rfl, HB.out⟩
  · have hH : Holds (Value.int .i64) w1 gb 0 (sortZ l0).toArray := holds_of_block_i hgb (by rw [hsl]; simpa using r4)
    have hD := Try.slices_Compact_int gb 0 cap' (sortZ l0) w1 hH (by have := HL.out; omega) (by omega)
    simp only [hsl, ← HM.out] at hD
    clear hs4
    go_wp2_with (go_at_call 67; refine hD.mono ?_; rintro e w2 ⟨rfl, q, hw2⟩; have hb2_ : Below w.heap.size w w2 := (by rw [hw2]; exact hb.grown (by have hg := grownBy_sorted_i (w := w1) (g := gb) (n := q) (os := #[]) (Go.Lib.compact (sortZ l0) ++ List.replicate (l0.length - m) 0).toArray; rw [grow_empty] at hg; exact hg) hb.size (fun j hj => by cases hj; exact hbase)); have HB := Aside0.mk hb2_; have HR2 := Aside0.mk (Kd.C_below HR.out hb2_); clear hb hb2_ hw2 hrow hgb r1 r2 r3 r4 hH hD hcall hnil)
    cases s1 with
    | false =>
      go_wp2_with (first | (go_at_call 53; refine (isSizeC a1 _).mono ?_; rintro e w3 ⟨rfl, hb3⟩; rw [← HS1.out]; have nB_ := Aside0.mk (below_step HB.out hb3); have nR_ := Aside0.mk (Kd.C_below HR2.out hb3); clear HB HR2 hb3; have HB := nB_; have HR2 := nR_; clear nB_ nR_))
      go_ret
      exact ⟨by rw [HF.out]; rfl, HB.out⟩
    | true =>
      cases s2 with
      | false =>
        go_wp2_with (first | (go_at_call 53; refine (isSizeC a1 _).mono ?_; rintro e w3 ⟨rfl, hb3⟩; rw [← HS1.out]; have nB_ := Aside0.mk (below_step HB.out hb3); have nR_ := Aside0.mk (Kd.C_below HR2.out hb3); clear HB HR2 hb3; have HB := nB_; have HR2 := nR_; clear nB_ nR_))
        go_ret
        exact ⟨by rw [HF.out]; rfl, HB.out⟩
      | true =>
        cases s3 with
        | false =>
          go_wp2_with (first | (go_at_call 53; refine (isSizeC a1 _).mono ?_; rintro e w3 ⟨rfl, hb3⟩; rw [← HS1.out]; have nB_ := Aside0.mk (below_step HB.out hb3); have nR_ := Aside0.mk (Kd.C_below HR2.out hb3); clear HB HR2 hb3; have HB := nB_; have HR2 := nR_; clear nB_ nR_) | (go_at_call 54; refine (impl_areBetween.calls _ _ l0 0 999 _ _ HR2.out HC.out rfl).mono ?_; rintro e w3 ⟨rfl, hb3⟩; rw [← HS3.out]; have nB_ := Aside0.mk (below_step HB.out hb3); clear HB HR2 hb3; have HB := nB_; clear nB_))
          go_ret
          exact ⟨by rw [HF.out]; rfl, HB.out⟩
        | true =>
          cases s4 with
          | false =>
            go_wp2_with (first | (go_at_call 53; refine (isSizeC a1 _).mono ?_; rintro e w3 ⟨rfl, hb3⟩; rw [← HS1.out]; have nB_ := Aside0.mk (below_step HB.out hb3); have nR_ := Aside0.mk (Kd.C_below HR2.out hb3); clear HB HR2 hb3; have HB := nB_; have HR2 := nR_; clear nB_ nR_) | (go_at_call 54; refine (impl_areBetween.calls _ _ l0 0 999 _ _ HR2.out HC.out rfl).mono ?_; rintro e w3 ⟨rfl, hb3⟩; rw [← HS3.out]; have nB_ := Aside0.mk (below_step HB.out hb3); clear HB HR2 hb3; have HB := nB_; clear nB_))
            go_ret
            exact ⟨by rw [HF.out]; rfl, HB.out⟩
          | true =>
            obtain rfl : m = l0.length := by have := beq_iff_eq.mp c4; omega
            clear c4
            go_wp2_with (first | (go_at_call 53; refine (isSizeC a1 _).mono ?_; rintro e w3 ⟨rfl, hb3⟩; rw [← HS1.out]; have nB_ := Aside0.mk (below_step HB.out hb3); have nR_ := Aside0.mk (Kd.C_below HR2.out hb3); clear HB HR2 hb3; have HB := nB_; have HR2 := nR_; clear nB_ nR_) | (go_at_call 54; refine (impl_areBetween.calls _ _ l0 0 999 _ _ HR2.out HC.out rfl).mono ?_; rintro e w3 ⟨rfl, hb3⟩; rw [← HS3.out]; have nB_ := Aside0.mk (below_step HB.out hb3); clear HB HR2 hb3; have HB := nB_; clear nB_))
            go_ret
            exact ⟨by rw [HF.out]; rfl, HB.out⟩
end Go.Proofs.Ytjhpnihlmnlehaa.G
namespace Go.Proofs.Ytjhpnihlmnlehaa.G
open Go.RowKit Go.Proofs.YtjhpnihlmnlehaaW.PrintWords Go.Proofs.YtjhpnihlmnlehaaW.PrintLast Go.Proofs.YtjhpnihlmnlehaaW.PrintMore
attribute [local go_sem] max2_int min2_int max_two min_two max_three min_three max_four min_four   -- for this text's walks alone
/-! ### impl_InsertKey: function 6 -/
def impl_InsertKey.j0 : Nat → Int → Bool → List Int → Option (List Int × Int × Bool)
 | 0, _, _, _ => none
 | k + 1, x1, x32, x293000 => if x32 = true then (some (([] : List Int), 0, false)) else ((impl_Table_copied.f x293000).bind fun t300 => ((impl_Table_insert.f k t300 x1).bind fun bt304 => (some (bt304.2, bt304.1, true))))
def impl_InsertKey.f (k : Nat) (l0_0 : List Int) (a1 : Int) : Option (List Int × Int × Bool) := (impl_isTable.f k l0_0).bind fun t294 => (if t294 = true then ((impl_isKey.f a1).bind fun t295 => (if t295 = true then ((slices_Contains_int_int.f k l0_0 a1).bind fun t296 => (if t296 = true then (impl_InsertKey.j0 k a1 true l0_0) else ((impl_Table_keys.f l0_0).bind fun t297 => (impl_InsertKey.j0 k a1 ((wrap64 ((t297.length : Int) + 1)) == (l0_0.length : Int)) l0_0)))) else (impl_InsertKey.j0 k a1 true l0_0))) else (impl_InsertKey.j0 k a1 true l0_0))
theorem impl_InsertKey.mono_l : ∀ k, (∀ y0 y1 y2, LeO (impl_InsertKey.j0 k y0 y1 y2) (impl_InsertKey.j0 (k + 1) y0 y1 y2))
 | 0 => fun _ _ _ r h => by simp [impl_InsertKey.j0] at h
 | k + 1 => by
  have ih0 := impl_InsertKey.mono_l k
  ·intro y0 y1 y2
   unfold impl_InsertKey.j0
   repeat' first
   | (with_reducible exact ih0 _ _ _)
   | (with_reducible exact impl_Table_insert.mono _ _ _)
   | (with_reducible exact impl_isTable.mono _ _)
   | (with_reducible exact slices_Contains_int_int.mono _ _ _)
   | (with_reducible exact LeO.refl _)
   | (with_reducible exact LeO.none _)
   | (with_reducible refine LeO.ite ?_ ?_)
   | (with_reducible refine LeO.bind ?_ (fun _ => ?_))
   | exact ih0 _ _ _
   | exact impl_Table_insert.mono _ _ _
   | exact impl_isTable.mono _ _
   | exact slices_Contains_int_int.mono _ _ _
   | exact LeO.none _
   | refine LeO.ite ?_ ?_
   | refine LeO.bind ?_ (fun _ => ?_)
theorem impl_InsertKey.mono : ∀ a0 a1 k, LeO (impl_InsertKey.f k a0 a1) (impl_InsertKey.f (k + 1) a0 a1) := by
 intro a0 a1 k
 have ih0 := impl_InsertKey.mono_l k
 unfold impl_InsertKey.f
 repeat' first
   | (with_reducible exact ih0 _ _ _)
   | (with_reducible exact impl_Table_insert.mono _ _ _)
   | (with_reducible exact impl_isTable.mono _ _)
   | (with_reducible exact slices_Contains_int_int.mono _ _ _)
   | (with_reducible exact LeO.refl _)
   | (with_reducible exact LeO.none _)
   | (with_reducible refine LeO.ite ?_ ?_)
   | (with_reducible refine LeO.bind ?_ (fun _ => ?_))
   | exact ih0 _ _ _
   | exact impl_Table_insert.mono _ _ _
   | exact impl_isTable.mono _ _
   | exact slices_Contains_int_int.mono _ _ _
   | exact LeO.none _
   | refine LeO.ite ?_ ?_
   | refine LeO.bind ?_ (fun _ => ?_)
def impl_InsertKey.T1 : Bool × List (List Nat × List Nat) := (true, [([], []), ([0], [0]), ([1], [1]), ([2, 1], [2]), ([3], [3]), ([4, 3, 3], [3, 4]), ([5, 3], [3, 5]), ([3, 6], [3, 6]), ([7, 5], [7]), ([8], [8]), ([9, 8], [8, 9]), ([8], [8]), ([10, 11, 8, 8], [8, 10, 11]), ([8, 12], [8, 12]), ([13, 12], [13]), ([14], [14]), ([15, 14, 14], [14, 15]), ([16, 14], [14, 16]), ([17, 14], [14, 17]), ([14], [14]), ([19, 14], [14, 19]), ([20, 14], [14, 20]), ([18, 21, 14], [14, 18, 21]), ([14, 22], [14, 22])])
def impl_InsertKey.B1 : List Nat := [0, 1, 3, 7, 15, 31, 63, 127, 255, 511, 1023, 511, 4095, 8191, 16383, 32767, 65535, 131071, 262143, 32767, 557055, 1605631, 4194303, 8388607]
theorem impl_InsertKey.tab1 : rtab .any (opsOf Try.f6 1) = impl_InsertKey.T1 := by kernel_rfl
theorem impl_InsertKey.bits1 : waitsOk impl_InsertKey.T1.2 impl_InsertKey.B1 = true := by kernel_rfl
set_option maxHeartbeats 8000000 in
set_option maxRecDepth 100000 in
theorem impl_InsertKey.calls (k : Nat) (A0_0 : Option Addr) (c0_0 : Nat) (l0_0 : List Int) (a1 : Int) (r1 : List Int) (r2 : Int) (r3 : Bool) (w : World) (hr0_0 : Kd.C (Kd.int .i64) w A0_0 l0_0.length l0_0) (hc0_0 : l0_0.length ≤ c0_0) (h : impl_InsertKey.f k l0_0 a1 = some (r1, r2, r3)) :
  Calls Try.prog 6 #[.agg #[.slice A0_0 l0_0.length c0_0], .int .i64 a1] w fun e w' => ∃ v0_ : Value, e = .returned (.tuple #[.agg #[v0_], .int .i64 r2, .bool r3]) ∧ Kd.R (Kd.int .i64) 3 w' w.heap.size (fun _ => True) v0_ r1 ∧ Below w.heap.size w w' := by
 have hu26 := Try.underlying26
 have HR0_0 := aS_ hr0_0
 have HC0_0 := aS_ hc0_0
 clear hr0_0 hc0_0
 have HB := aS_ (Below.refl w.heap.size w)
 have H : ((impl_isTable.f k l0_0).bind fun t294 => (if t294 = true then ((impl_isKey.f a1).bind fun t295 => (if t295 = true then ((slices_Contains_int_int.f k l0_0 a1).bind fun t296 => (if t296 = true then (impl_InsertKey.j0 k a1 true l0_0) else ((impl_Table_keys.f l0_0).bind fun t297 => (impl_InsertKey.j0 k a1 ((wrap64 ((t297.length : Int) + 1)) == (l0_0.length : Int)) l0_0)))) else (impl_InsertKey.j0 k a1 true l0_0))) else (impl_InsertKey.j0 k a1 true l0_0))) = some (r1, r2, r3) := h
 clear h
 have HC3 := aS_ H
 clear H
 go_enter Try.func6, Try.ntmps6
 go_upto_region 1 with (first | ((with_reducible refine gate_dst (N := 2) rfl ?_); (try (refine gate_guard (by rfl) ?_; dsimp only)); refine box_event ?hg (N := 2) ?hd (cs := #[.slice A0_0 l0_0.length c0_0]) (t := 26) ?hr ?_; (case hd => rfl); (case hg => rfl); (case hr => first | (go_simp; done) | (go_simp; rfl)); intro gb292 hg w4 hbox hb; have BK292 := aS_ (hbox); have GW292 := gE_ HB hg; have GE292 := gE_ HB hg; replace HB := bE_ HB hb; clear hb hbox hg) | ((with_reducible refine gate_dst (N := 4) rfl ?_); (try (refine gate_guard (by rfl) ?_; dsimp only)); refine box_event ?hg (N := 4) ?hd (cs := #[.slice none 0 0]) (t := 26) ?hr ?_; (case hd => rfl); (case hg => rfl); (case hr => first | (go_simp; done) | (go_simp; rfl)); intro gb293 hg w5 hbox hb; have BK293 := aS_ (hbox); have GW293 := gE_ HB hg; have GE293 := gE_ HB hg; replace HB := bE_ HB hb; have NB292_293 := nL_ BK292 hg; have NB293_292 := nG_ BK292 hg; replace BK292 := kO_ BK292 hb; clear hb hbox hg))
 (try simp only [Act.put, List.setIfInBounds_toArray, List.set_cons_zero, List.set_cons_succ])
 go_cut [32] (fun v32 wc => ∃ (kq : Nat) (x32_2 : Bool), v32 = .bool x32_2 ∧ Aside0 (impl_InsertKey.j0 kq a1 x32_2 l0_0 = some (r1, r2, r3)) ∧ Aside0 (kq ≤ k) ∧ Aside0 (wc.heap[gb292]? = some (.cells #[(.slice A0_0 l0_0.length c0_0)] 26 (0, 0))) ∧ Aside0 (wc.heap[gb293]? = some (.cells #[(.slice none 0 0)] 26 (0, 0))) ∧ Aside0 (Below w.heap.size w wc))
 case first =>
  have H := HC3.out
  clear HC3
  replace H := Option.bind_eq_some_iff.mp H
  obtain ⟨t294, A60, H⟩ := H
  have A6 := aS_ A60
  clear A60
  by_cases c7 : t294 = true
  ·subst c7
   rw [if_pos rfl] at H
   replace H := Option.bind_eq_some_iff.mp H
   obtain ⟨t295, A80, H⟩ := H
   have A8 := aS_ A80
   clear A80
   by_cases c9 : t295 = true
   ·subst c9
    rw [if_pos rfl] at H
    replace H := Option.bind_eq_some_iff.mp H
    obtain ⟨t296, A100, H⟩ := H
    have A10 := aS_ A100
    clear A100
    by_cases c11 : t296 = true
    ·subst c11
     rw [if_pos rfl] at H
     have H' := aS_ H
     clear H
     try go_wp2
     replace BK292 := aS_ (kD_ BK292.out)
     replace BK293 := aS_ (kD_ BK293.out)
     replace HB := aS_ (bD_ HB.out)
     refine start_ (n := 24) (S := fun w' => w'.cell? ⟨gb292, 0, none⟩ = some (.slice A0_0 l0_0.length c0_0)) (ds := []) #[false, false, false, false, false, false, false, false, false, false, false, false, false, false, false, false, false, false, false, false, false, false, false, false] (by kernel_rfl) rfl rfl ((blk_cell BK292.out 0).trans rfl) (fun hHeld => ?_); refine with_tabW impl_InsertKey.tab1 impl_InsertKey.bits1 (fun HT_ HW_ => ?_)
     generalize w5.drew = w12 at BK292 BK293 HB hHeld ⊢
     refine take_ (i := 0) (N := some 9) (v := ?_) (a' := ?_) #[true, false, false, false, false, false, false, false, false, false, false, false, false, false, false, false, false, false, false, false, false, false, false, false] rfl rfl (take_ofW HT_.out HW_.out (by kernel_rfl)) (fun _ _ _ h => h) (Or.inl ⟨by rfl, ?_⟩) hHeld ?_ ?_
     rotate_left
     ·intro w' s0
      go_simp
      with_reducible rfl
     rotate_left
     ·simp only [Act.put, List.setIfInBounds_toArray, List.set_cons_zero, List.set_cons_succ, i64_w, i32_w]
      rfl
     refine one_ (i := 1) (N := some 10) #[true, true, false, false, false, false, false, false, false, false, false, false, false, false, false, false, false, false, false, false, false, false, false, false] rfl rfl (one_of HT_.out (by kernel_rfl)) (by decide) (fun K hK => ?_)
     refine goes_ Try.func25 (by kernel_rfl) rfl #[.agg #[.slice A0_0 l0_0.length c0_0]] (by rfl) rfl rfl aR_ ?_
     with_reducible refine (impl_isTable.calls k _ _ l0_0 true _ ?side1 ?side2 A6.out).mono ?_
     (case side1 => exact cB_ HR0_0 HB)
     (case side2 => exact HC0_0.out)
     rintro e w13 ⟨rfl, hb⟩
     refine ⟨_, rfl, ?_⟩
     replace BK292 := kO_ BK292 hb
     replace BK293 := kO_ BK293 hb
     replace HB := bE_ HB hb
     (try clear hb)
     refine hK.out _ _ ((blk_cell BK292.out 0).trans rfl) (fun hHeld => ?_)
     clear hK K
     refine norm_ (a' := ?_) ?_ ?_
     rotate_left
     ·show Act.put _ (some 10) _ = _
      simp only [Act.put, List.setIfInBounds_toArray, List.set_cons_zero, List.set_cons_succ, i64_w, i32_w]
      rfl
     refine pure_ (i := 2) (N := some 11) (v := ?_) (a' := ?_) #[true, true, true, false, false, false, false, false, false, false, false, false, false, false, false, false, false, false, false, false, false, false, false, false] rfl rfl (any_of HT_.out (by kernel_rfl)) (fun _ _ _ h => h) (Or.inl ⟨by rfl, ?_⟩) ?_ ?_
     rotate_left
     ·intro w'
      go_simp
      with_reducible rfl
     rotate_left
     ·simp only [Act.put, List.setIfInBounds_toArray, List.set_cons_zero, List.set_cons_succ, i64_w, i32_w]
      rfl
     refine pure_ (i := 3) (N := some 12) (v := ?_) (a' := ?_) #[true, true, true, true, false, false, false, false, false, false, false, false, false, false, false, false, false, false, false, false, false, false, false, false] rfl rfl (any_of HT_.out (by kernel_rfl)) (fun _ _ _ h => h) (Or.inl ⟨by rfl, ?_⟩) ?_ ?_
     rotate_left
     ·intro w'
      go_simp
      with_reducible rfl
     rotate_left
     ·simp only [Act.put, List.setIfInBounds_toArray, List.set_cons_zero, List.set_cons_succ, i64_w, i32_w]
      rfl
     refine pure_ (i := 4) (N := some 13) (v := ?_) (a' := ?_) #[true, true, true, true, true, false, false, false, false, false, false, false, false, false, false, false, false, false, false, false, false, false, false, false] rfl rfl (any_of HT_.out (by kernel_rfl)) (fun _ _ _ h => h) (Or.inl ⟨by rfl, ?_⟩) ?_ ?_
     rotate_left
     ·intro w'
      go_simp
      with_reducible rfl
     rotate_left
     ·simp only [Act.put, List.setIfInBounds_toArray, List.set_cons_zero, List.set_cons_succ, i64_w, i32_w]
      rfl
     refine one_ (i := 5) (N := some 14) #[true, true, true, true, true, true, false, false, false, false, false, false, false, false, false, false, false, false, false, false, false, false, false, false] rfl rfl (one_of HT_.out (by kernel_rfl)) (by decide) (fun K hK => ?_)
     refine goes_ Try.func26 (by kernel_rfl) rfl #[.int .i64 a1] (by rfl) rfl rfl aR_ ?_
     with_reducible refine (impl_isKey.calls a1 true _ A8.out).mono ?_
     rintro e w' ⟨rfl, ⟨nd, rfl⟩⟩
     refine ⟨_, rfl, ?_⟩
     refine hK.out _ _ ((blk_cell BK292.out 0).trans rfl) (fun hHeld => ?_)
     clear hK K
     refine norm_ (a' := ?_) ?_ ?_
     rotate_left
     ·show Act.put _ (some 14) _ = _
      simp only [Act.put, List.setIfInBounds_toArray, List.set_cons_zero, List.set_cons_succ, i64_w, i32_w]
      rfl
     refine pure_ (i := 6) (N := some 15) (v := ?_) (a' := ?_) #[true, true, true, true, true, true, true, false, false, false, false, false, false, false, false, false, false, false, false, false, false, false, false, false] rfl rfl (any_of HT_.out (by kernel_rfl)) (fun _ _ _ h => h) (Or.inl ⟨by rfl, ?_⟩) ?_ ?_
     rotate_left
     ·intro w'
      go_simp
      with_reducible rfl
     rotate_left
     ·simp only [Act.put, List.setIfInBounds_toArray, List.set_cons_zero, List.set_cons_succ, i64_w, i32_w]
      rfl
     refine pure_ (i := 7) (N := some 16) (v := ?_) (a' := ?_) #[true, true, true, true, true, true, true, true, false, false, false, false, false, false, false, false, false, false, false, false, false, false, false, false] rfl rfl (any_of HT_.out (by kernel_rfl)) (fun _ _ _ h => h) (Or.inl ⟨by rfl, ?_⟩) ?_ ?_
     rotate_left
     ·intro w'
      go_simp
      with_reducible rfl
     rotate_left
     ·simp only [Act.put, List.setIfInBounds_toArray, List.set_cons_zero, List.set_cons_succ, i64_w, i32_w]
      rfl
     refine pure_ (i := 8) (N := some 17) (v := ?_) (a' := ?_) #[true, true, true, true, true, true, true, true, true, false, false, false, false, false, false, false, false, false, false, false, false, false, false, false] rfl rfl (any_of HT_.out (by kernel_rfl)) (fun _ _ _ h => h) (Or.inl ⟨by rfl, ?_⟩) ?_ ?_
     rotate_left
     ·intro w'
      go_simp
      with_reducible rfl
     rotate_left
     ·simp only [Act.put, List.setIfInBounds_toArray, List.set_cons_zero, List.set_cons_succ, i64_w, i32_w]
      rfl
     refine pure_ (i := 9) (N := some 18) (v := ?_) (a' := ?_) #[true, true, true, true, true, true, true, true, true, true, false, false, false, false, false, false, false, false, false, false, false, false, false, false] rfl rfl (any_of HT_.out (by kernel_rfl)) (fun _ _ _ h => h) (Or.inl ⟨by rfl, ?_⟩) ?_ ?_
     rotate_left
     ·intro w'
      go_simp
      with_reducible rfl
     rotate_left
     ·simp only [Act.put, List.setIfInBounds_toArray, List.set_cons_zero, List.set_cons_succ, i64_w, i32_w]
      rfl
     refine pure_ (i := 11) (N := some 20) (v := ?_) (a' := ?_) #[true, true, true, true, true, true, true, true, true, true, false, true, false, false, false, false, false, false, false, false, false, false, false, false] rfl rfl (any_of HT_.out (by kernel_rfl)) (fun _ _ _ h => h) (Or.inl ⟨by rfl, ?_⟩) ?_ ?_
     rotate_left
     ·intro w'
      go_simp
      with_reducible rfl
     rotate_left
     ·simp only [Act.put, List.setIfInBounds_toArray, List.set_cons_zero, List.set_cons_succ, i64_w, i32_w]
      rfl
     refine take_ (i := 10) (N := some 19) (v := ?_) (a' := ?_) #[true, true, true, true, true, true, true, true, true, true, true, true, false, false, false, false, false, false, false, false, false, false, false, false] rfl rfl (take_ofW HT_.out HW_.out (by kernel_rfl)) (fun _ _ _ h => h) (Or.inl ⟨by rfl, ?_⟩) hHeld ?_ ?_
     rotate_left
     ·intro w' s0
      go_simp
      with_reducible rfl
     rotate_left
     ·simp only [Act.put, List.setIfInBounds_toArray, List.set_cons_zero, List.set_cons_succ, i64_w, i32_w]
      rfl
     refine one_ (i := 12) (N := some 21) #[true, true, true, true, true, true, true, true, true, true, true, true, true, false, false, false, false, false, false, false, false, false, false, false] rfl rfl (one_of HT_.out (by kernel_rfl)) (by decide) (fun K hK => ?_)
     refine goes_ Try.func27 (by kernel_rfl) rfl #[.slice A0_0 l0_0.length c0_0, .int .i64 a1] (by rfl) rfl rfl aR_ ?_
     with_reducible refine (slices_Contains_int_int.calls k _ _ l0_0 a1 true _ ?side1 ?side2 A10.out).mono ?_
     (case side1 => exact cD_ HR0_0 HB)
     (case side2 => exact HC0_0.out)
     rintro e w' ⟨rfl, ⟨nd, rfl⟩⟩
     refine ⟨_, rfl, ?_⟩
     refine hK.out _ _ ((blk_cell BK292.out 0).trans rfl) (fun hHeld => ?_)
     clear hK K
     refine norm_ (a' := ?_) ?_ ?_
     rotate_left
     ·show Act.put _ (some 21) _ = _
      simp only [Act.put, List.setIfInBounds_toArray, List.set_cons_zero, List.set_cons_succ, i64_w, i32_w]
      rfl
     refine pure_ (i := 13) (N := some 22) (v := ?_) (a' := ?_) #[true, true, true, true, true, true, true, true, true, true, true, true, true, true, false, false, false, false, false, false, false, false, false, false] rfl rfl (any_of HT_.out (by kernel_rfl)) (fun _ _ _ h => h) (Or.inl ⟨by rfl, ?_⟩) ?_ ?_
     rotate_left
     ·intro w'
      go_simp
      with_reducible rfl
     rotate_left
     ·simp only [Act.put, List.setIfInBounds_toArray, List.set_cons_zero, List.set_cons_succ, i64_w, i32_w]
      rfl
     refine pure_ (i := 14) (N := some 23) (v := ?_) (a' := ?_) #[true, true, true, true, true, true, true, true, true, true, true, true, true, true, true, false, false, false, false, false, false, false, false, false] rfl rfl (any_of HT_.out (by kernel_rfl)) (fun _ _ _ h => h) (Or.inl ⟨by rfl, ?_⟩) ?_ ?_
     rotate_left
     ·intro w'
      go_simp
      with_reducible rfl
     rotate_left
     ·simp only [Act.put, List.setIfInBounds_toArray, List.set_cons_zero, List.set_cons_succ, i64_w, i32_w]
      rfl
     refine pure_ (i := 15) (N := some 24) (v := undef) (a' := ?_) #[true, true, true, true, true, true, true, true, true, true, true, true, true, true, true, true, false, false, false, false, false, false, false, false] rfl rfl (any_of HT_.out (by kernel_rfl)) (fun _ _ _ h => h) (Or.inr ⟨by rfl, rfl⟩) ?_ ?_
     rotate_left
     ·simp only [Act.put, List.setIfInBounds_toArray, List.set_cons_zero, List.set_cons_succ, i64_w, i32_w]
      rfl
     refine pure_ (i := 16) (N := some 25) (v := undef) (a' := ?_) #[true, true, true, true, true, true, true, true, true, true, true, true, true, true, true, true, true, false, false, false, false, false, false, false] rfl rfl (any_of HT_.out (by kernel_rfl)) (fun _ _ _ h => h) (Or.inr ⟨by rfl, rfl⟩) ?_ ?_
     rotate_left
     ·simp only [Act.put, List.setIfInBounds_toArray, List.set_cons_zero, List.set_cons_succ, i64_w, i32_w]
      rfl
     refine pure_ (i := 17) (N := some 26) (v := undef) (a' := ?_) #[true, true, true, true, true, true, true, true, true, true, true, true, true, true, true, true, true, true, false, false, false, false, false, false] rfl rfl (any_of HT_.out (by kernel_rfl)) (fun _ _ _ h => h) (Or.inr ⟨by rfl, rfl⟩) ?_ ?_
     rotate_left
     ·simp only [Act.put, List.setIfInBounds_toArray, List.set_cons_zero, List.set_cons_succ, i64_w, i32_w]
      rfl
     refine pure_ (i := 18) (N := some 27) (v := undef) (a' := ?_) #[true, true, true, true, true, true, true, true, true, true, true, true, true, true, true, true, true, true, true, false, false, false, false, false] rfl rfl (any_of HT_.out (by kernel_rfl)) (fun _ _ _ h => h) (Or.inr ⟨by rfl, rfl⟩) ?_ ?_
     rotate_left
     ·simp only [Act.put, List.setIfInBounds_toArray, List.set_cons_zero, List.set_cons_succ, i64_w, i32_w]
      rfl
     refine pure_ (i := 19) (N := some 28) (v := undef) (a' := ?_) #[true, true, true, true, true, true, true, true, true, true, true, true, true, true, true, true, true, true, true, true, false, false, false, false] rfl rfl (any_of HT_.out (by kernel_rfl)) (fun _ _ _ h => h) (Or.inr ⟨by rfl, rfl⟩) ?_ ?_
     rotate_left
     ·simp only [Act.put, List.setIfInBounds_toArray, List.set_cons_zero, List.set_cons_succ, i64_w, i32_w]
      rfl
     refine pure_ (i := 20) (N := some 29) (v := undef) (a' := ?_) #[true, true, true, true, true, true, true, true, true, true, true, true, true, true, true, true, true, true, true, true, true, false, false, false] rfl rfl (any_of HT_.out (by kernel_rfl)) (fun _ _ _ h => h) (Or.inr ⟨by rfl, rfl⟩) ?_ ?_
     rotate_left
     ·simp only [Act.put, List.setIfInBounds_toArray, List.set_cons_zero, List.set_cons_succ, i64_w, i32_w]
      rfl
     refine pure_ (i := 21) (N := some 30) (v := undef) (a' := ?_) #[true, true, true, true, true, true, true, true, true, true, true, true, true, true, true, true, true, true, true, true, true, true, false, false] rfl rfl (any_of HT_.out (by kernel_rfl)) (fun _ _ _ h => h) (Or.inr ⟨by rfl, rfl⟩) ?_ ?_
     rotate_left
     ·simp only [Act.put, List.setIfInBounds_toArray, List.set_cons_zero, List.set_cons_succ, i64_w, i32_w]
      rfl
     refine pure_ (i := 22) (N := some 31) (v := undef) (a' := ?_) #[true, true, true, true, true, true, true, true, true, true, true, true, true, true, true, true, true, true, true, true, true, true, true, false] rfl rfl (any_of HT_.out (by kernel_rfl)) (fun _ _ _ h => h) (Or.inr ⟨by rfl, rfl⟩) ?_ ?_
     rotate_left
     ·simp only [Act.put, List.setIfInBounds_toArray, List.set_cons_zero, List.set_cons_succ, i64_w, i32_w]
      rfl
     refine pure_ (i := 23) (N := some 32) (v := ?_) (a' := ?_) #[true, true, true, true, true, true, true, true, true, true, true, true, true, true, true, true, true, true, true, true, true, true, true, true] rfl rfl (any_of HT_.out (by kernel_rfl)) (fun _ _ _ h => h) (Or.inl ⟨by rfl, ?_⟩) ?_ ?_
     rotate_left
     ·intro w'
      go_simp
      with_reducible rfl
     rotate_left
     ·simp only [Act.put, List.setIfInBounds_toArray, List.set_cons_zero, List.set_cons_succ, i64_w, i32_w]
      rfl
     refine done_ (done_of HT_.out (by kernel_rfl)) ?_
     try go_wp2
     go_meet
     case rel => exact ⟨_, (true), sR_, H', ⟨by first | omega | exact Nat.le_refl _⟩, ⟨kk_ BK292⟩, ⟨kk_ BK293⟩, ⟨bb_ HB⟩⟩
    ·replace c11 := Bool.eq_false_iff.mpr c11
     subst c11
     rw [if_neg (show ¬ (false = true) by decide)] at H
     replace H := Option.bind_eq_some_iff.mp H
     obtain ⟨t297, A140, H⟩ := H
     have A14 := aS_ A140
     clear A140
     have H' := aS_ H
     clear H
     try go_wp2
     replace BK292 := aS_ (kD_ BK292.out)
     replace BK293 := aS_ (kD_ BK293.out)
     replace HB := aS_ (bD_ HB.out)
     refine start_ (n := 24) (S := fun w' => w'.cell? ⟨gb292, 0, none⟩ = some (.slice A0_0 l0_0.length c0_0)) (ds := []) #[false, false, false, false, false, false, false, false, false, false, false, false, false, false, false, false, false, false, false, false, false, false, false, false] (by kernel_rfl) rfl rfl ((blk_cell BK292.out 0).trans rfl) (fun hHeld => ?_); refine with_tabW impl_InsertKey.tab1 impl_InsertKey.bits1 (fun HT_ HW_ => ?_)
     generalize w5.drew = w15 at BK292 BK293 HB hHeld ⊢
     refine take_ (i := 0) (N := some 9) (v := ?_) (a' := ?_) #[true, false, false, false, false, false, false, false, false, false, false, false, false, false, false, false, false, false, false, false, false, false, false, false] rfl rfl (take_ofW HT_.out HW_.out (by kernel_rfl)) (fun _ _ _ h => h) (Or.inl ⟨by rfl, ?_⟩) hHeld ?_ ?_
     rotate_left
     ·intro w' s0
      go_simp
      with_reducible rfl
     rotate_left
     ·simp only [Act.put, List.setIfInBounds_toArray, List.set_cons_zero, List.set_cons_succ, i64_w, i32_w]
      rfl
     refine one_ (i := 1) (N := some 10) #[true, true, false, false, false, false, false, false, false, false, false, false, false, false, false, false, false, false, false, false, false, false, false, false] rfl rfl (one_of HT_.out (by kernel_rfl)) (by decide) (fun K hK => ?_)
     refine goes_ Try.func25 (by kernel_rfl) rfl #[.agg #[.slice A0_0 l0_0.length c0_0]] (by rfl) rfl rfl aR_ ?_
     with_reducible refine (impl_isTable.calls k _ _ l0_0 true _ ?side1 ?side2 A6.out).mono ?_
     (case side1 => exact cB_ HR0_0 HB)
     (case side2 => exact HC0_0.out)
     rintro e w16 ⟨rfl, hb⟩
     refine ⟨_, rfl, ?_⟩
     replace BK292 := kO_ BK292 hb
     replace BK293 := kO_ BK293 hb
     replace HB := bE_ HB hb
     (try clear hb)
     refine hK.out _ _ ((blk_cell BK292.out 0).trans rfl) (fun hHeld => ?_)
     clear hK K
     refine norm_ (a' := ?_) ?_ ?_
     rotate_left
     ·show Act.put _ (some 10) _ = _
      simp only [Act.put, List.setIfInBounds_toArray, List.set_cons_zero, List.set_cons_succ, i64_w, i32_w]
      rfl
     refine pure_ (i := 2) (N := some 11) (v := ?_) (a' := ?_) #[true, true, true, false, false, false, false, false, false, false, false, false, false, false, false, false, false, false, false, false, false, false, false, false] rfl rfl (any_of HT_.out (by kernel_rfl)) (fun _ _ _ h => h) (Or.inl ⟨by rfl, ?_⟩) ?_ ?_
     rotate_left
     ·intro w'
      go_simp
      with_reducible rfl
     rotate_left
     ·simp only [Act.put, List.setIfInBounds_toArray, List.set_cons_zero, List.set_cons_succ, i64_w, i32_w]
      rfl
     refine pure_ (i := 3) (N := some 12) (v := ?_) (a' := ?_) #[true, true, true, true, false, false, false, false, false, false, false, false, false, false, false, false, false, false, false, false, false, false, false, false] rfl rfl (any_of HT_.out (by kernel_rfl)) (fun _ _ _ h => h) (Or.inl ⟨by rfl, ?_⟩) ?_ ?_
     rotate_left
     ·intro w'
      go_simp
      with_reducible rfl
     rotate_left
     ·simp only [Act.put, List.setIfInBounds_toArray, List.set_cons_zero, List.set_cons_succ, i64_w, i32_w]
      rfl
     refine pure_ (i := 4) (N := some 13) (v := ?_) (a' := ?_) #[true, true, true, true, true, false, false, false, false, false, false, false, false, false, false, false, false, false, false, false, false, false, false, false] rfl rfl (any_of HT_.out (by kernel_rfl)) (fun _ _ _ h => h) (Or.inl ⟨by rfl, ?_⟩) ?_ ?_
     rotate_left
     ·intro w'
      go_simp
      with_reducible rfl
     rotate_left
     ·simp only [Act.put, List.setIfInBounds_toArray, List.set_cons_zero, List.set_cons_succ, i64_w, i32_w]
      rfl
     refine one_ (i := 5) (N := some 14) #[true, true, true, true, true, true, false, false, false, false, false, false, false, false, false, false, false, false, false, false, false, false, false, false] rfl rfl (one_of HT_.out (by kernel_rfl)) (by decide) (fun K hK => ?_)
     refine goes_ Try.func26 (by kernel_rfl) rfl #[.int .i64 a1] (by rfl) rfl rfl aR_ ?_
     with_reducible refine (impl_isKey.calls a1 true _ A8.out).mono ?_
     rintro e w' ⟨rfl, ⟨nd, rfl⟩⟩
     refine ⟨_, rfl, ?_⟩
     refine hK.out _ _ ((blk_cell BK292.out 0).trans rfl) (fun hHeld => ?_)
     clear hK K
     refine norm_ (a' := ?_) ?_ ?_
     rotate_left
     ·show Act.put _ (some 14) _ = _
      simp only [Act.put, List.setIfInBounds_toArray, List.set_cons_zero, List.set_cons_succ, i64_w, i32_w]
      rfl
     refine pure_ (i := 6) (N := some 15) (v := ?_) (a' := ?_) #[true, true, true, true, true, true, true, false, false, false, false, false, false, false, false, false, false, false, false, false, false, false, false, false] rfl rfl (any_of HT_.out (by kernel_rfl)) (fun _ _ _ h => h) (Or.inl ⟨by rfl, ?_⟩) ?_ ?_
     rotate_left
     ·intro w'
      go_simp
      with_reducible rfl
     rotate_left
     ·simp only [Act.put, List.setIfInBounds_toArray, List.set_cons_zero, List.set_cons_succ, i64_w, i32_w]
      rfl
     refine pure_ (i := 7) (N := some 16) (v := ?_) (a' := ?_) #[true, true, true, true, true, true, true, true, false, false, false, false, false, false, false, false, false, false, false, false, false, false, false, false] rfl rfl (any_of HT_.out (by kernel_rfl)) (fun _ _ _ h => h) (Or.inl ⟨by rfl, ?_⟩) ?_ ?_
     rotate_left
     ·intro w'
      go_simp
      with_reducible rfl
     rotate_left
     ·simp only [Act.put, List.setIfInBounds_toArray, List.set_cons_zero, List.set_cons_succ, i64_w, i32_w]
      rfl
     refine pure_ (i := 8) (N := some 17) (v := ?_) (a' := ?_) #[true, true, true, true, true, true, true, true, true, false, false, false, false, false, false, false, false, false, false, false, false, false, false, false] rfl rfl (any_of HT_.out (by kernel_rfl)) (fun _ _ _ h => h) (Or.inl ⟨by rfl, ?_⟩) ?_ ?_
     rotate_left
     ·intro w'
      go_simp
      with_reducible rfl
     rotate_left
     ·simp only [Act.put, List.setIfInBounds_toArray, List.set_cons_zero, List.set_cons_succ, i64_w, i32_w]
      rfl
     refine pure_ (i := 9) (N := some 18) (v := ?_) (a' := ?_) #[true, true, true, true, true, true, true, true, true, true, false, false, false, false, false, false, false, false, false, false, false, false, false, false] rfl rfl (any_of HT_.out (by kernel_rfl)) (fun _ _ _ h => h) (Or.inl ⟨by rfl, ?_⟩) ?_ ?_
     rotate_left
     ·intro w'
      go_simp
      with_reducible rfl
     rotate_left
     ·simp only [Act.put, List.setIfInBounds_toArray, List.set_cons_zero, List.set_cons_succ, i64_w, i32_w]
      rfl
     refine pure_ (i := 11) (N := some 20) (v := ?_) (a' := ?_) #[true, true, true, true, true, true, true, true, true, true, false, true, false, false, false, false, false, false, false, false, false, false, false, false] rfl rfl (any_of HT_.out (by kernel_rfl)) (fun _ _ _ h => h) (Or.inl ⟨by rfl, ?_⟩) ?_ ?_
     rotate_left
     ·intro w'
      go_simp
      with_reducible rfl
     rotate_left
     ·simp only [Act.put, List.setIfInBounds_toArray, List.set_cons_zero, List.set_cons_succ, i64_w, i32_w]
      rfl
     refine take_ (i := 10) (N := some 19) (v := ?_) (a' := ?_) #[true, true, true, true, true, true, true, true, true, true, true, true, false, false, false, false, false, false, false, false, false, false, false, false] rfl rfl (take_ofW HT_.out HW_.out (by kernel_rfl)) (fun _ _ _ h => h) (Or.inl ⟨by rfl, ?_⟩) hHeld ?_ ?_
     rotate_left
     ·intro w' s0
      go_simp
      with_reducible rfl
     rotate_left
     ·simp only [Act.put, List.setIfInBounds_toArray, List.set_cons_zero, List.set_cons_succ, i64_w, i32_w]
      rfl
     refine one_ (i := 12) (N := some 21) #[true, true, true, true, true, true, true, true, true, true, true, true, true, false, false, false, false, false, false, false, false, false, false, false] rfl rfl (one_of HT_.out (by kernel_rfl)) (by decide) (fun K hK => ?_)
     refine goes_ Try.func27 (by kernel_rfl) rfl #[.slice A0_0 l0_0.length c0_0, .int .i64 a1] (by rfl) rfl rfl aR_ ?_
     with_reducible refine (slices_Contains_int_int.calls k _ _ l0_0 a1 false _ ?side1 ?side2 A10.out).mono ?_
     (case side1 => exact cD_ HR0_0 HB)
     (case side2 => exact HC0_0.out)
     rintro e w' ⟨rfl, ⟨nd, rfl⟩⟩
     refine ⟨_, rfl, ?_⟩
     refine hK.out _ _ ((blk_cell BK292.out 0).trans rfl) (fun hHeld => ?_)
     clear hK K
     refine norm_ (a' := ?_) ?_ ?_
     rotate_left
     ·show Act.put _ (some 21) _ = _
      simp only [Act.put, List.setIfInBounds_toArray, List.set_cons_zero, List.set_cons_succ, i64_w, i32_w]
      rfl
     refine pure_ (i := 13) (N := some 22) (v := ?_) (a' := ?_) #[true, true, true, true, true, true, true, true, true, true, true, true, true, true, false, false, false, false, false, false, false, false, false, false] rfl rfl (any_of HT_.out (by kernel_rfl)) (fun _ _ _ h => h) (Or.inl ⟨by rfl, ?_⟩) ?_ ?_
     rotate_left
     ·intro w'
      go_simp
      with_reducible rfl
     rotate_left
     ·simp only [Act.put, List.setIfInBounds_toArray, List.set_cons_zero, List.set_cons_succ, i64_w, i32_w]
      rfl
     refine pure_ (i := 14) (N := some 23) (v := ?_) (a' := ?_) #[true, true, true, true, true, true, true, true, true, true, true, true, true, true, true, false, false, false, false, false, false, false, false, false] rfl rfl (any_of HT_.out (by kernel_rfl)) (fun _ _ _ h => h) (Or.inl ⟨by rfl, ?_⟩) ?_ ?_
     rotate_left
     ·intro w'
      go_simp
      with_reducible rfl
     rotate_left
     ·simp only [Act.put, List.setIfInBounds_toArray, List.set_cons_zero, List.set_cons_succ, i64_w, i32_w]
      rfl
     refine pure_ (i := 19) (N := some 28) (v := ?_) (a' := ?_) #[true, true, true, true, true, true, true, true, true, true, true, true, true, true, true, false, false, false, false, true, false, false, false, false] rfl rfl (any_of HT_.out (by kernel_rfl)) (fun _ _ _ h => h) (Or.inl ⟨by rfl, ?_⟩) ?_ ?_
     rotate_left
     ·intro w'
      go_simp
      with_reducible rfl
     rotate_left
     ·simp only [Act.put, List.setIfInBounds_toArray, List.set_cons_zero, List.set_cons_succ, i64_w, i32_w]
      rfl
     refine take_ (i := 15) (N := some 24) (v := ?_) (a' := ?_) #[true, true, true, true, true, true, true, true, true, true, true, true, true, true, true, true, false, false, false, true, false, false, false, false] rfl rfl (take_ofW HT_.out HW_.out (by kernel_rfl)) (fun _ _ _ h => h) (Or.inl ⟨by rfl, ?_⟩) hHeld ?_ ?_
     rotate_left
     ·intro w' s0
      go_simp
      with_reducible rfl
     rotate_left
     ·simp only [Act.put, List.setIfInBounds_toArray, List.set_cons_zero, List.set_cons_succ, i64_w, i32_w]
      rfl
     refine take_ (i := 20) (N := some 29) (v := ?_) (a' := ?_) #[true, true, true, true, true, true, true, true, true, true, true, true, true, true, true, true, false, false, false, true, true, false, false, false] rfl rfl (take_ofW HT_.out HW_.out (by kernel_rfl)) (fun _ _ _ h => h) (Or.inl ⟨by rfl, ?_⟩) hHeld ?_ ?_
     rotate_left
     ·intro w' s0
      go_simp
      with_reducible rfl
     rotate_left
     ·simp only [Act.put, List.setIfInBounds_toArray, List.set_cons_zero, List.set_cons_succ, i64_w, i32_w]
      rfl
     refine pure_ (i := 21) (N := some 30) (v := ?_) (a' := ?_) #[true, true, true, true, true, true, true, true, true, true, true, true, true, true, true, true, false, false, false, true, true, true, false, false] rfl rfl (any_of HT_.out (by kernel_rfl)) (fun _ _ _ h => h) (Or.inl ⟨by rfl, ?_⟩) ?_ ?_
     rotate_left
     ·intro w'
      go_simp
      with_reducible rfl
     rotate_left
     ·simp only [Act.put, List.setIfInBounds_toArray, List.set_cons_zero, List.set_cons_succ, i64_w, i32_w]
      rfl
     refine one_ (i := 16) (N := some 25) #[true, true, true, true, true, true, true, true, true, true, true, true, true, true, true, true, true, false, false, true, true, true, false, false] rfl rfl (one_of HT_.out (by kernel_rfl)) (by decide) (fun K hK => ?_)
     refine goes_ Try.func28 (by kernel_rfl) rfl #[.agg #[.slice A0_0 l0_0.length c0_0]] (by rfl) rfl rfl aR_ ?_
     with_reducible refine (impl_Table_keys.calls _ _ l0_0 t297 _ ?side1 ?side2 A14.out).mono ?_
     (case side1 => exact cD_ HR0_0 HB)
     (case side2 => exact HC0_0.out)
     rintro e w17 ⟨v298, rfl, ho0, hb⟩
     refine ⟨_, rfl, ?_⟩
     have HO299 := aS_ (Kd.R_lower ho0 (below_size (bb_ HB)))
     replace BK292 := kO_ BK292 hb
     replace BK293 := kO_ BK293 hb
     replace HB := bE_ HB hb
     (try clear hb)
     (try clear ho0)
     obtain ⟨Ao18, co18, eo18⟩ := Kd.R_slice HO299.out
     (first | subst eo18 | (injection eo18 with f1_ f2_ f3_; have f4_ := f1_.symm; have f5_ := f3_.symm; clear f1_ f2_ f3_; subst f4_; subst f5_))
     refine hK.out _ _ ((blk_cell BK292.out 0).trans rfl) (fun hHeld => ?_)
     clear hK K
     refine norm_ (a' := ?_) ?_ ?_
     rotate_left
     ·show Act.put _ (some 25) _ = _
      simp only [Act.put, List.setIfInBounds_toArray, List.set_cons_zero, List.set_cons_succ, i64_w, i32_w]
      rfl
     refine pure_ (i := 17) (N := some 26) (v := ?_) (a' := ?_) #[true, true, true, true, true, true, true, true, true, true, true, true, true, true, true, true, true, true, false, true, true, true, false, false] rfl rfl (any_of HT_.out (by kernel_rfl)) (fun _ _ _ h => h) (Or.inl ⟨by rfl, ?_⟩) ?_ ?_
     rotate_left
     ·intro w'
      go_simp
      with_reducible rfl
     rotate_left
     ·simp only [Act.put, List.setIfInBounds_toArray, List.set_cons_zero, List.set_cons_succ, i64_w, i32_w]
      rfl
     refine pure_ (i := 18) (N := some 27) (v := ?_) (a' := ?_) #[true, true, true, true, true, true, true, true, true, true, true, true, true, true, true, true, true, true, true, true, true, true, false, false] rfl rfl (any_of HT_.out (by kernel_rfl)) (fun _ _ _ h => h) (Or.inl ⟨by rfl, ?_⟩) ?_ ?_
     rotate_left
     ·intro w'
      go_simp
      with_reducible rfl
     rotate_left
     ·simp only [Act.put, List.setIfInBounds_toArray, List.set_cons_zero, List.set_cons_succ, i64_w, i32_w]
      rfl
     refine pure_ (i := 22) (N := some 31) (v := ?_) (a' := ?_) #[true, true, true, true, true, true, true, true, true, true, true, true, true, true, true, true, true, true, true, true, true, true, true, false] rfl rfl (any_of HT_.out (by kernel_rfl)) (fun _ _ _ h => h) (Or.inl ⟨by rfl, ?_⟩) ?_ ?_
     rotate_left
     ·intro w'
      go_simp
      with_reducible rfl
     rotate_left
     ·simp only [Act.put, List.setIfInBounds_toArray, List.set_cons_zero, List.set_cons_succ, i64_w, i32_w]
      rfl
     refine pure_ (i := 23) (N := some 32) (v := ?_) (a' := ?_) #[true, true, true, true, true, true, true, true, true, true, true, true, true, true, true, true, true, true, true, true, true, true, true, true] rfl rfl (any_of HT_.out (by kernel_rfl)) (fun _ _ _ h => h) (Or.inl ⟨by rfl, ?_⟩) ?_ ?_
     rotate_left
     ·intro w'
      go_simp
      with_reducible rfl
     rotate_left
     ·simp only [Act.put, List.setIfInBounds_toArray, List.set_cons_zero, List.set_cons_succ, i64_w, i32_w]
      rfl
     refine done_ (done_of HT_.out (by kernel_rfl)) ?_
     try go_wp2
     go_meet
     case rel => exact ⟨_, (((wrap64 ((t297.length : Int) + 1)) == (l0_0.length : Int))), sR_, H', ⟨by first | omega | exact Nat.le_refl _⟩, ⟨kk_ BK292⟩, ⟨kk_ BK293⟩, ⟨bb_ HB⟩⟩
   ·replace c9 := Bool.eq_false_iff.mpr c9
    subst c9
    rw [if_neg (show ¬ (false = true) by decide)] at H
    have H' := aS_ H
    clear H
    try go_wp2
    replace BK292 := aS_ (kD_ BK292.out)
    replace BK293 := aS_ (kD_ BK293.out)
    replace HB := aS_ (bD_ HB.out)
    refine start_ (n := 24) (S := fun w' => w'.cell? ⟨gb292, 0, none⟩ = some (.slice A0_0 l0_0.length c0_0)) (ds := []) #[false, false, false, false, false, false, false, false, false, false, false, false, false, false, false, false, false, false, false, false, false, false, false, false] (by kernel_rfl) rfl rfl ((blk_cell BK292.out 0).trans rfl) (fun hHeld => ?_); refine with_tabW impl_InsertKey.tab1 impl_InsertKey.bits1 (fun HT_ HW_ => ?_)
    generalize w5.drew = w19 at BK292 BK293 HB hHeld ⊢
    refine take_ (i := 0) (N := some 9) (v := ?_) (a' := ?_) #[true, false, false, false, false, false, false, false, false, false, false, false, false, false, false, false, false, false, false, false, false, false, false, false] rfl rfl (take_ofW HT_.out HW_.out (by kernel_rfl)) (fun _ _ _ h => h) (Or.inl ⟨by rfl, ?_⟩) hHeld ?_ ?_
    rotate_left
    ·intro w' s0
     go_simp
     with_reducible rfl
    rotate_left
    ·simp only [Act.put, List.setIfInBounds_toArray, List.set_cons_zero, List.set_cons_succ, i64_w, i32_w]
     rfl
    refine one_ (i := 1) (N := some 10) #[true, true, false, false, false, false, false, false, false, false, false, false, false, false, false, false, false, false, false, false, false, false, false, false] rfl rfl (one_of HT_.out (by kernel_rfl)) (by decide) (fun K hK => ?_)
    refine goes_ Try.func25 (by kernel_rfl) rfl #[.agg #[.slice A0_0 l0_0.length c0_0]] (by rfl) rfl rfl aR_ ?_
    with_reducible refine (impl_isTable.calls k _ _ l0_0 true _ ?side1 ?side2 A6.out).mono ?_
    (case side1 => exact cB_ HR0_0 HB)
    (case side2 => exact HC0_0.out)
    rintro e w20 ⟨rfl, hb⟩
    refine ⟨_, rfl, ?_⟩
    replace BK292 := kO_ BK292 hb
    replace BK293 := kO_ BK293 hb
    replace HB := bE_ HB hb
    (try clear hb)
    refine hK.out _ _ ((blk_cell BK292.out 0).trans rfl) (fun hHeld => ?_)
    clear hK K
    refine norm_ (a' := ?_) ?_ ?_
    rotate_left
    ·show Act.put _ (some 10) _ = _
     simp only [Act.put, List.setIfInBounds_toArray, List.set_cons_zero, List.set_cons_succ, i64_w, i32_w]
     rfl
    refine pure_ (i := 2) (N := some 11) (v := ?_) (a' := ?_) #[true, true, true, false, false, false, false, false, false, false, false, false, false, false, false, false, false, false, false, false, false, false, false, false] rfl rfl (any_of HT_.out (by kernel_rfl)) (fun _ _ _ h => h) (Or.inl ⟨by rfl, ?_⟩) ?_ ?_
    rotate_left
    ·intro w'
     go_simp
     with_reducible rfl
    rotate_left
    ·simp only [Act.put, List.setIfInBounds_toArray, List.set_cons_zero, List.set_cons_succ, i64_w, i32_w]
     rfl
    refine pure_ (i := 3) (N := some 12) (v := ?_) (a' := ?_) #[true, true, true, true, false, false, false, false, false, false, false, false, false, false, false, false, false, false, false, false, false, false, false, false] rfl rfl (any_of HT_.out (by kernel_rfl)) (fun _ _ _ h => h) (Or.inl ⟨by rfl, ?_⟩) ?_ ?_
    rotate_left
    ·intro w'
     go_simp
     with_reducible rfl
    rotate_left
    ·simp only [Act.put, List.setIfInBounds_toArray, List.set_cons_zero, List.set_cons_succ, i64_w, i32_w]
     rfl
    refine pure_ (i := 4) (N := some 13) (v := ?_) (a' := ?_) #[true, true, true, true, true, false, false, false, false, false, false, false, false, false, false, false, false, false, false, false, false, false, false, false] rfl rfl (any_of HT_.out (by kernel_rfl)) (fun _ _ _ h => h) (Or.inl ⟨by rfl, ?_⟩) ?_ ?_
    rotate_left
    ·intro w'
     go_simp
     with_reducible rfl
    rotate_left
    ·simp only [Act.put, List.setIfInBounds_toArray, List.set_cons_zero, List.set_cons_succ, i64_w, i32_w]
     rfl
    refine one_ (i := 5) (N := some 14) #[true, true, true, true, true, true, false, false, false, false, false, false, false, false, false, false, false, false, false, false, false, false, false, false] rfl rfl (one_of HT_.out (by kernel_rfl)) (by decide) (fun K hK => ?_)
    refine goes_ Try.func26 (by kernel_rfl) rfl #[.int .i64 a1] (by rfl) rfl rfl aR_ ?_
    with_reducible refine (impl_isKey.calls a1 false _ A8.out).mono ?_
    rintro e w' ⟨rfl, ⟨nd, rfl⟩⟩
    refine ⟨_, rfl, ?_⟩
    refine hK.out _ _ ((blk_cell BK292.out 0).trans rfl) (fun hHeld => ?_)
    clear hK K
    refine norm_ (a' := ?_) ?_ ?_
    rotate_left
    ·show Act.put _ (some 14) _ = _
     simp only [Act.put, List.setIfInBounds_toArray, List.set_cons_zero, List.set_cons_succ, i64_w, i32_w]
     rfl
    refine pure_ (i := 6) (N := some 15) (v := ?_) (a' := ?_) #[true, true, true, true, true, true, true, false, false, false, false, false, false, false, false, false, false, false, false, false, false, false, false, false] rfl rfl (any_of HT_.out (by kernel_rfl)) (fun _ _ _ h => h) (Or.inl ⟨by rfl, ?_⟩) ?_ ?_
    rotate_left
    ·intro w'
     go_simp
     with_reducible rfl
    rotate_left
    ·simp only [Act.put, List.setIfInBounds_toArray, List.set_cons_zero, List.set_cons_succ, i64_w, i32_w]
     rfl
    refine pure_ (i := 7) (N := some 16) (v := ?_) (a' := ?_) #[true, true, true, true, true, true, true, true, false, false, false, false, false, false, false, false, false, false, false, false, false, false, false, false] rfl rfl (any_of HT_.out (by kernel_rfl)) (fun _ _ _ h => h) (Or.inl ⟨by rfl, ?_⟩) ?_ ?_
    rotate_left
    ·intro w'
     go_simp
     with_reducible rfl
    rotate_left
    ·simp only [Act.put, List.setIfInBounds_toArray, List.set_cons_zero, List.set_cons_succ, i64_w, i32_w]
     rfl
    refine pure_ (i := 8) (N := some 17) (v := ?_) (a' := ?_) #[true, true, true, true, true, true, true, true, true, false, false, false, false, false, false, false, false, false, false, false, false, false, false, false] rfl rfl (any_of HT_.out (by kernel_rfl)) (fun _ _ _ h => h) (Or.inl ⟨by rfl, ?_⟩) ?_ ?_
    rotate_left
    ·intro w'
     go_simp
     with_reducible rfl
    rotate_left
    ·simp only [Act.put, List.setIfInBounds_toArray, List.set_cons_zero, List.set_cons_succ, i64_w, i32_w]
     rfl
    refine pure_ (i := 9) (N := some 18) (v := undef) (a' := ?_) #[true, true, true, true, true, true, true, true, true, true, false, false, false, false, false, false, false, false, false, false, false, false, false, false] rfl rfl (any_of HT_.out (by kernel_rfl)) (fun _ _ _ h => h) (Or.inr ⟨by rfl, rfl⟩) ?_ ?_
    rotate_left
    ·simp only [Act.put, List.setIfInBounds_toArray, List.set_cons_zero, List.set_cons_succ, i64_w, i32_w]
     rfl
    refine pure_ (i := 10) (N := some 19) (v := undef) (a' := ?_) #[true, true, true, true, true, true, true, true, true, true, true, false, false, false, false, false, false, false, false, false, false, false, false, false] rfl rfl (any_of HT_.out (by kernel_rfl)) (fun _ _ _ h => h) (Or.inr ⟨by rfl, rfl⟩) ?_ ?_
    rotate_left
    ·simp only [Act.put, List.setIfInBounds_toArray, List.set_cons_zero, List.set_cons_succ, i64_w, i32_w]
     rfl
    refine pure_ (i := 11) (N := some 20) (v := undef) (a' := ?_) #[true, true, true, true, true, true, true, true, true, true, true, true, false, false, false, false, false, false, false, false, false, false, false, false] rfl rfl (any_of HT_.out (by kernel_rfl)) (fun _ _ _ h => h) (Or.inr ⟨by rfl, rfl⟩) ?_ ?_
    rotate_left
    ·simp only [Act.put, List.setIfInBounds_toArray, List.set_cons_zero, List.set_cons_succ, i64_w, i32_w]
     rfl
    refine pure_ (i := 12) (N := some 21) (v := undef) (a' := ?_) #[true, true, true, true, true, true, true, true, true, true, true, true, true, false, false, false, false, false, false, false, false, false, false, false] rfl rfl (any_of HT_.out (by kernel_rfl)) (fun _ _ _ h => h) (Or.inr ⟨by rfl, rfl⟩) ?_ ?_
    rotate_left
    ·simp only [Act.put, List.setIfInBounds_toArray, List.set_cons_zero, List.set_cons_succ, i64_w, i32_w]
     rfl
    refine pure_ (i := 13) (N := some 22) (v := ?_) (a' := ?_) #[true, true, true, true, true, true, true, true, true, true, true, true, true, true, false, false, false, false, false, false, false, false, false, false] rfl rfl (any_of HT_.out (by kernel_rfl)) (fun _ _ _ h => h) (Or.inl ⟨by rfl, ?_⟩) ?_ ?_
    rotate_left
    ·intro w'
     go_simp
     with_reducible rfl
    rotate_left
    ·simp only [Act.put, List.setIfInBounds_toArray, List.set_cons_zero, List.set_cons_succ, i64_w, i32_w]
     rfl
    refine pure_ (i := 14) (N := some 23) (v := ?_) (a' := ?_) #[true, true, true, true, true, true, true, true, true, true, true, true, true, true, true, false, false, false, false, false, false, false, false, false] rfl rfl (any_of HT_.out (by kernel_rfl)) (fun _ _ _ h => h) (Or.inl ⟨by rfl, ?_⟩) ?_ ?_
    rotate_left
    ·intro w'
     go_simp
     with_reducible rfl
    rotate_left
    ·simp only [Act.put, List.setIfInBounds_toArray, List.set_cons_zero, List.set_cons_succ, i64_w, i32_w]
     rfl
    refine pure_ (i := 15) (N := some 24) (v := undef) (a' := ?_) #[true, true, true, true, true, true, true, true, true, true, true, true, true, true, true, true, false, false, false, false, false, false, false, false] rfl rfl (any_of HT_.out (by kernel_rfl)) (fun _ _ _ h => h) (Or.inr ⟨by rfl, rfl⟩) ?_ ?_
    rotate_left
    ·simp only [Act.put, List.setIfInBounds_toArray, List.set_cons_zero, List.set_cons_succ, i64_w, i32_w]
     rfl
    refine pure_ (i := 16) (N := some 25) (v := undef) (a' := ?_) #[true, true, true, true, true, true, true, true, true, true, true, true, true, true, true, true, true, false, false, false, false, false, false, false] rfl rfl (any_of HT_.out (by kernel_rfl)) (fun _ _ _ h => h) (Or.inr ⟨by rfl, rfl⟩) ?_ ?_
    rotate_left
    ·simp only [Act.put, List.setIfInBounds_toArray, List.set_cons_zero, List.set_cons_succ, i64_w, i32_w]
     rfl
    refine pure_ (i := 17) (N := some 26) (v := undef) (a' := ?_) #[true, true, true, true, true, true, true, true, true, true, true, true, true, true, true, true, true, true, false, false, false, false, false, false] rfl rfl (any_of HT_.out (by kernel_rfl)) (fun _ _ _ h => h) (Or.inr ⟨by rfl, rfl⟩) ?_ ?_
    rotate_left
    ·simp only [Act.put, List.setIfInBounds_toArray, List.set_cons_zero, List.set_cons_succ, i64_w, i32_w]
     rfl
    refine pure_ (i := 18) (N := some 27) (v := undef) (a' := ?_) #[true, true, true, true, true, true, true, true, true, true, true, true, true, true, true, true, true, true, true, false, false, false, false, false] rfl rfl (any_of HT_.out (by kernel_rfl)) (fun _ _ _ h => h) (Or.inr ⟨by rfl, rfl⟩) ?_ ?_
    rotate_left
    ·simp only [Act.put, List.setIfInBounds_toArray, List.set_cons_zero, List.set_cons_succ, i64_w, i32_w]
     rfl
    refine pure_ (i := 19) (N := some 28) (v := undef) (a' := ?_) #[true, true, true, true, true, true, true, true, true, true, true, true, true, true, true, true, true, true, true, true, false, false, false, false] rfl rfl (any_of HT_.out (by kernel_rfl)) (fun _ _ _ h => h) (Or.inr ⟨by rfl, rfl⟩) ?_ ?_
    rotate_left
    ·simp only [Act.put, List.setIfInBounds_toArray, List.set_cons_zero, List.set_cons_succ, i64_w, i32_w]
     rfl
    refine pure_ (i := 20) (N := some 29) (v := undef) (a' := ?_) #[true, true, true, true, true, true, true, true, true, true, true, true, true, true, true, true, true, true, true, true, true, false, false, false] rfl rfl (any_of HT_.out (by kernel_rfl)) (fun _ _ _ h => h) (Or.inr ⟨by rfl, rfl⟩) ?_ ?_
    rotate_left
    ·simp only [Act.put, List.setIfInBounds_toArray, List.set_cons_zero, List.set_cons_succ, i64_w, i32_w]
     rfl
    refine pure_ (i := 21) (N := some 30) (v := undef) (a' := ?_) #[true, true, true, true, true, true, true, true, true, true, true, true, true, true, true, true, true, true, true, true, true, true, false, false] rfl rfl (any_of HT_.out (by kernel_rfl)) (fun _ _ _ h => h) (Or.inr ⟨by rfl, rfl⟩) ?_ ?_
    rotate_left
    ·simp only [Act.put, List.setIfInBounds_toArray, List.set_cons_zero, List.set_cons_succ, i64_w, i32_w]
     rfl
    refine pure_ (i := 22) (N := some 31) (v := undef) (a' := ?_) #[true, true, true, true, true, true, true, true, true, true, true, true, true, true, true, true, true, true, true, true, true, true, true, false] rfl rfl (any_of HT_.out (by kernel_rfl)) (fun _ _ _ h => h) (Or.inr ⟨by rfl, rfl⟩) ?_ ?_
    rotate_left
    ·simp only [Act.put, List.setIfInBounds_toArray, List.set_cons_zero, List.set_cons_succ, i64_w, i32_w]
     rfl
    refine pure_ (i := 23) (N := some 32) (v := ?_) (a' := ?_) #[true, true, true, true, true, true, true, true, true, true, true, true, true, true, true, true, true, true, true, true, true, true, true, true] rfl rfl (any_of HT_.out (by kernel_rfl)) (fun _ _ _ h => h) (Or.inl ⟨by rfl, ?_⟩) ?_ ?_
    rotate_left
    ·intro w'
     go_simp
     with_reducible rfl
    rotate_left
    ·simp only [Act.put, List.setIfInBounds_toArray, List.set_cons_zero, List.set_cons_succ, i64_w, i32_w]
     rfl
    refine done_ (done_of HT_.out (by kernel_rfl)) ?_
    try go_wp2
    go_meet
    case rel => exact ⟨_, (true), sR_, H', ⟨by first | omega | exact Nat.le_refl _⟩, ⟨kk_ BK292⟩, ⟨kk_ BK293⟩, ⟨bb_ HB⟩⟩
  ·replace c7 := Bool.eq_false_iff.mpr c7
   subst c7
   rw [if_neg (show ¬ (false = true) by decide)] at H
   have H' := aS_ H
   clear H
   try go_wp2
   replace BK292 := aS_ (kD_ BK292.out)
   replace BK293 := aS_ (kD_ BK293.out)
   replace HB := aS_ (bD_ HB.out)
   refine start_ (n := 24) (S := fun w' => w'.cell? ⟨gb292, 0, none⟩ = some (.slice A0_0 l0_0.length c0_0)) (ds := []) #[false, false, false, false, false, false, false, false, false, false, false, false, false, false, false, false, false, false, false, false, false, false, false, false] (by kernel_rfl) rfl rfl ((blk_cell BK292.out 0).trans rfl) (fun hHeld => ?_); refine with_tabW impl_InsertKey.tab1 impl_InsertKey.bits1 (fun HT_ HW_ => ?_)
   generalize w5.drew = w21 at BK292 BK293 HB hHeld ⊢
   refine take_ (i := 0) (N := some 9) (v := ?_) (a' := ?_) #[true, false, false, false, false, false, false, false, false, false, false, false, false, false, false, false, false, false, false, false, false, false, false, false] rfl rfl (take_ofW HT_.out HW_.out (by kernel_rfl)) (fun _ _ _ h => h) (Or.inl ⟨by rfl, ?_⟩) hHeld ?_ ?_
   rotate_left
   ·intro w' s0
    go_simp
    with_reducible rfl
   rotate_left
   ·simp only [Act.put, List.setIfInBounds_toArray, List.set_cons_zero, List.set_cons_succ, i64_w, i32_w]
    rfl
   refine one_ (i := 1) (N := some 10) #[true, true, false, false, false, false, false, false, false, false, false, false, false, false, false, false, false, false, false, false, false, false, false, false] rfl rfl (one_of HT_.out (by kernel_rfl)) (by decide) (fun K hK => ?_)
   refine goes_ Try.func25 (by kernel_rfl) rfl #[.agg #[.slice A0_0 l0_0.length c0_0]] (by rfl) rfl rfl aR_ ?_
   with_reducible refine (impl_isTable.calls k _ _ l0_0 false _ ?side1 ?side2 A6.out).mono ?_
   (case side1 => exact cB_ HR0_0 HB)
   (case side2 => exact HC0_0.out)
   rintro e w22 ⟨rfl, hb⟩
   refine ⟨_, rfl, ?_⟩
   replace BK292 := kO_ BK292 hb
   replace BK293 := kO_ BK293 hb
   replace HB := bE_ HB hb
   (try clear hb)
   refine hK.out _ _ ((blk_cell BK292.out 0).trans rfl) (fun hHeld => ?_)
   clear hK K
   refine norm_ (a' := ?_) ?_ ?_
   rotate_left
   ·show Act.put _ (some 10) _ = _
    simp only [Act.put, List.setIfInBounds_toArray, List.set_cons_zero, List.set_cons_succ, i64_w, i32_w]
    rfl
   refine pure_ (i := 2) (N := some 11) (v := ?_) (a' := ?_) #[true, true, true, false, false, false, false, false, false, false, false, false, false, false, false, false, false, false, false, false, false, false, false, false] rfl rfl (any_of HT_.out (by kernel_rfl)) (fun _ _ _ h => h) (Or.inl ⟨by rfl, ?_⟩) ?_ ?_
   rotate_left
   ·intro w'
    go_simp
    with_reducible rfl
   rotate_left
   ·simp only [Act.put, List.setIfInBounds_toArray, List.set_cons_zero, List.set_cons_succ, i64_w, i32_w]
    rfl
   refine pure_ (i := 3) (N := some 12) (v := ?_) (a' := ?_) #[true, true, true, true, false, false, false, false, false, false, false, false, false, false, false, false, false, false, false, false, false, false, false, false] rfl rfl (any_of HT_.out (by kernel_rfl)) (fun _ _ _ h => h) (Or.inl ⟨by rfl, ?_⟩) ?_ ?_
   rotate_left
   ·intro w'
    go_simp
    with_reducible rfl
   rotate_left
   ·simp only [Act.put, List.setIfInBounds_toArray, List.set_cons_zero, List.set_cons_succ, i64_w, i32_w]
    rfl
   refine pure_ (i := 4) (N := some 13) (v := undef) (a' := ?_) #[true, true, true, true, true, false, false, false, false, false, false, false, false, false, false, false, false, false, false, false, false, false, false, false] rfl rfl (any_of HT_.out (by kernel_rfl)) (fun _ _ _ h => h) (Or.inr ⟨by rfl, rfl⟩) ?_ ?_
   rotate_left
   ·simp only [Act.put, List.setIfInBounds_toArray, List.set_cons_zero, List.set_cons_succ, i64_w, i32_w]
    rfl
   refine pure_ (i := 5) (N := some 14) (v := undef) (a' := ?_) #[true, true, true, true, true, true, false, false, false, false, false, false, false, false, false, false, false, false, false, false, false, false, false, false] rfl rfl (any_of HT_.out (by kernel_rfl)) (fun _ _ _ h => h) (Or.inr ⟨by rfl, rfl⟩) ?_ ?_
   rotate_left
   ·simp only [Act.put, List.setIfInBounds_toArray, List.set_cons_zero, List.set_cons_succ, i64_w, i32_w]
    rfl
   refine pure_ (i := 6) (N := some 15) (v := undef) (a' := ?_) #[true, true, true, true, true, true, true, false, false, false, false, false, false, false, false, false, false, false, false, false, false, false, false, false] rfl rfl (any_of HT_.out (by kernel_rfl)) (fun _ _ _ h => h) (Or.inr ⟨by rfl, rfl⟩) ?_ ?_
   rotate_left
   ·simp only [Act.put, List.setIfInBounds_toArray, List.set_cons_zero, List.set_cons_succ, i64_w, i32_w]
    rfl
   refine pure_ (i := 7) (N := some 16) (v := ?_) (a' := ?_) #[true, true, true, true, true, true, true, true, false, false, false, false, false, false, false, false, false, false, false, false, false, false, false, false] rfl rfl (any_of HT_.out (by kernel_rfl)) (fun _ _ _ h => h) (Or.inl ⟨by rfl, ?_⟩) ?_ ?_
   rotate_left
   ·intro w'
    go_simp
    with_reducible rfl
   rotate_left
   ·simp only [Act.put, List.setIfInBounds_toArray, List.set_cons_zero, List.set_cons_succ, i64_w, i32_w]
    rfl
   refine pure_ (i := 8) (N := some 17) (v := ?_) (a' := ?_) #[true, true, true, true, true, true, true, true, true, false, false, false, false, false, false, false, false, false, false, false, false, false, false, false] rfl rfl (any_of HT_.out (by kernel_rfl)) (fun _ _ _ h => h) (Or.inl ⟨by rfl, ?_⟩) ?_ ?_
   rotate_left
   ·intro w'
    go_simp
    with_reducible rfl
   rotate_left
   ·simp only [Act.put, List.setIfInBounds_toArray, List.set_cons_zero, List.set_cons_succ, i64_w, i32_w]
    rfl
   refine pure_ (i := 9) (N := some 18) (v := undef) (a' := ?_) #[true, true, true, true, true, true, true, true, true, true, false, false, false, false, false, false, false, false, false, false, false, false, false, false] rfl rfl (any_of HT_.out (by kernel_rfl)) (fun _ _ _ h => h) (Or.inr ⟨by rfl, rfl⟩) ?_ ?_
   rotate_left
   ·simp only [Act.put, List.setIfInBounds_toArray, List.set_cons_zero, List.set_cons_succ, i64_w, i32_w]
    rfl
   refine pure_ (i := 10) (N := some 19) (v := undef) (a' := ?_) #[true, true, true, true, true, true, true, true, true, true, true, false, false, false, false, false, false, false, false, false, false, false, false, false] rfl rfl (any_of HT_.out (by kernel_rfl)) (fun _ _ _ h => h) (Or.inr ⟨by rfl, rfl⟩) ?_ ?_
   rotate_left
   ·simp only [Act.put, List.setIfInBounds_toArray, List.set_cons_zero, List.set_cons_succ, i64_w, i32_w]
    rfl
   refine pure_ (i := 11) (N := some 20) (v := undef) (a' := ?_) #[true, true, true, true, true, true, true, true, true, true, true, true, false, false, false, false, false, false, false, false, false, false, false, false] rfl rfl (any_of HT_.out (by kernel_rfl)) (fun _ _ _ h => h) (Or.inr ⟨by rfl, rfl⟩) ?_ ?_
   rotate_left
   ·simp only [Act.put, List.setIfInBounds_toArray, List.set_cons_zero, List.set_cons_succ, i64_w, i32_w]
    rfl
   refine pure_ (i := 12) (N := some 21) (v := undef) (a' := ?_) #[true, true, true, true, true, true, true, true, true, true, true, true, true, false, false, false, false, false, false, false, false, false, false, false] rfl rfl (any_of HT_.out (by kernel_rfl)) (fun _ _ _ h => h) (Or.inr ⟨by rfl, rfl⟩) ?_ ?_
   rotate_left
   ·simp only [Act.put, List.setIfInBounds_toArray, List.set_cons_zero, List.set_cons_succ, i64_w, i32_w]
    rfl
   refine pure_ (i := 13) (N := some 22) (v := ?_) (a' := ?_) #[true, true, true, true, true, true, true, true, true, true, true, true, true, true, false, false, false, false, false, false, false, false, false, false] rfl rfl (any_of HT_.out (by kernel_rfl)) (fun _ _ _ h => h) (Or.inl ⟨by rfl, ?_⟩) ?_ ?_
   rotate_left
   ·intro w'
    go_simp
    with_reducible rfl
   rotate_left
   ·simp only [Act.put, List.setIfInBounds_toArray, List.set_cons_zero, List.set_cons_succ, i64_w, i32_w]
    rfl
   refine pure_ (i := 14) (N := some 23) (v := ?_) (a' := ?_) #[true, true, true, true, true, true, true, true, true, true, true, true, true, true, true, false, false, false, false, false, false, false, false, false] rfl rfl (any_of HT_.out (by kernel_rfl)) (fun _ _ _ h => h) (Or.inl ⟨by rfl, ?_⟩) ?_ ?_
   rotate_left
   ·intro w'
    go_simp
    with_reducible rfl
   rotate_left
   ·simp only [Act.put, List.setIfInBounds_toArray, List.set_cons_zero, List.set_cons_succ, i64_w, i32_w]
    rfl
   refine pure_ (i := 15) (N := some 24) (v := undef) (a' := ?_) #[true, true, true, true, true, true, true, true, true, true, true, true, true, true, true, true, false, false, false, false, false, false, false, false] rfl rfl (any_of HT_.out (by kernel_rfl)) (fun _ _ _ h => h) (Or.inr ⟨by rfl, rfl⟩) ?_ ?_
   rotate_left
   ·simp only [Act.put, List.setIfInBounds_toArray, List.set_cons_zero, List.set_cons_succ, i64_w, i32_w]
    rfl
   refine pure_ (i := 16) (N := some 25) (v := undef) (a' := ?_) #[true, true, true, true, true, true, true, true, true, true, true, true, true, true, true, true, true, false, false, false, false, false, false, false] rfl rfl (any_of HT_.out (by kernel_rfl)) (fun _ _ _ h => h) (Or.inr ⟨by rfl, rfl⟩) ?_ ?_
   rotate_left
   ·simp only [Act.put, List.setIfInBounds_toArray, List.set_cons_zero, List.set_cons_succ, i64_w, i32_w]
    rfl
   refine pure_ (i := 17) (N := some 26) (v := undef) (a' := ?_) #[true, true, true, true, true, true, true, true, true, true, true, true, true, true, true, true, true, true, false, false, false, false, false, false] rfl rfl (any_of HT_.out (by kernel_rfl)) (fun _ _ _ h => h) (Or.inr ⟨by rfl, rfl⟩) ?_ ?_
   rotate_left
   ·simp only [Act.put, List.setIfInBounds_toArray, List.set_cons_zero, List.set_cons_succ, i64_w, i32_w]
    rfl
   refine pure_ (i := 18) (N := some 27) (v := undef) (a' := ?_) #[true, true, true, true, true, true, true, true, true, true, true, true, true, true, true, true, true, true, true, false, false, false, false, false] rfl rfl (any_of HT_.out (by kernel_rfl)) (fun _ _ _ h => h) (Or.inr ⟨by rfl, rfl⟩) ?_ ?_
   rotate_left
   ·simp only [Act.put, List.setIfInBounds_toArray, List.set_cons_zero, List.set_cons_succ, i64_w, i32_w]
    rfl
   refine pure_ (i := 19) (N := some 28) (v := undef) (a' := ?_) #[true, true, true, true, true, true, true, true, true, true, true, true, true, true, true, true, true, true, true, true, false, false, false, false] rfl rfl (any_of HT_.out (by kernel_rfl)) (fun _ _ _ h => h) (Or.inr ⟨by rfl, rfl⟩) ?_ ?_
   rotate_left
   ·simp only [Act.put, List.setIfInBounds_toArray, List.set_cons_zero, List.set_cons_succ, i64_w, i32_w]
    rfl
   refine pure_ (i := 20) (N := some 29) (v := undef) (a' := ?_) #[true, true, true, true, true, true, true, true, true, true, true, true, true, true, true, true, true, true, true, true, true, false, false, false] rfl rfl (any_of HT_.out (by kernel_rfl)) (fun _ _ _ h => h) (Or.inr ⟨by rfl, rfl⟩) ?_ ?_
   rotate_left
   ·simp only [Act.put, List.setIfInBounds_toArray, List.set_cons_zero, List.set_cons_succ, i64_w, i32_w]
    rfl
   refine pure_ (i := 21) (N := some 30) (v := undef) (a' := ?_) #[true, true, true, true, true, true, true, true, true, true, true, true, true, true, true, true, true, true, true, true, true, true, false, false] rfl rfl (any_of HT_.out (by kernel_rfl)) (fun _ _ _ h => h) (Or.inr ⟨by rfl, rfl⟩) ?_ ?_
   rotate_left
   ·simp only [Act.put, List.setIfInBounds_toArray, List.set_cons_zero, List.set_cons_succ, i64_w, i32_w]
    rfl
   refine pure_ (i := 22) (N := some 31) (v := undef) (a' := ?_) #[true, true, true, true, true, true, true, true, true, true, true, true, true, true, true, true, true, true, true, true, true, true, true, false] rfl rfl (any_of HT_.out (by kernel_rfl)) (fun _ _ _ h => h) (Or.inr ⟨by rfl, rfl⟩) ?_ ?_
   rotate_left
   ·simp only [Act.put, List.setIfInBounds_toArray, List.set_cons_zero, List.set_cons_succ, i64_w, i32_w]
    rfl
   refine pure_ (i := 23) (N := some 32) (v := ?_) (a' := ?_) #[true, true, true, true, true, true, true, true, true, true, true, true, true, true, true, true, true, true, true, true, true, true, true, true] rfl rfl (any_of HT_.out (by kernel_rfl)) (fun _ _ _ h => h) (Or.inl ⟨by rfl, ?_⟩) ?_ ?_
   rotate_left
   ·intro w'
    go_simp
    with_reducible rfl
   rotate_left
   ·simp only [Act.put, List.setIfInBounds_toArray, List.set_cons_zero, List.set_cons_succ, i64_w, i32_w]
    rfl
   refine done_ (done_of HT_.out (by kernel_rfl)) ?_
   try go_wp2
   go_meet
   case rel => exact ⟨_, (true), sR_, H', ⟨by first | omega | exact Nat.le_refl _⟩, ⟨kk_ BK292⟩, ⟨kk_ BK293⟩, ⟨bb_ HB⟩⟩
 case rest =>
  clear HC3
  try clear c2
  try clear p2
  try clear p6
  try clear c7
  try clear c9
  obtain ⟨kq, x32_2, rfl, HA, HJ2, BK292, BK293, HB⟩ := hcut
  cases kq with
  | zero => exact absurd HA.out (by simp [impl_InsertKey.j0])
  | succ kj2 =>
   have H := HA.out
   clear HA
   simp only [impl_InsertKey.j0] at H
   by_cases c23 : x32_2 = true
   ·subst c23
    rw [if_pos rfl] at H
    simp only [Option.some.injEq, Prod.mk.injEq] at H
    obtain ⟨rfl, rfl, rfl⟩ := H
    have hnb24 := NB293_292.out
    have hnc24 := NB292_293.out
    have hcz25_0 : wc.cell? ⟨gb293, 0, none⟩ = some (.slice none 0 0) := (blk_cell BK293.out 0).trans rfl
    have hfz25_0 := blk_frozen BK293.out 0
    go_wp2
    refine bodyPost_ret (results_ctt rfl _ _ gb293 26 #[.slice none 0 0] (0, 0) _ rfl (by (with_reducible repeat (first | refine kN_ ?_ _ | refine kD_ ?_ | refine kA_ ?_ _)); refine blk_put (cs := #[.slice none 0 0]) ?_ 0 _ rfl; (with_reducible repeat (first | refine kN_ ?_ _ | refine kD_ ?_ | refine kA_ ?_ _)); exact BK293.out) Try.underlying26 rfl (by kernel_rfl)) rfl ?_
    exact ⟨_, by first | rfl | (simp [errW_none, errW_some] <;> rfl) | (simp [*, errW_none, errW_some] <;> rfl), by first | exact Kd.R_nil _ _ _ _ _ | exact Kd.N_nil _ _ _ _ _ | exact Kd.V_nil _ _ _ _ _ | exact Kd.Q_nil _ _ _ _ _ | exact Kd.S_nil _ _ _ _ _, bb_ HB⟩
   ·replace c23 := Bool.eq_false_iff.mpr c23
    subst c23
    rw [if_neg (show ¬ (false = true) by decide)] at H
    replace H := Option.bind_eq_some_iff.mp H
    obtain ⟨t300, A260, H⟩ := H
    have A26 := aS_ A260
    clear A260
    replace H := Option.bind_eq_some_iff.mp H
    obtain ⟨⟨t304, t305⟩, A270, H⟩ := H
    have A27 := aS_ A270
    clear A270
    simp only [Option.some.injEq, Prod.mk.injEq] at H
    obtain ⟨rfl, rfl, rfl⟩ := H
    have hnb28 := NB292_293.out
    have hnc28 := NB293_292.out
    have hcz29_0 : wc.cell? ⟨gb292, 0, none⟩ = some (.slice A0_0 l0_0.length c0_0) := (blk_cell BK292.out 0).trans rfl
    have hfz29_0 := blk_frozen BK292.out 0
    go_wp2_with (first | ((with_reducible refine gate_callee (f := 29) rfl ?_); refine goesL_ (some 35) rfl rfl Try.func29 (by kernel_rfl) rfl #[.agg #[.slice A0_0 l0_0.length c0_0]] rfl aR_ ?_; (with_reducible refine (impl_Table_copied.calls _ _ l0_0 t300 _ ?side1 ?side2 A26.out).mono ?_); (case side1 => exact cB_ HR0_0 HB); (case side2 => exact HC0_0.out); rintro e w30 ⟨v301, rfl, ho0, hb⟩; refine ⟨_, rfl, ?_⟩; have HO302 := aS_ (Kd.R_lower ho0 (below_size (bb_ HB))); replace BK292 := kO_ BK292 hb; replace BK293 := kO_ BK293 hb; replace HB := bE_ HB hb; (try clear hb); (try clear ho0)) | ((with_reducible refine gate_dst (N := 7) rfl ?_); (try (refine gate_guard (by rfl) ?_; dsimp only)); refine box_event ?hg (N := 7) ?hd (cs := #[.slice none 0 0]) (t := 26) ?hr ?_; (case hd => rfl); (case hg => rfl); (case hr => first | (go_simp; done) | (go_simp; rfl)); intro gb303 hg w31 hbox hb; replace HO302 := aS_ (Kd.R_below (rr_ HO302) hb); have BK303 := aS_ (hbox); have GW303 := gE_ HB hg; have GE303 := gE_ HB hg; replace HB := bE_ HB hb; have NB292_303 := nL_ BK292 hg; have NB303_292 := nG_ BK292 hg; replace BK292 := kO_ BK292 hb; have NB293_303 := nL_ BK293 hg; have NB303_293 := nG_ BK293 hg; replace BK293 := kO_ BK293 hb; clear hb hbox hg; obtain ⟨Ao32, co32, eo32⟩ := Kd.R_slice HO302.out; subst eo32; have hnb33 := NB303_292.out; have hnc33 := NB292_303.out; have hnb34 := NB303_293.out; have hnc34 := NB293_303.out; have hcz35_0 : w31.cell? ⟨gb303, 0, none⟩ = some (.slice none 0 0) := (blk_cell BK303.out 0).trans rfl; have hfz35_0 := blk_frozen BK303.out 0) | ((with_reducible refine gate_store (t := 26) (p := 7) rfl ?_); refine store_event (t := 26) (p := 7) (v := ?vo_w36) (w1 := (w31.setCell ⟨gb303, 0, none⟩ (.slice Ao32 t300.length co32))) ?hg ?ho ?hn ?hr ?_; (case ho => rfl); (case hg => rfl); (case hn => rfl); (case hr => first | (go_simp; done) | (go_simp; rfl)); intro w36 hw; have n0_ : Aside0 (Kd.R (Kd.int .i64) 3 w36 w.heap.size (fun _ => True) (.slice Ao32 t300.length co32) t300) := ⟨(by rw [hw]; exact (by (with_reducible repeat (first | apply rA_ | apply rN_ | apply rD_)); exact Kd.R_mono (Kd.R_far (p := ⟨gb303, 0, none⟩) (Kd.R_types HO302.out BK303.out (by decide)) (fun _ hk => hk.2) (.slice Ao32 t300.length co32)) (fun _ hk => trivial)))⟩; have n1_ : Aside0 (w36.heap[gb292]? = some (.cells #[.slice A0_0 l0_0.length c0_0] 26 (0, 0))) := ⟨(by rw [hw]; exact (by (with_reducible repeat (first | refine kN_ ?_ _ | refine kD_ ?_ | refine kA_ ?_ _)); refine blk_far ?_ NB292_303.out _; (with_reducible repeat (first | refine kN_ ?_ _ | refine kD_ ?_ | refine kA_ ?_ _)); exact BK292.out))⟩; have n2_ : Aside0 (w36.heap[gb293]? = some (.cells #[.slice none 0 0] 26 (0, 0))) := ⟨(by rw [hw]; exact (by (with_reducible repeat (first | refine kN_ ?_ _ | refine kD_ ?_ | refine kA_ ?_ _)); refine blk_far ?_ NB293_303.out _; (with_reducible repeat (first | refine kN_ ?_ _ | refine kD_ ?_ | refine kA_ ?_ _)); exact BK293.out))⟩; have n3_ : Aside0 (w36.heap[gb303]? = some (.cells #[.slice Ao32 t300.length co32] 26 (0, 0))) := ⟨(by rw [hw]; exact (by (with_reducible repeat (first | refine kN_ ?_ _ | refine kD_ ?_ | refine kA_ ?_ _)); refine blk_put (cs := #[.slice none 0 0]) ?_ 0 _ rfl; (with_reducible repeat (first | refine kN_ ?_ _ | refine kD_ ?_ | refine kA_ ?_ _)); exact BK303.out))⟩; have n4_ : Aside0 (Below w.heap.size w w36) := ⟨(by rw [hw]; exact (bb_ HB))⟩; clear hw; clear HO302; clear BK292; clear BK293; clear BK303; clear HB; have HO302 := n0_; have BK292 := n1_; have BK293 := n2_; have BK303 := n3_; have HB := n4_; clear n0_ n1_ n2_ n3_ n4_; have hcz37_0 : w36.cell? ⟨gb303, 0, none⟩ = some (.slice Ao32 t300.length co32) := (blk_cell BK303.out 0).trans rfl; have hfz37_0 := blk_frozen BK303.out 0) | ((with_reducible refine gate_callee (f := 30) rfl ?_); refine goesL_ (some 38) rfl rfl Try.func30 (by kernel_rfl) rfl #[.agg #[.slice Ao32 t300.length co32], .int .i64 a1] rfl aR_ ?_; (with_reducible refine (impl_Table_insert.calls kj2 (fun k_ => some k_ = (.slice Ao32 t300.length co32 : Value).ownBlock) (.slice Ao32 t300.length co32) t300 a1 t304 t305 w _ ?side1 ?side2 A27.out).mono ?_); (case side1 => repeat (first | (with_reducible first | exact HB.out | apply bA_ | apply pN_ | apply bD_ | refine bS_ ?_ GE292.out | refine bS_ ?_ GE293.out | refine bS_ ?_ GE303.out) | exact HB.out)); (case side2 => exact Kd.R_tight rfl HO302.out); rintro e w38 ⟨rfl, hy0, hb, hkp⟩; refine ⟨_, rfl, ?_⟩; replace BK292 := aS_ (blk_kept (kk_ BK292) hkp (fun hs_ => (fun e_ => (Kd.R_ne HO302.out BK292.out (by decide)) e_) hs_)); replace BK293 := aS_ (blk_kept (kk_ BK293) hkp (fun hs_ => (fun e_ => (Kd.R_ne HO302.out BK293.out (by decide)) e_) hs_)); replace BK303 := aS_ (blk_kept (kk_ BK303) hkp (fun hs_ => (fun e_ => (Kd.R_ne HO302.out BK303.out (by decide)) e_) hs_)); replace HO302 := aS_ (Kd.R_reok rfl hy0 (fun k_ e_ => HO302.out.1 k_ e_)); replace HB := aS_ (hb); (try clear hb); (try clear hkp); (try clear hy0); have hcz39_0 : w38.cell? ⟨gb303, 0, none⟩ = some (.slice Ao32 t300.length co32) := (blk_cell BK303.out 0).trans rfl; have hfz39_0 := blk_frozen BK303.out 0; have hcz40_0 : w38.cell? ⟨gb293, 0, none⟩ = some (.slice none 0 0) := (blk_cell BK293.out 0).trans rfl; have hfz40_0 := blk_frozen BK293.out 0))
    refine bodyPost_ret (results_ctt rfl _ _ gb293 26 #[.slice Ao32 t300.length co32] (0, 0) _ rfl (by (with_reducible repeat (first | refine kN_ ?_ _ | refine kD_ ?_ | refine kA_ ?_ _)); refine blk_put (cs := #[.slice none 0 0]) ?_ 0 _ rfl; (with_reducible repeat (first | refine kN_ ?_ _ | refine kD_ ?_ | refine kA_ ?_ _)); exact BK293.out) Try.underlying26 rfl (by kernel_rfl)) rfl ?_
    exact ⟨_, by first | rfl | (simp [errW_none, errW_some] <;> rfl) | (simp [*, errW_none, errW_some] <;> rfl), by (with_reducible repeat (first | apply rA_ | apply rN_ | apply rD_)); exact Kd.R_mono (Kd.R_far (p := ⟨gb293, 0, none⟩) (Kd.R_types HO302.out BK293.out (by decide)) (fun _ hk => hk.2) (.slice Ao32 t300.length co32)) (fun _ hk => trivial), bb_ HB⟩
end Go.Proofs.Ytjhpnihlmnlehaa.G
