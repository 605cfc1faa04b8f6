/- The law FnInsertAndRemove: part 4 of the printed functions and the facts on them that its row leans on (merged by this session's slim.py). -/
import Derived.Test.YtjhpnihlmnlehaaZFnInsertAndRemove3
set_option linter.unusedVariables false
set_option linter.unusedSimpArgs false
namespace Go.Proofs.Ytjhpnihlmnlehaa.G
open Go.RowKit Go.Proofs.YtjhpnihlmnlehaaW.PrintWords Go.Proofs.YtjhpnihlmnlehaaW.PrintLast Go.Proofs.YtjhpnihlmnlehaaW.PrintMore
attribute [local go_sem] max2_int min2_int max_two min_two max_three min_three max_four min_four   -- for this text's walks alone
/-! ### spec_DrawFindKey: function 42 -/
def spec_DrawFindKey.f (k : Nat) (l0 : List Int) : Option (List Int × Int) := (spec_l1Cur_table.f k l0 0 0).bind fun bt388 => ((spec_l1Cur_held.f k l0 bt388.2.1 bt388.2.2 bt388.1).bind fun bt394 => (some (bt388.1, bt394.1)))
theorem spec_DrawFindKey.mono : ∀ a0 k, LeO (spec_DrawFindKey.f k a0) (spec_DrawFindKey.f (k + 1) a0) := by
 intro a0 k
 unfold spec_DrawFindKey.f
 repeat' first
   | (with_reducible exact spec_l1Cur_held.mono _ _ _ _ _)
   | (with_reducible exact spec_l1Cur_table.mono _ _ _ _)
   | (with_reducible exact LeO.refl _)
   | (with_reducible exact LeO.none _)
   | (with_reducible refine LeO.ite ?_ ?_)
   | (with_reducible refine LeO.bind ?_ (fun _ => ?_))
   | exact spec_l1Cur_held.mono _ _ _ _ _
   | exact spec_l1Cur_table.mono _ _ _ _
   | exact LeO.none _
   | refine LeO.ite ?_ ?_
   | refine LeO.bind ?_ (fun _ => ?_)
set_option maxHeartbeats 8000000 in
set_option maxRecDepth 100000 in
theorem spec_DrawFindKey.calls (k : Nat) (A0 : Option Addr) (c0 : Nat) (l0 : List Int) (r1 : List Int) (r2 : Int) (w : World) (hr0 : Kd.C (Kd.int .u8) w A0 l0.length l0) (hc0 : l0.length ≤ c0) (h : spec_DrawFindKey.f k l0 = some (r1, r2)) :
  Calls Try.prog 42 #[.slice A0 l0.length c0] w fun e w' => ∃ v0_ : Value, e = .returned (.tuple #[.agg #[v0_], .int .i64 r2]) ∧ Kd.R (Kd.int .i64) 3 w' w.heap.size (fun _ => True) v0_ r1 ∧ Below w.heap.size w w' := by
 have hu26 := Try.underlying26
 have hu46 := Try.underlying46
 have HR0 := aS_ hr0
 have HC0 := aS_ hc0
 clear hr0 hc0
 have HB := aS_ (Below.refl w.heap.size w)
 have H : ((spec_l1Cur_table.f k l0 0 0).bind fun bt388 => ((spec_l1Cur_held.f k l0 bt388.2.1 bt388.2.2 bt388.1).bind fun bt394 => (some (bt388.1, bt394.1)))) = some (r1, r2) := h
 clear h
 replace H := Option.bind_eq_some_iff.mp H
 obtain ⟨⟨t388, t391, t392⟩, A20, H⟩ := H
 have A2 := aS_ A20
 clear A20
 replace H := Option.bind_eq_some_iff.mp H
 obtain ⟨⟨t394, t395, t396⟩, A30, H⟩ := H
 have A3 := aS_ A30
 clear A30
 simp only [Option.some.injEq, Prod.mk.injEq] at H
 obtain ⟨rfl, rfl⟩ := H
 go_enter Try.func42, Try.ntmps42
 try go_wp2_with (first | ((with_reducible refine gate_dst (N := 2) rfl ?_); refine box_event ?hg (N := 2) ?hd (cs := #[.slice none 0 0]) (t := 26) ?hr ?_; (case hd => rfl); (case hg => rfl); (case hr => first | (go_simp; done) | (go_simp; rfl)); intro gb386 hg w4 hbox hb; have BK386 := aS_ (hbox); have GW386 := gE_ HB hg; have GE386 := gE_ HB hg; replace HB := bE_ HB hb; clear hb hbox hg) | ((with_reducible refine gate_dst (N := 8) rfl ?_); refine box_event ?hg (N := 8) ?hd (cs := #[.slice A0 l0.length c0, .int .i64 0, .int .u64 0]) (t := 46) ?hr ?_; (case hd => rfl); (case hg => rfl); (case hr => first | (go_simp; done) | (go_simp; rfl)); intro gb387 hg w5 hbox hb; have GW387 := gE_ HB hg; have GE387 := gE_ HB hg; have NB386_387 := nL_ BK386 hg; have NB387_386 := nG_ BK386 hg; replace BK386 := kO_ BK386 hb; have HI387 := aS_ ((⟨_, _,  hbox, (by rw [hg]; exact (below_size (bb_ HB))), HR0.out⟩ : IsS46 w w5 gb387 l0 0 0)); replace HB := bE_ HB hb; clear hb hbox hg) | ((with_reducible refine gate_callee (f := 20) rfl ?_); refine goesL_ (some 10) rfl rfl Try.func20 (by kernel_rfl) rfl #[.pointer (some ⟨gb387, 0, none⟩)] rfl aR_ ?_; (with_reducible refine (spec_l1Cur_table.calls k gb387 l0 0 0 t388 t391 t392 w _ ?side1 ?side2 A2.out).mono ?_); (case side1 => exact ss_ HI387); (case side2 => repeat (first | (with_reducible first | exact HB.out | apply bA_ | apply pN_ | apply bD_ | refine bS_ ?_ (IsS46.ge HI387.out) | refine bS_ ?_ GE386.out) | exact HB.out)); rintro e w6 ⟨v389, rfl, ho0, hi, hb, hk⟩; refine ⟨_, rfl, ?_⟩; replace BK386 := aS_ (KeepBut.blk hk (g' := gb386) (o := .cells #[.slice none 0 0] 26 (0, 0)) (kk_ BK386) NB386_387.out (by simp)); have HO390 := aS_ (Kd.R_lower ho0 (below_size (by repeat (first | (with_reducible first | exact HB.out | apply bA_ | apply pN_ | apply bD_ | refine bS_ ?_ (IsS46.ge HI387.out) | refine bS_ ?_ GE386.out) | exact HB.out)))); replace HB := aS_ (hb); replace HI387 := aS_ (hi); (try clear hb); (try clear hk); (try clear hi); (try clear ho0)) | ((with_reducible refine gate_dst (N := 5) rfl ?_); refine box_event ?hg (N := 5) ?hd (cs := #[.slice none 0 0]) (t := 26) ?hr ?_; (case hd => rfl); (case hg => rfl); (case hr => first | (go_simp; done) | (go_simp; rfl)); intro gb393 hg w7 hbox hb; replace HO390 := aS_ (Kd.R_below (rr_ HO390) hb); have BK393 := aS_ (hbox); have GW393 := aS_ ((by rw [hg]; exact (below_size (by repeat (first | (with_reducible first | exact HB.out | apply bA_ | apply pN_ | apply bD_ | refine bS_ ?_ (IsS46.ge HI387.out) | refine bS_ ?_ GE386.out) | exact HB.out))) : w.heap.size ≤ gb393)); have GE393 := aS_ ((by rw [hg]; exact (below_size (by repeat (first | (with_reducible first | exact HB.out | apply bA_ | apply pN_ | apply bD_ | refine bS_ ?_ (IsS46.ge HI387.out) | refine bS_ ?_ GE386.out) | exact HB.out))) : w.heap.size ≤ gb393)); replace HB := aS_ (below_step (by repeat (first | (with_reducible first | exact HB.out | apply bA_ | apply pN_ | apply bD_ | refine bS_ ?_ (IsS46.ge HI387.out) | refine bS_ ?_ GE386.out) | exact HB.out)) hb); have NB386_393 := nL_ BK386 hg; have NB393_386 := nG_ BK386 hg; replace BK386 := kO_ BK386 hb; have NB387_393 := aS_ ((by rw [hg]; exact Nat.ne_of_lt (IsS46.lt (show IsS46 w _ gb387 l0 t391 t392 from ss_ HI387)) : gb387 ≠ gb393)); have NB393_387 := aS_ ((by rw [hg]; exact Nat.ne_of_gt (IsS46.lt (show IsS46 w _ gb387 l0 t391 t392 from ss_ HI387)) : gb393 ≠ gb387)); replace HI387 := aS_ (IsS46.below (ss_ HI387) hb); clear hb hbox hg; obtain ⟨Ao8, co8, eo8⟩ := Kd.R_slice HO390.out; subst eo8; have hnb9 := NB393_386.out; have hnc9 := NB386_393.out; have hnb10 := NB393_387.out; have hnc10 := NB387_393.out; have hcz11_0 : w7.cell? ⟨gb393, 0, none⟩ = some (.slice none 0 0) := (blk_cell BK393.out 0).trans rfl; have hfz11_0 := blk_frozen BK393.out 0))
 have n0_ : Aside0 (Kd.R (Kd.int .i64) 3 (w7.setCell ⟨gb393, 0, none⟩ (.slice Ao8 t388.length co8)) w.heap.size (fun _ => True) (.slice Ao8 t388.length co8) t388) := ⟨by (with_reducible repeat (first | apply rA_ | apply rN_ | apply rD_)); exact Kd.R_mono (Kd.R_far (p := ⟨gb393, 0, none⟩) (Kd.R_types HO390.out BK393.out (by decide)) (fun _ hk => hk.2) (.slice Ao8 t388.length co8)) (fun _ hk => trivial)⟩
 have n1_ : Aside0 ((w7.setCell ⟨gb393, 0, none⟩ (.slice Ao8 t388.length co8)).heap[gb386]? = some (.cells #[.slice none 0 0] 26 (0, 0))) := ⟨by (with_reducible repeat (first | refine kN_ ?_ _ | refine kD_ ?_ | refine kA_ ?_ _)); refine blk_far ?_ NB386_393.out _; (with_reducible repeat (first | refine kN_ ?_ _ | refine kD_ ?_ | refine kA_ ?_ _)); exact BK386.out⟩
 have n2_ : Aside0 ((w7.setCell ⟨gb393, 0, none⟩ (.slice Ao8 t388.length co8)).heap[gb393]? = some (.cells #[.slice Ao8 t388.length co8] 26 (0, 0))) := ⟨by (with_reducible repeat (first | refine kN_ ?_ _ | refine kD_ ?_ | refine kA_ ?_ _)); refine blk_put (cs := #[.slice none 0 0]) ?_ 0 _ rfl; (with_reducible repeat (first | refine kN_ ?_ _ | refine kD_ ?_ | refine kA_ ?_ _)); exact BK393.out⟩
 have n3_ : Aside0 (IsS46 w (w7.setCell ⟨gb393, 0, none⟩ (.slice Ao8 t388.length co8)) gb387 l0 t391 t392) := ⟨ss_ HI387⟩
 have n4_ : Aside0 (Below w.heap.size w (w7.setCell ⟨gb393, 0, none⟩ (.slice Ao8 t388.length co8))) := ⟨by repeat (first | (with_reducible first | exact HB.out | apply bA_ | apply pN_ | apply bD_ | refine bS_ ?_ (IsS46.ge HI387.out) | refine bS_ ?_ GE386.out | refine bS_ ?_ GE393.out) | exact HB.out)⟩
 (try clear HO390)
 (try clear BK386)
 (try clear BK393)
 (try clear HI387)
 (try clear HB)
 generalize (w7.setCell ⟨gb393, 0, none⟩ (.slice Ao8 t388.length co8)) = w12 at n0_ n1_ n2_ n3_ n4_ ⊢
 have HO390 := n0_
 have BK386 := n1_
 have BK393 := n2_
 have HI387 := n3_
 have HB := n4_
 clear n0_ n1_ n2_ n3_ n4_
 replace HO390 := aS_ (rD_ HO390.out)
 replace BK386 := aS_ (kD_ BK386.out)
 replace BK393 := aS_ (kD_ BK393.out)
 replace HI387 := aS_ (IsS46.drew HI387.out)
 replace HB := aS_ (bD_ HB.out)
 refine start_ (n := 6) (S := fun w' => w'.cell? ⟨gb393, 0, none⟩ = some (.slice Ao8 t388.length co8)) (ds := []) #[false, false, false, false, false, false] (by kernel_rfl) rfl rfl ((blk_cell BK393.out 0).trans rfl) (fun hHeld => ?_)
 generalize w12.drew = w13 at HO390 BK386 BK393 HI387 HB hHeld ⊢
 refine pure_ (i := 1) (N := some 12) (v := ?_) (a' := ?_) #[false, true, false, false, false, false] rfl rfl (by kernel_rfl) (fun _ _ _ h => h) (Or.inl ⟨by rfl, ?_⟩) ?_ ?_
 rotate_left
 ·intro w'
  go_simp
  with_reducible rfl
 rotate_left
 ·simp only [Act.put, List.setIfInBounds_toArray, List.set_cons_zero, List.set_cons_succ, i64_w, i32_w]
  rfl
 refine take_ (i := 0) (N := some 11) (v := ?_) (a' := ?_) #[true, true, false, false, false, false] rfl rfl (by kernel_rfl) (fun _ _ _ h => h) (Or.inl ⟨by rfl, ?_⟩) hHeld ?_ ?_
 rotate_left
 ·intro w' s0
  go_simp
  with_reducible rfl
 rotate_left
 ·simp only [Act.put, List.setIfInBounds_toArray, List.set_cons_zero, List.set_cons_succ, i64_w, i32_w]
  rfl
 refine take_ (i := 2) (N := some 13) (v := ?_) (a' := ?_) #[true, true, true, false, false, false] rfl rfl (by kernel_rfl) (fun _ _ _ h => h) (Or.inl ⟨by rfl, ?_⟩) hHeld ?_ ?_
 rotate_left
 ·intro w' s0
  go_simp
  with_reducible rfl
 rotate_left
 ·simp only [Act.put, List.setIfInBounds_toArray, List.set_cons_zero, List.set_cons_succ, i64_w, i32_w]
  rfl
 refine one_ (i := 3) (N := some 14) #[true, true, true, true, false, false] rfl rfl (by kernel_rfl) (by decide) (fun K hK => ?_)
 refine goes_ Try.func22 (by kernel_rfl) rfl #[.pointer (some ⟨gb387, 0, none⟩), .agg #[.slice Ao8 t388.length co8]] (by rfl) rfl rfl aR_ ?_
 with_reducible refine (spec_l1Cur_held.calls k gb387 l0 t391 t392 _ _ t388 t394 t395 t396 w _ ?side1 ?side2 ?side3 ?side4 ?side5 A3.out).mono ?_
 (case side1 => exact ss_ HI387)
 (case side2 => repeat (first | (with_reducible first | exact HB.out | apply bA_ | apply pN_ | apply bD_ | refine bS_ ?_ (IsS46.ge HI387.out) | refine bS_ ?_ GE386.out | refine bS_ ?_ GE393.out) | exact HB.out))
 (case side3 => exact cR_ HO390)
 (case side4 => exact (Kd.R_reads' HO390.out).2.1)
 (case side5 => exact far_slice (IsS46.own_ne HI387.out HO390.out (by decide)))
 rintro e w14 ⟨rfl, hi, hb, hk⟩
 refine ⟨_, rfl, ?_⟩
 replace BK386 := aS_ (KeepBut.blk hk (g' := gb386) (o := .cells #[.slice none 0 0] 26 (0, 0)) (kk_ BK386) NB386_387.out (by simp))
 replace HO390 := aS_ (Kd.R_mono (Kd.R_keep (IsS46.apart (show IsS46 w _ gb387 l0 t391 t392 from ss_ HI387) (rr_ HO390) (by decide)) hk (fun _ h => h.2)) (fun _ h => h.1))
 replace BK393 := aS_ (KeepBut.blk hk (g' := gb393) (o := .cells #[.slice Ao8 t388.length co8] 26 (0, 0)) (kk_ BK393) NB393_387.out (by simp))
 replace HB := aS_ (hb)
 replace HI387 := aS_ (hi)
 (try clear hb)
 (try clear hk)
 (try clear hi)
 refine hK.out _ _ ((blk_cell BK393.out 0).trans rfl) (fun hHeld => ?_)
 clear hK K
 refine norm_ (a' := ?_) ?_ ?_
 rotate_left
 ·show Act.put _ (some 14) _ = _
  simp only [Act.put, List.setIfInBounds_toArray, List.set_cons_zero, List.set_cons_succ, i64_w, i32_w]
  rfl
 refine one_ (i := 4) (N := none) #[true, true, true, true, true, false] rfl rfl (by kernel_rfl) (by decide) (fun K hK => ?_)
 have hs15 : w14.cell? ⟨gb386, 0, none⟩ = some (.slice none 0 0) := (blk_cell BK386.out 0).trans rfl
 have hfs15 := blk_frozen BK386.out 0
 have hns15_1 := NB393_386.out
 have hms15_1 := NB386_393.out
 refine skip_ (w1 := ?_) (by rfl) rfl ?_ ?_
 rotate_left
 ·go_simp
  rfl
 refine hK.out _ _ (((cell_far (p := ⟨gb386, _, none⟩) NB393_386.out _).trans (hHeld))) (fun hHeld => ?_)
 clear hK K
 refine pure_ (i := 5) (N := some 3) (v := ?_) (a' := ?_) #[true, true, true, true, true, true] rfl rfl (by kernel_rfl) (fun _ _ _ h => h) (Or.inl ⟨by rfl, ?_⟩) ?_ ?_
 rotate_left
 ·intro w'
  go_simp
  with_reducible rfl
 rotate_left
 ·simp only [Act.put, List.setIfInBounds_toArray, List.set_cons_zero, List.set_cons_succ, i64_w, i32_w]
  rfl
 refine done_ (by kernel_rfl) ?_
 try go_wp2
 refine bodyPost_ret (results_ct rfl _ _ gb386 26 #[.slice Ao8 t388.length co8] (0, 0) _ rfl (by (with_reducible repeat (first | refine kN_ ?_ _ | refine kD_ ?_ | refine kA_ ?_ _)); refine blk_put (cs := #[.slice none 0 0]) ?_ 0 _ rfl; (with_reducible repeat (first | refine kN_ ?_ _ | refine kD_ ?_ | refine kA_ ?_ _)); exact BK386.out) Try.underlying26 rfl (by kernel_rfl)) rfl ?_
 exact ⟨_, by first | rfl | (simp [errW_none, errW_some] <;> rfl) | (simp [*, errW_none, errW_some] <;> rfl), by (with_reducible repeat (first | apply rA_ | apply rN_ | apply rD_)); exact Kd.R_mono (Kd.R_far (p := ⟨gb386, 0, none⟩) (Kd.R_types HO390.out BK386.out (by decide)) (fun _ hk => hk.2) (.slice Ao8 t388.length co8)) (fun _ hk => trivial), by repeat (first | (with_reducible first | exact HB.out | apply bA_ | apply pN_ | apply bD_ | refine bS_ ?_ (IsS46.ge HI387.out) | refine bS_ ?_ GE386.out | refine bS_ ?_ GE393.out) | exact HB.out)⟩
/-! ### spec_DrawRemoveKey: function 14 -/
def spec_DrawRemoveKey.f (k : Nat) (l0 : List Int) : Option (List Int × Int) := (spec_DrawFindKey.f k l0).bind fun bt398 => (some (bt398.1, bt398.2))
theorem spec_DrawRemoveKey.mono : ∀ a0 k, LeO (spec_DrawRemoveKey.f k a0) (spec_DrawRemoveKey.f (k + 1) a0) := by
 intro a0 k
 unfold spec_DrawRemoveKey.f
 repeat' first
   | (with_reducible exact spec_DrawFindKey.mono _ _)
   | (with_reducible exact LeO.refl _)
   | (with_reducible exact LeO.none _)
   | (with_reducible refine LeO.ite ?_ ?_)
   | (with_reducible refine LeO.bind ?_ (fun _ => ?_))
   | exact spec_DrawFindKey.mono _ _
   | exact LeO.none _
   | refine LeO.ite ?_ ?_
   | refine LeO.bind ?_ (fun _ => ?_)
set_option maxHeartbeats 8000000 in
set_option maxRecDepth 100000 in
theorem spec_DrawRemoveKey.calls (k : Nat) (A0 : Option Addr) (c0 : Nat) (l0 : List Int) (r1 : List Int) (r2 : Int) (w : World) (hr0 : Kd.C (Kd.int .u8) w A0 l0.length l0) (hc0 : l0.length ≤ c0) (h : spec_DrawRemoveKey.f k l0 = some (r1, r2)) :
  Calls Try.prog 14 #[.slice A0 l0.length c0] w fun e w' => ∃ v0_ : Value, e = .returned (.tuple #[.agg #[v0_], .int .i64 r2]) ∧ Kd.R (Kd.int .i64) 3 w' w.heap.size (fun _ => True) v0_ r1 ∧ Below w.heap.size w w' := by
 have hu26 := Try.underlying26
 have HR0 := aS_ hr0
 have HC0 := aS_ hc0
 clear hr0 hc0
 have HB := aS_ (Below.refl w.heap.size w)
 have H : ((spec_DrawFindKey.f k l0).bind fun bt398 => (some (bt398.1, bt398.2))) = some (r1, r2) := h
 clear h
 replace H := Option.bind_eq_some_iff.mp H
 obtain ⟨⟨t398, t401⟩, A20, H⟩ := H
 have A2 := aS_ A20
 clear A20
 simp only [Option.some.injEq, Prod.mk.injEq] at H
 obtain ⟨rfl, rfl⟩ := H
 go_enter Try.func14, Try.ntmps14
 go_wp2_with (first | ((with_reducible refine gate_dst (N := 2) rfl ?_); refine box_event ?hg (N := 2) ?hd (cs := #[.slice none 0 0]) (t := 26) ?hr ?_; (case hd => rfl); (case hg => rfl); (case hr => first | (go_simp; done) | (go_simp; rfl)); intro gb397 hg w3 hbox hb; have BK397 := aS_ (hbox); have GW397 := gE_ HB hg; have GE397 := gE_ HB hg; replace HB := bE_ HB hb; clear hb hbox hg) | ((with_reducible refine gate_callee (f := 42) rfl ?_); refine goesL_ (some 5) rfl rfl Try.func42 (by kernel_rfl) rfl #[.slice A0 l0.length c0] rfl aR_ ?_; (with_reducible refine (spec_DrawFindKey.calls k _ _ l0 t398 t401 _ ?side1 ?side2 A2.out).mono ?_); (case side1 => exact cB_ HR0 HB); (case side2 => exact HC0.out); rintro e w4 ⟨v399, rfl, ho0, hb⟩; refine ⟨_, rfl, ?_⟩; have HO400 := aS_ (Kd.R_lower ho0 (below_size (bb_ HB))); replace BK397 := kO_ BK397 hb; replace HB := bE_ HB hb; (try clear hb); (try clear ho0); obtain ⟨Ao5, co5, eo5⟩ := Kd.R_slice HO400.out; subst eo5; have hcz6_0 : w4.cell? ⟨gb397, 0, none⟩ = some (.slice none 0 0) := (blk_cell BK397.out 0).trans rfl; have hfz6_0 := blk_frozen BK397.out 0))
 refine bodyPost_ret (results_ct rfl _ _ gb397 26 #[.slice Ao5 t398.length co5] (0, 0) _ rfl (by (with_reducible repeat (first | refine kN_ ?_ _ | refine kD_ ?_ | refine kA_ ?_ _)); refine blk_put (cs := #[.slice none 0 0]) ?_ 0 _ rfl; (with_reducible repeat (first | refine kN_ ?_ _ | refine kD_ ?_ | refine kA_ ?_ _)); exact BK397.out) Try.underlying26 rfl (by kernel_rfl)) rfl ?_
 exact ⟨_, by first | rfl | (simp [errW_none, errW_some] <;> rfl) | (simp [*, errW_none, errW_some] <;> rfl), by (with_reducible repeat (first | apply rA_ | apply rN_ | apply rD_)); exact Kd.R_mono (Kd.R_far (p := ⟨gb397, 0, none⟩) (Kd.R_types HO400.out BK397.out (by decide)) (fun _ hk => hk.2) (.slice Ao5 t398.length co5)) (fun _ hk => trivial), bb_ HB⟩
/-! ### spec_prPlace: function 43 -/
def spec_prPlace.l0 : Nat → Int → List Int → Int → Int → Option (Int)
 | 0, _, _, _, _ => none
 | k + 1, x1, x8, x9, x10 => if x10 < x9 then (if 0 ≤ x10 then (if x10 < (x8.length : Int) then (if (rd x8 x10) = x1 then (some x10) else (spec_prPlace.l0 k x1 x8 x9 (wrap64 (x10 + 1)))) else (none)) else (none)) else (some (-1))
def spec_prPlace.f (k : Nat) (l0_0 : List Int) (a1 : Int) : Option (Int) := spec_prPlace.l0 k a1 l0_0 (l0_0.length : Int) 0
theorem spec_prPlace.mono_l : ∀ k, (∀ y0 y1 y2 y3, LeO (spec_prPlace.l0 k y0 y1 y2 y3) (spec_prPlace.l0 (k + 1) y0 y1 y2 y3))
 | 0 => fun _ _ _ _ r h => by simp [spec_prPlace.l0] at h
 | k + 1 => by
  have ih0 := spec_prPlace.mono_l k
  ·intro y0 y1 y2 y3
   unfold spec_prPlace.l0
   repeat' first
   | (with_reducible exact ih0 _ _ _ _)
   | (with_reducible exact LeO.refl _)
   | (with_reducible exact LeO.none _)
   | (with_reducible refine LeO.ite ?_ ?_)
   | (with_reducible refine LeO.bind ?_ (fun _ => ?_))
   | exact ih0 _ _ _ _
   | exact LeO.none _
   | refine LeO.ite ?_ ?_
   | refine LeO.bind ?_ (fun _ => ?_)
theorem spec_prPlace.mono : ∀ a0 a1 k, LeO (spec_prPlace.f k a0 a1) (spec_prPlace.f (k + 1) a0 a1) := by
 intro a0 a1 k
 have ih0 := spec_prPlace.mono_l k
 unfold spec_prPlace.f
 repeat' first
   | (with_reducible exact ih0 _ _ _ _)
   | (with_reducible exact LeO.refl _)
   | (with_reducible exact LeO.none _)
   | (with_reducible refine LeO.ite ?_ ?_)
   | (with_reducible refine LeO.bind ?_ (fun _ => ?_))
   | exact ih0 _ _ _ _
   | exact LeO.none _
   | refine LeO.ite ?_ ?_
   | refine LeO.bind ?_ (fun _ => ?_)
set_option maxHeartbeats 8000000 in
set_option maxRecDepth 100000 in
theorem spec_prPlace.calls (k : Nat) (A0_0 : Option Addr) (c0_0 : Nat) (l0_0 : List Int) (a1 : Int) (r : Int) (w : World) (hr0_0 : Kd.C (Kd.int .i64) w A0_0 l0_0.length l0_0) (hc0_0 : l0_0.length ≤ c0_0) (h : spec_prPlace.f k l0_0 a1 = some r) :
  Calls Try.prog 43 #[.agg #[.slice A0_0 l0_0.length c0_0], .int .i64 a1] w fun e w' => e = .returned (.int .i64 r) ∧ Below w.heap.size w w' := by
 have hu26 := Try.underlying26
 have HR0_0 := aS_ hr0_0
 have HC0_0 := aS_ hc0_0
 clear hr0_0 hc0_0
 have HB := aS_ (Below.refl w.heap.size w)
 have H : (spec_prPlace.l0 k a1 l0_0 (l0_0.length : Int) 0) = some r := h
 clear h
 have H' := aS_ H
 clear H
 go_enter Try.func43, Try.ntmps43
 go_wp2_with (first | ((with_reducible refine gate_dst (N := 2) rfl ?_); refine box_event ?hg (N := 2) ?hd (cs := #[.slice A0_0 l0_0.length c0_0]) (t := 26) ?hr ?_; (case hd => rfl); (case hg => rfl); (case hr => first | (go_simp; done) | (go_simp; rfl)); intro gb402 hg w3 hbox hb; have BK402 := aS_ (hbox); have GW402 := gE_ HB hg; have GE402 := gE_ HB hg; replace HB := bE_ HB hb; clear hb hbox hg; have hcz4_0 : w3.cell? ⟨gb402, 0, none⟩ = some (.slice A0_0 l0_0.length c0_0) := (blk_cell BK402.out 0).trans rfl; have hfz4_0 := blk_frozen BK402.out 0))
 go_loopg [10] k (fun kq v10 w' => ∃ (x10_1 : Int), v10 = .int .i64 x10_1 ∧ Aside0 (spec_prPlace.l0 kq a1 l0_0 (l0_0.length : Int) x10_1 = some r) ∧ Aside0 (kq ≤ k) ∧ Aside0 (w'.heap[gb402]? = some (.cells #[(.slice A0_0 l0_0.length c0_0)] 26 (0, 0))) ∧ Aside0 (Below w.heap.size w w'))
 case atStart => exact ⟨(0), sR_, H', ⟨Nat.le_refl _⟩, ⟨kk_ BK402⟩, ⟨bb_ HB⟩⟩
 case round =>
  clear H'
  try clear p2
  try clear c4
  try clear hcz4_0
  try clear hfz4_0
  obtain ⟨x10_1, rfl, HA, HK1, BK402, HB⟩ := hrel
  cases gk with
  | zero => exact absurd HA.out (by simp [spec_prPlace.l0])
  | succ k1 =>
   have H := HA.out
   clear HA
   simp only [spec_prPlace.l0] at H
   by_cases c5 : x10_1 < (l0_0.length : Int)
   ·rw [if_pos c5] at H
    have c5b0 : decide (x10_1 < (l0_0.length : Int)) = true := decide_eq_true c5
    clear c5
    by_cases c6 : 0 ≤ x10_1
    ·rw [if_pos c6] at H
     have c6b0 : decide (0 ≤ x10_1) = true := decide_eq_true c6
     clear c6
     by_cases c7 : x10_1 < (l0_0.length : Int)
     ·rw [if_pos c7] at H
      have c7b0 : decide (x10_1 < (l0_0.length : Int)) = true := decide_eq_true c7
      clear c7
      by_cases c8 : (rd l0_0 x10_1) = a1
      ·rw [if_pos c8] at H
       have c8b0 : ((rd l0_0 x10_1) == a1) = true := beq_iff_eq.mpr c8
       have c8b1 : ((rd l0_0 x10_1) != a1) = false := bne_eq_false_iff_eq.mpr c8
       clear c8
       obtain rfl := Option.some.inj H
       have p403 : 0 ≤ (x10_1 : Int) := of_decide_eq_true (by assumption)
       have q403 : x10_1 < (l0_0.length : Int) := of_decide_eq_true (by assumption)
       obtain ⟨ad403, e403, hx403_0⟩ := Kd.at_int HR0_0.out x10_1 p403 q403
       cases e403
       replace hx403_0 := (HB.out.cell (World.block_lt_of_cell? w _ hx403_0)).trans hx403_0
       replace p403 := eq_true p403
       replace q403 := eq_true q403
       go_wp2
       go_ret
       exact ⟨eR_, bb_ HB⟩
      ·rw [if_neg c8] at H
       have c8b0 : ((rd l0_0 x10_1) == a1) = false := beq_eq_false_iff_ne.mpr c8
       have c8b1 : ((rd l0_0 x10_1) != a1) = true := bne_iff_ne.mpr c8
       have H' := aS_ H
       clear H
       have p403 : 0 ≤ (x10_1 : Int) := of_decide_eq_true (by assumption)
       have q403 : x10_1 < (l0_0.length : Int) := of_decide_eq_true (by assumption)
       obtain ⟨ad403, e403, hx403_0⟩ := Kd.at_int HR0_0.out x10_1 p403 q403
       cases e403
       replace hx403_0 := (HB.out.cell (World.block_lt_of_cell? w _ hx403_0)).trans hx403_0
       replace p403 := eq_true p403
       replace q403 := eq_true q403
       go_wp2
       go_roundg k1
       case measure => have := HK1.out; omega
       case rel => exact ⟨(wrap64 (x10_1 + 1)), sR_, H', ⟨by have := HK1.out; omega⟩, ⟨kk_ BK402⟩, ⟨bb_ HB⟩⟩
     ·rw [if_neg c7] at H
      exact absurd H (by simp)
    ·rw [if_neg c6] at H
     exact absurd H (by simp)
   ·rw [if_neg c5] at H
    have c5b0 : decide (x10_1 < (l0_0.length : Int)) = false := decide_eq_false c5
    clear c5
    obtain rfl := Option.some.inj H
    go_wp2
    go_ret
    exact ⟨eR_, bb_ HB⟩
/-! ### spec_RemoveKey: function 15 -/
mutual
def spec_RemoveKey.j0 : Nat → Int → Bool → List Int → Option (List Int × Bool)
 | 0, _, _, _ => none
 | k + 1, x1, x24, x405000 => if x24 = true then (some (([] : List Int), false)) else ((spec_l1Own.f x405000).bind fun t409 => ((spec_prPlace.f k x405000 x1).bind fun t413 => (if 0 ≤ t413 then (if t413 < (t409.length : Int) then (if (t409.length : Int) = 0 then (none) else (spec_RemoveKey.l0 k (t409.length : Int) t413 (Int.tmod (wrap64 (t413 + 1)) (t409.length : Int)) (t409.set (t413 : Int).toNat (-1)))) else (none)) else (none))))
def spec_RemoveKey.l0 : Nat → Int → Int → Int → List Int → Option (List Int × Bool)
 | 0, _, _, _, _ => none
 | k + 1, x7, x8, x9, x413000 => if 0 ≤ x9 then (if x9 < (x413000.length : Int) then (if (rd x413000 x9) = (-1) then (some (x413000, true)) else ((spec_prCost.f (rd x413000 x9) x9 x7).bind fun t417 => (if x7 = 0 then (none) else (if t417 ≥ (Int.tmod (wrap64 ((wrap64 (x9 - x8)) + x7)) x7) then (if 0 ≤ x8 then (if x8 < (x413000.length : Int) then (spec_RemoveKey.l0 k x7 x9 (Int.tmod (wrap64 (x9 + 1)) x7) ((x413000.set (x8 : Int).toNat (rd x413000 x9)).set (x9 : Int).toNat (-1))) else (none)) else (none)) else (spec_RemoveKey.l0 k x7 x8 (Int.tmod (wrap64 (x9 + 1)) x7) x413000))))) else (none)) else (none)
end
def spec_RemoveKey.f (k : Nat) (l0_0 : List Int) (a1 : Int) : Option (List Int × Bool) := (spec_prGood.f k l0_0).bind fun t406 => (if t406 = true then ((spec_prKey.f a1).bind fun t407 => (if t407 = true then ((spec_prPlace.f k l0_0 a1).bind fun t408 => (spec_RemoveKey.j0 k a1 (decide (t408 < 0)) l0_0)) else (spec_RemoveKey.j0 k a1 true l0_0))) else (spec_RemoveKey.j0 k a1 true l0_0))
theorem spec_RemoveKey.mono_l : ∀ k, (∀ y0 y1 y2, LeO (spec_RemoveKey.j0 k y0 y1 y2) (spec_RemoveKey.j0 (k + 1) y0 y1 y2)) ∧ (∀ y0 y1 y2 y3, LeO (spec_RemoveKey.l0 k y0 y1 y2 y3) (spec_RemoveKey.l0 (k + 1) y0 y1 y2 y3))
 | 0 => ⟨fun _ _ _ r h => by simp [spec_RemoveKey.j0] at h, fun _ _ _ _ r h => by simp [spec_RemoveKey.l0] at h⟩
 | k + 1 => by
  obtain ⟨ih0, ih1⟩ := spec_RemoveKey.mono_l k
  refine ⟨?_, ?_⟩
  ·intro y0 y1 y2
   unfold spec_RemoveKey.j0
   repeat' first
   | (with_reducible exact ih0 _ _ _)
   | (with_reducible exact ih1 _ _ _ _)
   | (with_reducible exact spec_prGood.mono _ _)
   | (with_reducible exact spec_prPlace.mono _ _ _)
   | (with_reducible exact LeO.refl _)
   | (with_reducible exact LeO.none _)
   | (with_reducible refine LeO.ite ?_ ?_)
   | (with_reducible refine LeO.bind ?_ (fun _ => ?_))
   | exact ih0 _ _ _
   | exact ih1 _ _ _ _
   | exact spec_prGood.mono _ _
   | exact spec_prPlace.mono _ _ _
   | exact LeO.none _
   | refine LeO.ite ?_ ?_
   | refine LeO.bind ?_ (fun _ => ?_)
  ·intro y0 y1 y2 y3
   unfold spec_RemoveKey.l0
   repeat' first
   | (with_reducible exact ih0 _ _ _)
   | (with_reducible exact ih1 _ _ _ _)
   | (with_reducible exact spec_prGood.mono _ _)
   | (with_reducible exact spec_prPlace.mono _ _ _)
   | (with_reducible exact LeO.refl _)
   | (with_reducible exact LeO.none _)
   | (with_reducible refine LeO.ite ?_ ?_)
   | (with_reducible refine LeO.bind ?_ (fun _ => ?_))
   | exact ih0 _ _ _
   | exact ih1 _ _ _ _
   | exact spec_prGood.mono _ _
   | exact spec_prPlace.mono _ _ _
   | exact LeO.none _
   | refine LeO.ite ?_ ?_
   | refine LeO.bind ?_ (fun _ => ?_)
theorem spec_RemoveKey.mono : ∀ a0 a1 k, LeO (spec_RemoveKey.f k a0 a1) (spec_RemoveKey.f (k + 1) a0 a1) := by
 intro a0 a1 k
 obtain ⟨ih0, ih1⟩ := spec_RemoveKey.mono_l k
 unfold spec_RemoveKey.f
 repeat' first
   | (with_reducible exact ih0 _ _ _)
   | (with_reducible exact ih1 _ _ _ _)
   | (with_reducible exact spec_prGood.mono _ _)
   | (with_reducible exact spec_prPlace.mono _ _ _)
   | (with_reducible exact LeO.refl _)
   | (with_reducible exact LeO.none _)
   | (with_reducible refine LeO.ite ?_ ?_)
   | (with_reducible refine LeO.bind ?_ (fun _ => ?_))
   | exact ih0 _ _ _
   | exact ih1 _ _ _ _
   | exact spec_prGood.mono _ _
   | exact spec_prPlace.mono _ _ _
   | exact LeO.none _
   | refine LeO.ite ?_ ?_
   | refine LeO.bind ?_ (fun _ => ?_)
set_option maxHeartbeats 8000000 in
set_option maxRecDepth 100000 in
theorem spec_RemoveKey.calls (k : Nat) (A0_0 : Option Addr) (c0_0 : Nat) (l0_0 : List Int) (a1 : Int) (r1 : List Int) (r2 : Bool) (w : World) (hr0_0 : Kd.C (Kd.int .i64) w A0_0 l0_0.length l0_0) (hc0_0 : l0_0.length ≤ c0_0) (h : spec_RemoveKey.f k l0_0 a1 = some (r1, r2)) :
  Calls Try.prog 15 #[.agg #[.slice A0_0 l0_0.length c0_0], .int .i64 a1] w fun e w' => ∃ v0_ : Value, e = .returned (.tuple #[.agg #[v0_], .bool r2]) ∧ Kd.R (Kd.int .i64) 3 w' w.heap.size (fun _ => True) v0_ r1 ∧ Below w.heap.size w w' := by
 have hu26 := Try.underlying26
 have HR0_0 := aS_ hr0_0
 have HC0_0 := aS_ hc0_0
 clear hr0_0 hc0_0
 have HB := aS_ (Below.refl w.heap.size w)
 have H : ((spec_prGood.f k l0_0).bind fun t406 => (if t406 = true then ((spec_prKey.f a1).bind fun t407 => (if t407 = true then ((spec_prPlace.f k l0_0 a1).bind fun t408 => (spec_RemoveKey.j0 k a1 (decide (t408 < 0)) l0_0)) else (spec_RemoveKey.j0 k a1 true l0_0))) else (spec_RemoveKey.j0 k a1 true l0_0))) = some (r1, r2) := h
 clear h
 have HC3 := aS_ H
 clear H
 go_enter Try.func15, Try.ntmps15
 go_upto_region 1 with (first | ((with_reducible refine gate_dst (N := 2) rfl ?_); refine box_event ?hg (N := 2) ?hd (cs := #[.slice A0_0 l0_0.length c0_0]) (t := 26) ?hr ?_; (case hd => rfl); (case hg => rfl); (case hr => first | (go_simp; done) | (go_simp; rfl)); intro gb404 hg w4 hbox hb; have BK404 := aS_ (hbox); have GW404 := gE_ HB hg; have GE404 := gE_ HB hg; replace HB := bE_ HB hb; clear hb hbox hg) | ((with_reducible refine gate_dst (N := 4) rfl ?_); refine box_event ?hg (N := 4) ?hd (cs := #[.slice none 0 0]) (t := 26) ?hr ?_; (case hd => rfl); (case hg => rfl); (case hr => first | (go_simp; done) | (go_simp; rfl)); intro gb405 hg w5 hbox hb; have BK405 := aS_ (hbox); have GW405 := gE_ HB hg; have GE405 := gE_ HB hg; replace HB := bE_ HB hb; have NB404_405 := nL_ BK404 hg; have NB405_404 := nG_ BK404 hg; replace BK404 := kO_ BK404 hb; clear hb hbox hg))
 repeat (go_quiet (first | ((with_reducible refine gate_dst (N := 2) rfl ?_); refine box_event ?hg (N := 2) ?hd (cs := #[.slice A0_0 l0_0.length c0_0]) (t := 26) ?hr ?_; (case hd => rfl); (case hg => rfl); (case hr => first | (go_simp; done) | (go_simp; rfl)); intro gb404 hg w4 hbox hb; have BK404 := aS_ (hbox); have GW404 := gE_ HB hg; have GE404 := gE_ HB hg; replace HB := bE_ HB hb; clear hb hbox hg) | ((with_reducible refine gate_dst (N := 4) rfl ?_); refine box_event ?hg (N := 4) ?hd (cs := #[.slice none 0 0]) (t := 26) ?hr ?_; (case hd => rfl); (case hg => rfl); (case hr => first | (go_simp; done) | (go_simp; rfl)); intro gb405 hg w5 hbox hb; have BK405 := aS_ (hbox); have GW405 := gE_ HB hg; have GE405 := gE_ HB hg; replace HB := bE_ HB hb; have NB404_405 := nL_ BK404 hg; have NB405_404 := nG_ BK404 hg; replace BK404 := kO_ BK404 hb; clear hb hbox hg)); go_upto_region 1 with (first | ((with_reducible refine gate_dst (N := 2) rfl ?_); refine box_event ?hg (N := 2) ?hd (cs := #[.slice A0_0 l0_0.length c0_0]) (t := 26) ?hr ?_; (case hd => rfl); (case hg => rfl); (case hr => first | (go_simp; done) | (go_simp; rfl)); intro gb404 hg w4 hbox hb; have BK404 := aS_ (hbox); have GW404 := gE_ HB hg; have GE404 := gE_ HB hg; replace HB := bE_ HB hb; clear hb hbox hg) | ((with_reducible refine gate_dst (N := 4) rfl ?_); refine box_event ?hg (N := 4) ?hd (cs := #[.slice none 0 0]) (t := 26) ?hr ?_; (case hd => rfl); (case hg => rfl); (case hr => first | (go_simp; done) | (go_simp; rfl)); intro gb405 hg w5 hbox hb; have BK405 := aS_ (hbox); have GW405 := gE_ HB hg; have GE405 := gE_ HB hg; replace HB := bE_ HB hb; have NB404_405 := nL_ BK404 hg; have NB405_404 := nG_ BK404 hg; replace BK404 := kO_ BK404 hb; clear hb hbox hg)))
 (try simp only [Act.put, List.setIfInBounds_toArray, List.set_cons_zero, List.set_cons_succ])
 go_cut [24] (fun v24 wc => ∃ (kq : Nat) (x24_2 : Bool), v24 = .bool x24_2 ∧ Aside0 (spec_RemoveKey.j0 kq a1 x24_2 l0_0 = some (r1, r2)) ∧ Aside0 (kq ≤ k) ∧ Aside0 (wc.heap[gb404]? = some (.cells #[(.slice A0_0 l0_0.length c0_0)] 26 (0, 0))) ∧ Aside0 (wc.heap[gb405]? = some (.cells #[(.slice none 0 0)] 26 (0, 0))) ∧ Aside0 (Below w.heap.size w wc))
 case first =>
  have H := HC3.out
  clear HC3
  replace H := Option.bind_eq_some_iff.mp H
  obtain ⟨t406, A60, H⟩ := H
  have A6 := aS_ A60
  clear A60
  by_cases c7 : t406 = true
  ·subst c7
   rw [if_pos rfl] at H
   replace H := Option.bind_eq_some_iff.mp H
   obtain ⟨t407, A80, H⟩ := H
   have A8 := aS_ A80
   clear A80
   by_cases c9 : t407 = true
   ·subst c9
    rw [if_pos rfl] at H
    replace H := Option.bind_eq_some_iff.mp H
    obtain ⟨t408, A100, H⟩ := H
    have A10 := aS_ A100
    clear A100
    have H' := aS_ H
    clear H
    have hnb11 := NB404_405.out
    have hnc11 := NB405_404.out
    have hcz12_0 : w5.cell? ⟨gb404, 0, none⟩ = some (.slice A0_0 l0_0.length c0_0) := (blk_cell BK404.out 0).trans rfl
    have hfz12_0 := blk_frozen BK404.out 0
    go_wp2_with (first | (go_at_call 31; (with_reducible refine (spec_prGood.calls k _ _ l0_0 true _ ?side1 ?side2 A6.out).mono ?_); (case side1 => exact cB_ HR0_0 HB); (case side2 => exact HC0_0.out); rintro e w13 ⟨rfl, hb⟩; replace BK404 := kO_ BK404 hb; replace BK405 := kO_ BK405 hb; replace HB := bE_ HB hb; (try clear hb)) | (go_at_call 32; (with_reducible refine (spec_prKey.calls a1 true _ A8.out).mono ?_); rintro e w' ⟨rfl, ⟨nd, rfl⟩⟩; (try exact dR_); have hcz14_0 : w13.cell? ⟨gb404, 0, none⟩ = some (.slice A0_0 l0_0.length c0_0) := (blk_cell BK404.out 0).trans rfl; have hfz14_0 := blk_frozen BK404.out 0) | (go_at_call 43; (with_reducible refine (spec_prPlace.calls k _ _ l0_0 a1 t408 _ ?side1 ?side2 A10.out).mono ?_); (case side1 => exact cD_ HR0_0 HB); (case side2 => exact HC0_0.out); rintro e w15 ⟨rfl, hb⟩; replace BK404 := kO_ BK404 hb; replace BK405 := kO_ BK405 hb; replace HB := bE_ HB hb; (try clear hb)))
    repeat (go_quiet (first | (go_at_call 31; (with_reducible refine (spec_prGood.calls k _ _ l0_0 true _ ?side1 ?side2 A6.out).mono ?_); (case side1 => exact cB_ HR0_0 HB); (case side2 => exact HC0_0.out); rintro e w13 ⟨rfl, hb⟩; replace BK404 := kO_ BK404 hb; replace BK405 := kO_ BK405 hb; replace HB := bE_ HB hb; (try clear hb)) | (go_at_call 32; (with_reducible refine (spec_prKey.calls a1 true _ A8.out).mono ?_); rintro e w' ⟨rfl, ⟨nd, rfl⟩⟩; (try exact dR_); have hcz14_0 : w13.cell? ⟨gb404, 0, none⟩ = some (.slice A0_0 l0_0.length c0_0) := (blk_cell BK404.out 0).trans rfl; have hfz14_0 := blk_frozen BK404.out 0) | (go_at_call 43; (with_reducible refine (spec_prPlace.calls k _ _ l0_0 a1 t408 _ ?side1 ?side2 A10.out).mono ?_); (case side1 => exact cD_ HR0_0 HB); (case side2 => exact HC0_0.out); rintro e w15 ⟨rfl, hb⟩; replace BK404 := kO_ BK404 hb; replace BK405 := kO_ BK405 hb; replace HB := bE_ HB hb; (try clear hb))); try go_wp2_with (first | (go_at_call 31; (with_reducible refine (spec_prGood.calls k _ _ l0_0 true _ ?side1 ?side2 A6.out).mono ?_); (case side1 => exact cB_ HR0_0 HB); (case side2 => exact HC0_0.out); rintro e w13 ⟨rfl, hb⟩; replace BK404 := kO_ BK404 hb; replace BK405 := kO_ BK405 hb; replace HB := bE_ HB hb; (try clear hb)) | (go_at_call 32; (with_reducible refine (spec_prKey.calls a1 true _ A8.out).mono ?_); rintro e w' ⟨rfl, ⟨nd, rfl⟩⟩; (try exact dR_); have hcz14_0 : w13.cell? ⟨gb404, 0, none⟩ = some (.slice A0_0 l0_0.length c0_0) := (blk_cell BK404.out 0).trans rfl; have hfz14_0 := blk_frozen BK404.out 0) | (go_at_call 43; (with_reducible refine (spec_prPlace.calls k _ _ l0_0 a1 t408 _ ?side1 ?side2 A10.out).mono ?_); (case side1 => exact cD_ HR0_0 HB); (case side2 => exact HC0_0.out); rintro e w15 ⟨rfl, hb⟩; replace BK404 := kO_ BK404 hb; replace BK405 := kO_ BK405 hb; replace HB := bE_ HB hb; (try clear hb))))
    go_meet
    case rel => exact ⟨_, (decide (t408 < 0)), sR_, H', ⟨by first | omega | exact Nat.le_refl _⟩, ⟨kk_ BK404⟩, ⟨kk_ BK405⟩, ⟨bb_ HB⟩⟩
   ·replace c9 := Bool.eq_false_iff.mpr c9
    subst c9
    rw [if_neg (show ¬ (false = true) by decide)] at H
    have H' := aS_ H
    clear H
    have hnb16 := NB404_405.out
    have hnc16 := NB405_404.out
    have hcz17_0 : w5.cell? ⟨gb404, 0, none⟩ = some (.slice A0_0 l0_0.length c0_0) := (blk_cell BK404.out 0).trans rfl
    have hfz17_0 := blk_frozen BK404.out 0
    go_wp2_with (first | (go_at_call 31; (with_reducible refine (spec_prGood.calls k _ _ l0_0 true _ ?side1 ?side2 A6.out).mono ?_); (case side1 => exact cB_ HR0_0 HB); (case side2 => exact HC0_0.out); rintro e w18 ⟨rfl, hb⟩; replace BK404 := kO_ BK404 hb; replace BK405 := kO_ BK405 hb; replace HB := bE_ HB hb; (try clear hb)) | (go_at_call 32; (with_reducible refine (spec_prKey.calls a1 false _ A8.out).mono ?_); rintro e w' ⟨rfl, ⟨nd, rfl⟩⟩; (try exact dR_)))
    repeat (go_quiet (first | (go_at_call 31; (with_reducible refine (spec_prGood.calls k _ _ l0_0 true _ ?side1 ?side2 A6.out).mono ?_); (case side1 => exact cB_ HR0_0 HB); (case side2 => exact HC0_0.out); rintro e w18 ⟨rfl, hb⟩; replace BK404 := kO_ BK404 hb; replace BK405 := kO_ BK405 hb; replace HB := bE_ HB hb; (try clear hb)) | (go_at_call 32; (with_reducible refine (spec_prKey.calls a1 false _ A8.out).mono ?_); rintro e w' ⟨rfl, ⟨nd, rfl⟩⟩; (try exact dR_))); try go_wp2_with (first | (go_at_call 31; (with_reducible refine (spec_prGood.calls k _ _ l0_0 true _ ?side1 ?side2 A6.out).mono ?_); (case side1 => exact cB_ HR0_0 HB); (case side2 => exact HC0_0.out); rintro e w18 ⟨rfl, hb⟩; replace BK404 := kO_ BK404 hb; replace BK405 := kO_ BK405 hb; replace HB := bE_ HB hb; (try clear hb)) | (go_at_call 32; (with_reducible refine (spec_prKey.calls a1 false _ A8.out).mono ?_); rintro e w' ⟨rfl, ⟨nd, rfl⟩⟩; (try exact dR_))))
    go_meet
    case rel => exact ⟨_, (true), sR_, H', ⟨by first | omega | exact Nat.le_refl _⟩, ⟨kk_ BK404⟩, ⟨kk_ BK405⟩, ⟨bb_ HB⟩⟩
  ·replace c7 := Bool.eq_false_iff.mpr c7
   subst c7
   rw [if_neg (show ¬ (false = true) by decide)] at H
   have H' := aS_ H
   clear H
   have hnb19 := NB404_405.out
   have hnc19 := NB405_404.out
   have hcz20_0 : w5.cell? ⟨gb404, 0, none⟩ = some (.slice A0_0 l0_0.length c0_0) := (blk_cell BK404.out 0).trans rfl
   have hfz20_0 := blk_frozen BK404.out 0
   go_wp2_with (first | (go_at_call 31; (with_reducible refine (spec_prGood.calls k _ _ l0_0 false _ ?side1 ?side2 A6.out).mono ?_); (case side1 => exact cB_ HR0_0 HB); (case side2 => exact HC0_0.out); rintro e w21 ⟨rfl, hb⟩; replace BK404 := kO_ BK404 hb; replace BK405 := kO_ BK405 hb; replace HB := bE_ HB hb; (try clear hb)))
   repeat (go_quiet (first | (go_at_call 31; (with_reducible refine (spec_prGood.calls k _ _ l0_0 false _ ?side1 ?side2 A6.out).mono ?_); (case side1 => exact cB_ HR0_0 HB); (case side2 => exact HC0_0.out); rintro e w21 ⟨rfl, hb⟩; replace BK404 := kO_ BK404 hb; replace BK405 := kO_ BK405 hb; replace HB := bE_ HB hb; (try clear hb))); try go_wp2_with (first | (go_at_call 31; (with_reducible refine (spec_prGood.calls k _ _ l0_0 false _ ?side1 ?side2 A6.out).mono ?_); (case side1 => exact cB_ HR0_0 HB); (case side2 => exact HC0_0.out); rintro e w21 ⟨rfl, hb⟩; replace BK404 := kO_ BK404 hb; replace BK405 := kO_ BK405 hb; replace HB := bE_ HB hb; (try clear hb))))
   go_meet
   case rel => exact ⟨_, (true), sR_, H', ⟨by first | omega | exact Nat.le_refl _⟩, ⟨kk_ BK404⟩, ⟨kk_ BK405⟩, ⟨bb_ HB⟩⟩
 case rest =>
  clear HC3
  try clear c1
  try clear p2
  try clear c7
  try clear c9
  try clear c11
  try clear c15
  try clear c16
  try clear c19
  try clear hcz12_0
  try clear hcz14_0
  try clear hcz17_0
  try clear hcz20_0
  try clear hfz12_0
  try clear hfz14_0
  try clear hfz17_0
  try clear hfz20_0
  obtain ⟨kq, x24_2, rfl, HA, HJ2, BK404, BK405, HB⟩ := hcut
  cases kq with
  | zero => exact absurd HA.out (by simp [spec_RemoveKey.j0])
  | succ kj2 =>
   have H := HA.out
   clear HA
   simp only [spec_RemoveKey.j0] at H
   by_cases c22 : x24_2 = true
   ·subst c22
    rw [if_pos rfl] at H
    simp only [Option.some.injEq, Prod.mk.injEq] at H
    obtain ⟨rfl, rfl⟩ := H
    have hnb23 := NB405_404.out
    have hnc23 := NB404_405.out
    have hcz24_0 : wc.cell? ⟨gb405, 0, none⟩ = some (.slice none 0 0) := (blk_cell BK405.out 0).trans rfl
    have hfz24_0 := blk_frozen BK405.out 0
    go_wp2
    repeat (go_quiet (fail); try go_wp2)
    refine bodyPost_ret (results_ct rfl _ _ gb405 26 #[.slice none 0 0] (0, 0) _ rfl (by (with_reducible repeat (first | refine kN_ ?_ _ | refine kD_ ?_ | refine kA_ ?_ _)); refine blk_put (cs := #[.slice none 0 0]) ?_ 0 _ rfl; (with_reducible repeat (first | refine kN_ ?_ _ | refine kD_ ?_ | refine kA_ ?_ _)); exact BK405.out) Try.underlying26 rfl (by kernel_rfl)) rfl ?_
    exact ⟨_, by first | rfl | (simp [errW_none, errW_some] <;> rfl) | (simp [*, errW_none, errW_some] <;> rfl), by first | exact Kd.R_nil _ _ _ _ _ | exact Kd.N_nil _ _ _ _ _ | exact Kd.V_nil _ _ _ _ _ | exact Kd.Q_nil _ _ _ _ _ | exact Kd.S_nil _ _ _ _ _, bb_ HB⟩
   ·replace c22 := Bool.eq_false_iff.mpr c22
    subst c22
    rw [if_neg (show ¬ (false = true) by decide)] at H
    replace H := Option.bind_eq_some_iff.mp H
    obtain ⟨t409, A250, H⟩ := H
    have A25 := aS_ A250
    clear A250
    replace H := Option.bind_eq_some_iff.mp H
    obtain ⟨t413, A260, H⟩ := H
    have A26 := aS_ A260
    clear A260
    by_cases c27 : 0 ≤ t413
    ·rw [if_pos c27] at H
     have c27b0 : decide (0 ≤ t413) = true := decide_eq_true c27
     clear c27
     by_cases c28 : t413 < (t409.length : Int)
     ·rw [if_pos c28] at H
      have c28b0 : decide (t413 < (t409.length : Int)) = true := decide_eq_true c28
      clear c28
      obtain ⟨y414, hy414⟩ : ∃ y_ : List Int, y_ = (t409.set (t413 : Int).toNat (-1)) := ⟨_, rfl⟩
      replace H : (if (t409.length : Int) = 0 then (none) else (spec_RemoveKey.l0 kj2 (t409.length : Int) t413 (Int.tmod (wrap64 (t413 + 1)) (t409.length : Int)) y414)) = some (r1, r2) := by first | (rw [hy414]; with_reducible exact H) | (have H2_ := (Option.bind_some _ _).symm.trans H; rw [hy414]; with_reducible exact H2_) | (have H2_ := (Option.bind_some _ _).symm.trans H; with_reducible exact H2_) | with_reducible exact H | (rw [hy414]; exact H) | exact H
      have Ny414 := aS_ hy414
      clear hy414
      by_cases c30 : (t409.length : Int) = 0
      ·rw [if_pos c30] at H
       exact absurd H (by simp)
      ·rw [if_neg c30] at H
       have c30b0 : ((t409.length : Int) == 0) = false := beq_eq_false_iff_ne.mpr c30
       have c30b1 : ((t409.length : Int) != 0) = true := bne_iff_ne.mpr c30
       have c30b2 : ¬ (t409 = []) := fun h_ => c30 (by rw [h_]; rfl)
       have H' := aS_ H
       clear H
       have hnb31 := NB404_405.out
       have hnc31 := NB405_404.out
       have hcz32_0 : wc.cell? ⟨gb404, 0, none⟩ = some (.slice A0_0 l0_0.length c0_0) := (blk_cell BK404.out 0).trans rfl
       have hfz32_0 := blk_frozen BK404.out 0
       go_wp2_with (first | (go_at_call 35; (with_reducible refine (spec_l1Own.calls _ _ l0_0 t409 _ ?side1 ?side2 A25.out).mono ?_); (case side1 => exact cB_ HR0_0 HB); (case side2 => exact HC0_0.out); rintro e w33 ⟨v410, rfl, ho0, hb⟩; have HO411 := aS_ (Kd.R_lower ho0 (below_size (bb_ HB))); replace BK404 := kO_ BK404 hb; replace BK405 := kO_ BK405 hb; replace HB := bE_ HB hb; (try clear hb); (try clear ho0); obtain ⟨Ao34, co34, eo34⟩ := Kd.R_slice HO411.out; subst eo34) | ((with_reducible refine gate_dst (N := 6) rfl ?_); refine box_event ?hg (N := 6) ?hd (cs := #[.slice none 0 0]) (t := 26) ?hr ?_; (case hd => rfl); (case hg => rfl); (case hr => first | (go_simp; done) | (go_simp; rfl)); intro gb412 hg w35 hbox hb; replace HO411 := aS_ (Kd.R_below (rr_ HO411) hb); have BK412 := aS_ (hbox); have GW412 := gE_ HB hg; have GE412 := gE_ HB hg; replace HB := bE_ HB hb; have NB404_412 := nL_ BK404 hg; have NB412_404 := nG_ BK404 hg; replace BK404 := kO_ BK404 hb; have NB405_412 := nL_ BK405 hg; have NB412_405 := nG_ BK405 hg; replace BK405 := kO_ BK405 hb; clear hb hbox hg; have hnb36 := NB412_404.out; have hnc36 := NB404_412.out; have hnb37 := NB412_405.out; have hnc37 := NB405_412.out; have hcz38_0 : w35.cell? ⟨gb412, 0, none⟩ = some (.slice none 0 0) := (blk_cell BK412.out 0).trans rfl; have hfz38_0 := blk_frozen BK412.out 0; have hcz39_0 : w35.cell? ⟨gb404, 0, none⟩ = some (.slice A0_0 l0_0.length c0_0) := (blk_cell BK404.out 0).trans rfl; have hfz39_0 := blk_frozen BK404.out 0) | (go_at_call 43; (with_reducible refine (spec_prPlace.calls kj2 _ _ l0_0 a1 t413 _ ?side1 ?side2 A26.out).mono ?_); (case side1 => exact Kd.C_below HR0_0.out (bb_ HB)); (case side2 => exact HC0_0.out); rintro e w40 ⟨rfl, hb⟩; replace HO411 := aS_ (Kd.R_below (by (with_reducible repeat (first | apply rA_ | apply rN_ | apply rD_)); exact (Kd.R_mono (Kd.R_far (p := ⟨gb412, 0, none⟩) (Kd.R_types HO411.out BK412.out (by decide)) (fun _ hk => hk.2) (.slice Ao34 t409.length co34)) (fun _ h_ => h_.1))) hb); replace BK404 := aS_ (blk_below (g := gb404) (o := .cells #[.slice A0_0 l0_0.length c0_0] 26 (0, 0)) (by (with_reducible repeat (first | refine kN_ ?_ _ | refine kD_ ?_ | refine kA_ ?_ _)); refine blk_far ?_ NB404_412.out _; (with_reducible repeat (first | refine kN_ ?_ _ | refine kD_ ?_ | refine kA_ ?_ _)); exact BK404.out) hb); replace BK405 := aS_ (blk_below (g := gb405) (o := .cells #[.slice none 0 0] 26 (0, 0)) (by (with_reducible repeat (first | refine kN_ ?_ _ | refine kD_ ?_ | refine kA_ ?_ _)); refine blk_far ?_ NB405_412.out _; (with_reducible repeat (first | refine kN_ ?_ _ | refine kD_ ?_ | refine kA_ ?_ _)); exact BK405.out) hb); replace BK412 := aS_ (blk_below (g := gb412) (o := .cells #[.slice Ao34 t409.length co34] 26 (0, 0)) (by (with_reducible repeat (first | refine kN_ ?_ _ | refine kD_ ?_ | refine kA_ ?_ _)); refine blk_put (cs := #[.slice none 0 0]) ?_ 0 _ rfl; (with_reducible repeat (first | refine kN_ ?_ _ | refine kD_ ?_ | refine kA_ ?_ _)); exact BK412.out) hb); replace HB := bE_ HB hb; (try clear hb); (try clear hk); have hcz41_0 : w40.cell? ⟨gb412, 0, none⟩ = some (.slice Ao34 t409.length co34) := (blk_cell BK412.out 0).trans rfl; have hfz41_0 := blk_frozen BK412.out 0; have p29 : 0 ≤ (t413 : Int) := of_decide_eq_true (by assumption); have q29 : (t413 : Int) < ((t409.length : Int) : Int) := of_decide_eq_true (by assumption); obtain ⟨go29, co29, eo29, gb29, gl29, cl29, HG29⟩ := Kd.R_form HO411.out (by omega); (first | cases eo29 | (injection eo29 with ea_ en_ ec_; (first | subst ea_ | (injection ea_ with ea_; subst ea_)); subst ec_; clear en_)); have GB29 := aS_ gb29; have GG29 := aS_ HG29; clear gb29 gl29 HG29; obtain ⟨hx29_0, hf29_0⟩ := Kd.R_celln 0 HO411.out (t413 : Int) p29 q29; replace p29 := eq_true p29; replace q29 := eq_true q29; obtain ⟨hy42_, hz42_⟩ := Kd.R_celln 0 HO411.out (t413 : Int) (of_decide_eq_true (by assumption)) (of_decide_eq_true (by assumption)); have HP42 := Kd.R_putg HO411.out (t413 : Int) (-1)) | ((with_reducible refine gate_store (t := 3) (p := 39) rfl ?_); (try (rw [drewN_self w40]; generalize hq_ : World.drewN w40 _ = w40; replace HO411 := aS_ (Kd.R_at hq_ HO411.out); replace BK404 := aS_ (blk_at hq_ BK404.out); replace BK405 := aS_ (blk_at hq_ BK405.out); replace BK412 := aS_ (blk_at hq_ BK412.out); replace HB := aS_ (below_at hq_ HB.out); clear hq_; (try (obtain ⟨hy42_, hz42_⟩ := Kd.R_celln 0 HO411.out (t413 : Int) (of_decide_eq_true (by assumption)) (of_decide_eq_true (by assumption)))); (try (have HP42 := Kd.R_putg HO411.out (t413 : Int) (-1))))); refine store_event (t := 3) (p := 39) (v := ?vo_w43) (w1 := (w40.setCell ⟨go29, (t413 : Int).toNat, none⟩ (.int .i64 (-1)))) ?hg ?ho ?hn ?hr ?_; (case ho => rfl); (case hg => rfl); (case hn => rfl); (case hr => first | (go_simp; done) | (go_simp; rfl)); intro w43 hw; have hg : w40.grownBy w43 (some go29) := (by rw [hw]; exact HP42.2); have hp_ : Kd.R (Kd.int .i64) 3 w43 w.heap.size (fun _ => True) (.slice (some ⟨go29, 0, none⟩) t409.length co34) y414 := (by rw [hw, Ny414.out]; exact HP42.1); clear HP42; replace BK404 := aS_ (blk_grown (g := gb404) (o := .cells #[.slice A0_0 l0_0.length c0_0] 26 (0, 0)) (kk_ BK404) hg (Kd.R_ne HO411.out BK404.out (by decide))); replace BK405 := aS_ (blk_grown (g := gb405) (o := .cells #[.slice none 0 0] 26 (0, 0)) (kk_ BK405) hg (Kd.R_ne HO411.out BK405.out (by decide))); replace BK412 := aS_ (blk_grown (g := gb412) (o := .cells #[.slice (some ⟨go29, 0, none⟩) t409.length co34] 26 (0, 0)) (kk_ BK412) hg (Kd.R_ne HO411.out BK412.out (by decide))); replace HO411 := aS_ (hp_); replace HB := aS_ ((by rw [hw]; exact bS_ (HB.out) GB29.out : Below w.heap.size w w43)); clear hg hw hp_))
       repeat (go_quiet (first | (go_at_call 35; (with_reducible refine (spec_l1Own.calls _ _ l0_0 t409 _ ?side1 ?side2 A25.out).mono ?_); (case side1 => exact cB_ HR0_0 HB); (case side2 => exact HC0_0.out); rintro e w33 ⟨v410, rfl, ho0, hb⟩; have HO411 := aS_ (Kd.R_lower ho0 (below_size (bb_ HB))); replace BK404 := kO_ BK404 hb; replace BK405 := kO_ BK405 hb; replace HB := bE_ HB hb; (try clear hb); (try clear ho0); obtain ⟨Ao34, co34, eo34⟩ := Kd.R_slice HO411.out; subst eo34) | ((with_reducible refine gate_dst (N := 6) rfl ?_); refine box_event ?hg (N := 6) ?hd (cs := #[.slice none 0 0]) (t := 26) ?hr ?_; (case hd => rfl); (case hg => rfl); (case hr => first | (go_simp; done) | (go_simp; rfl)); intro gb412 hg w35 hbox hb; replace HO411 := aS_ (Kd.R_below (rr_ HO411) hb); have BK412 := aS_ (hbox); have GW412 := gE_ HB hg; have GE412 := gE_ HB hg; replace HB := bE_ HB hb; have NB404_412 := nL_ BK404 hg; have NB412_404 := nG_ BK404 hg; replace BK404 := kO_ BK404 hb; have NB405_412 := nL_ BK405 hg; have NB412_405 := nG_ BK405 hg; replace BK405 := kO_ BK405 hb; clear hb hbox hg; have hnb36 := NB412_404.out; have hnc36 := NB404_412.out; have hnb37 := NB412_405.out; have hnc37 := NB405_412.out; have hcz38_0 : w35.cell? ⟨gb412, 0, none⟩ = some (.slice none 0 0) := (blk_cell BK412.out 0).trans rfl; have hfz38_0 := blk_frozen BK412.out 0; have hcz39_0 : w35.cell? ⟨gb404, 0, none⟩ = some (.slice A0_0 l0_0.length c0_0) := (blk_cell BK404.out 0).trans rfl; have hfz39_0 := blk_frozen BK404.out 0) | (go_at_call 43; (with_reducible refine (spec_prPlace.calls kj2 _ _ l0_0 a1 t413 _ ?side1 ?side2 A26.out).mono ?_); (case side1 => exact Kd.C_below HR0_0.out (bb_ HB)); (case side2 => exact HC0_0.out); rintro e w40 ⟨rfl, hb⟩; replace HO411 := aS_ (Kd.R_below (by (with_reducible repeat (first | apply rA_ | apply rN_ | apply rD_)); exact (Kd.R_mono (Kd.R_far (p := ⟨gb412, 0, none⟩) (Kd.R_types HO411.out BK412.out (by decide)) (fun _ hk => hk.2) (.slice Ao34 t409.length co34)) (fun _ h_ => h_.1))) hb); replace BK404 := aS_ (blk_below (g := gb404) (o := .cells #[.slice A0_0 l0_0.length c0_0] 26 (0, 0)) (by (with_reducible repeat (first | refine kN_ ?_ _ | refine kD_ ?_ | refine kA_ ?_ _)); refine blk_far ?_ NB404_412.out _; (with_reducible repeat (first | refine kN_ ?_ _ | refine kD_ ?_ | refine kA_ ?_ _)); exact BK404.out) hb); replace BK405 := aS_ (blk_below (g := gb405) (o := .cells #[.slice none 0 0] 26 (0, 0)) (by (with_reducible repeat (first | refine kN_ ?_ _ | refine kD_ ?_ | refine kA_ ?_ _)); refine blk_far ?_ NB405_412.out _; (with_reducible repeat (first | refine kN_ ?_ _ | refine kD_ ?_ | refine kA_ ?_ _)); exact BK405.out) hb); replace BK412 := aS_ (blk_below (g := gb412) (o := .cells #[.slice Ao34 t409.length co34] 26 (0, 0)) (by (with_reducible repeat (first | refine kN_ ?_ _ | refine kD_ ?_ | refine kA_ ?_ _)); refine blk_put (cs := #[.slice none 0 0]) ?_ 0 _ rfl; (with_reducible repeat (first | refine kN_ ?_ _ | refine kD_ ?_ | refine kA_ ?_ _)); exact BK412.out) hb); replace HB := bE_ HB hb; (try clear hb); (try clear hk); have hcz41_0 : w40.cell? ⟨gb412, 0, none⟩ = some (.slice Ao34 t409.length co34) := (blk_cell BK412.out 0).trans rfl; have hfz41_0 := blk_frozen BK412.out 0; have p29 : 0 ≤ (t413 : Int) := of_decide_eq_true (by assumption); have q29 : (t413 : Int) < ((t409.length : Int) : Int) := of_decide_eq_true (by assumption); obtain ⟨go29, co29, eo29, gb29, gl29, cl29, HG29⟩ := Kd.R_form HO411.out (by omega); (first | cases eo29 | (injection eo29 with ea_ en_ ec_; (first | subst ea_ | (injection ea_ with ea_; subst ea_)); subst ec_; clear en_)); have GB29 := aS_ gb29; have GG29 := aS_ HG29; clear gb29 gl29 HG29; obtain ⟨hx29_0, hf29_0⟩ := Kd.R_celln 0 HO411.out (t413 : Int) p29 q29; replace p29 := eq_true p29; replace q29 := eq_true q29; obtain ⟨hy42_, hz42_⟩ := Kd.R_celln 0 HO411.out (t413 : Int) (of_decide_eq_true (by assumption)) (of_decide_eq_true (by assumption)); have HP42 := Kd.R_putg HO411.out (t413 : Int) (-1)) | ((with_reducible refine gate_store (t := 3) (p := 39) rfl ?_); (try (rw [drewN_self w40]; generalize hq_ : World.drewN w40 _ = w40; replace HO411 := aS_ (Kd.R_at hq_ HO411.out); replace BK404 := aS_ (blk_at hq_ BK404.out); replace BK405 := aS_ (blk_at hq_ BK405.out); replace BK412 := aS_ (blk_at hq_ BK412.out); replace HB := aS_ (below_at hq_ HB.out); clear hq_; (try (obtain ⟨hy42_, hz42_⟩ := Kd.R_celln 0 HO411.out (t413 : Int) (of_decide_eq_true (by assumption)) (of_decide_eq_true (by assumption)))); (try (have HP42 := Kd.R_putg HO411.out (t413 : Int) (-1))))); refine store_event (t := 3) (p := 39) (v := ?vo_w43) (w1 := (w40.setCell ⟨go29, (t413 : Int).toNat, none⟩ (.int .i64 (-1)))) ?hg ?ho ?hn ?hr ?_; (case ho => rfl); (case hg => rfl); (case hn => rfl); (case hr => first | (go_simp; done) | (go_simp; rfl)); intro w43 hw; have hg : w40.grownBy w43 (some go29) := (by rw [hw]; exact HP42.2); have hp_ : Kd.R (Kd.int .i64) 3 w43 w.heap.size (fun _ => True) (.slice (some ⟨go29, 0, none⟩) t409.length co34) y414 := (by rw [hw, Ny414.out]; exact HP42.1); clear HP42; replace BK404 := aS_ (blk_grown (g := gb404) (o := .cells #[.slice A0_0 l0_0.length c0_0] 26 (0, 0)) (kk_ BK404) hg (Kd.R_ne HO411.out BK404.out (by decide))); replace BK405 := aS_ (blk_grown (g := gb405) (o := .cells #[.slice none 0 0] 26 (0, 0)) (kk_ BK405) hg (Kd.R_ne HO411.out BK405.out (by decide))); replace BK412 := aS_ (blk_grown (g := gb412) (o := .cells #[.slice (some ⟨go29, 0, none⟩) t409.length co34] 26 (0, 0)) (kk_ BK412) hg (Kd.R_ne HO411.out BK412.out (by decide))); replace HO411 := aS_ (hp_); replace HB := aS_ ((by rw [hw]; exact bS_ (HB.out) GB29.out : Below w.heap.size w w43)); clear hg hw hp_)); try go_wp2_with (first | (go_at_call 35; (with_reducible refine (spec_l1Own.calls _ _ l0_0 t409 _ ?side1 ?side2 A25.out).mono ?_); (case side1 => exact cB_ HR0_0 HB); (case side2 => exact HC0_0.out); rintro e w33 ⟨v410, rfl, ho0, hb⟩; have HO411 := aS_ (Kd.R_lower ho0 (below_size (bb_ HB))); replace BK404 := kO_ BK404 hb; replace BK405 := kO_ BK405 hb; replace HB := bE_ HB hb; (try clear hb); (try clear ho0); obtain ⟨Ao34, co34, eo34⟩ := Kd.R_slice HO411.out; subst eo34) | ((with_reducible refine gate_dst (N := 6) rfl ?_); refine box_event ?hg (N := 6) ?hd (cs := #[.slice none 0 0]) (t := 26) ?hr ?_; (case hd => rfl); (case hg => rfl); (case hr => first | (go_simp; done) | (go_simp; rfl)); intro gb412 hg w35 hbox hb; replace HO411 := aS_ (Kd.R_below (rr_ HO411) hb); have BK412 := aS_ (hbox); have GW412 := gE_ HB hg; have GE412 := gE_ HB hg; replace HB := bE_ HB hb; have NB404_412 := nL_ BK404 hg; have NB412_404 := nG_ BK404 hg; replace BK404 := kO_ BK404 hb; have NB405_412 := nL_ BK405 hg; have NB412_405 := nG_ BK405 hg; replace BK405 := kO_ BK405 hb; clear hb hbox hg; have hnb36 := NB412_404.out; have hnc36 := NB404_412.out; have hnb37 := NB412_405.out; have hnc37 := NB405_412.out; have hcz38_0 : w35.cell? ⟨gb412, 0, none⟩ = some (.slice none 0 0) := (blk_cell BK412.out 0).trans rfl; have hfz38_0 := blk_frozen BK412.out 0; have hcz39_0 : w35.cell? ⟨gb404, 0, none⟩ = some (.slice A0_0 l0_0.length c0_0) := (blk_cell BK404.out 0).trans rfl; have hfz39_0 := blk_frozen BK404.out 0) | (go_at_call 43; (with_reducible refine (spec_prPlace.calls kj2 _ _ l0_0 a1 t413 _ ?side1 ?side2 A26.out).mono ?_); (case side1 => exact Kd.C_below HR0_0.out (bb_ HB)); (case side2 => exact HC0_0.out); rintro e w40 ⟨rfl, hb⟩; replace HO411 := aS_ (Kd.R_below (by (with_reducible repeat (first | apply rA_ | apply rN_ | apply rD_)); exact (Kd.R_mono (Kd.R_far (p := ⟨gb412, 0, none⟩) (Kd.R_types HO411.out BK412.out (by decide)) (fun _ hk => hk.2) (.slice Ao34 t409.length co34)) (fun _ h_ => h_.1))) hb); replace BK404 := aS_ (blk_below (g := gb404) (o := .cells #[.slice A0_0 l0_0.length c0_0] 26 (0, 0)) (by (with_reducible repeat (first | refine kN_ ?_ _ | refine kD_ ?_ | refine kA_ ?_ _)); refine blk_far ?_ NB404_412.out _; (with_reducible repeat (first | refine kN_ ?_ _ | refine kD_ ?_ | refine kA_ ?_ _)); exact BK404.out) hb); replace BK405 := aS_ (blk_below (g := gb405) (o := .cells #[.slice none 0 0] 26 (0, 0)) (by (with_reducible repeat (first | refine kN_ ?_ _ | refine kD_ ?_ | refine kA_ ?_ _)); refine blk_far ?_ NB405_412.out _; (with_reducible repeat (first | refine kN_ ?_ _ | refine kD_ ?_ | refine kA_ ?_ _)); exact BK405.out) hb); replace BK412 := aS_ (blk_below (g := gb412) (o := .cells #[.slice Ao34 t409.length co34] 26 (0, 0)) (by (with_reducible repeat (first | refine kN_ ?_ _ | refine kD_ ?_ | refine kA_ ?_ _)); refine blk_put (cs := #[.slice none 0 0]) ?_ 0 _ rfl; (with_reducible repeat (first | refine kN_ ?_ _ | refine kD_ ?_ | refine kA_ ?_ _)); exact BK412.out) hb); replace HB := bE_ HB hb; (try clear hb); (try clear hk); have hcz41_0 : w40.cell? ⟨gb412, 0, none⟩ = some (.slice Ao34 t409.length co34) := (blk_cell BK412.out 0).trans rfl; have hfz41_0 := blk_frozen BK412.out 0; have p29 : 0 ≤ (t413 : Int) := of_decide_eq_true (by assumption); have q29 : (t413 : Int) < ((t409.length : Int) : Int) := of_decide_eq_true (by assumption); obtain ⟨go29, co29, eo29, gb29, gl29, cl29, HG29⟩ := Kd.R_form HO411.out (by omega); (first | cases eo29 | (injection eo29 with ea_ en_ ec_; (first | subst ea_ | (injection ea_ with ea_; subst ea_)); subst ec_; clear en_)); have GB29 := aS_ gb29; have GG29 := aS_ HG29; clear gb29 gl29 HG29; obtain ⟨hx29_0, hf29_0⟩ := Kd.R_celln 0 HO411.out (t413 : Int) p29 q29; replace p29 := eq_true p29; replace q29 := eq_true q29; obtain ⟨hy42_, hz42_⟩ := Kd.R_celln 0 HO411.out (t413 : Int) (of_decide_eq_true (by assumption)) (of_decide_eq_true (by assumption)); have HP42 := Kd.R_putg HO411.out (t413 : Int) (-1)) | ((with_reducible refine gate_store (t := 3) (p := 39) rfl ?_); (try (rw [drewN_self w40]; generalize hq_ : World.drewN w40 _ = w40; replace HO411 := aS_ (Kd.R_at hq_ HO411.out); replace BK404 := aS_ (blk_at hq_ BK404.out); replace BK405 := aS_ (blk_at hq_ BK405.out); replace BK412 := aS_ (blk_at hq_ BK412.out); replace HB := aS_ (below_at hq_ HB.out); clear hq_; (try (obtain ⟨hy42_, hz42_⟩ := Kd.R_celln 0 HO411.out (t413 : Int) (of_decide_eq_true (by assumption)) (of_decide_eq_true (by assumption)))); (try (have HP42 := Kd.R_putg HO411.out (t413 : Int) (-1))))); refine store_event (t := 3) (p := 39) (v := ?vo_w43) (w1 := (w40.setCell ⟨go29, (t413 : Int).toNat, none⟩ (.int .i64 (-1)))) ?hg ?ho ?hn ?hr ?_; (case ho => rfl); (case hg => rfl); (case hn => rfl); (case hr => first | (go_simp; done) | (go_simp; rfl)); intro w43 hw; have hg : w40.grownBy w43 (some go29) := (by rw [hw]; exact HP42.2); have hp_ : Kd.R (Kd.int .i64) 3 w43 w.heap.size (fun _ => True) (.slice (some ⟨go29, 0, none⟩) t409.length co34) y414 := (by rw [hw, Ny414.out]; exact HP42.1); clear HP42; replace BK404 := aS_ (blk_grown (g := gb404) (o := .cells #[.slice A0_0 l0_0.length c0_0] 26 (0, 0)) (kk_ BK404) hg (Kd.R_ne HO411.out BK404.out (by decide))); replace BK405 := aS_ (blk_grown (g := gb405) (o := .cells #[.slice none 0 0] 26 (0, 0)) (kk_ BK405) hg (Kd.R_ne HO411.out BK405.out (by decide))); replace BK412 := aS_ (blk_grown (g := gb412) (o := .cells #[.slice (some ⟨go29, 0, none⟩) t409.length co34] 26 (0, 0)) (kk_ BK412) hg (Kd.R_ne HO411.out BK412.out (by decide))); replace HO411 := aS_ (hp_); replace HB := aS_ ((by rw [hw]; exact bS_ (HB.out) GB29.out : Below w.heap.size w w43)); clear hg hw hp_)))
       go_loopg [8, 9] kj2 (fun kq v8 v9 w' => ∃ (x8_2 : Int) (x9_2 : Int) (x413000_2 : List Int) (u413000 : Value), v8 = .int .i64 x8_2 ∧ v9 = .int .i64 x9_2 ∧ Aside0 (spec_RemoveKey.l0 kq (t409.length : Int) x8_2 x9_2 x413000_2 = some (r1, r2)) ∧ Aside0 (kq ≤ kj2) ∧ Aside0 (Kd.R (Kd.int .i64) 3 w' w.heap.size (fun _ => True) u413000 x413000_2) ∧ Aside0 (w'.heap[gb404]? = some (.cells #[(.slice A0_0 l0_0.length c0_0)] 26 (0, 0))) ∧ Aside0 (w'.heap[gb405]? = some (.cells #[(.slice none 0 0)] 26 (0, 0))) ∧ Aside0 (w'.heap[gb412]? = some (.cells #[u413000] 26 (0, 0))) ∧ Aside0 (Below w.heap.size w w'))
       case atStart => exact ⟨(t413), (Int.tmod (wrap64 (t413 + 1)) (t409.length : Int)), (y414), (.slice (some ⟨go29, 0, none⟩) t409.length co34), sR_, sR_, H', ⟨Nat.le_refl _⟩, ⟨rr_ HO411⟩, ⟨kk_ BK404⟩, ⟨kk_ BK405⟩, ⟨kk_ BK412⟩, ⟨bb_ HB⟩⟩
       case round =>
        clear H'
        try clear c1
        try clear c2
        try clear p2
        try clear q2
        try clear hx2
        try clear hf2
        try clear c3
        try clear p6
        try clear c7
        try clear c9
        try clear c11
        try clear c15
        try clear c16
        try clear c19
        try clear c22
        try clear c23
        try clear c27
        try clear c27b0
        try clear c28
        try clear c28b0
        try clear p29
        try clear q29
        try clear hx29
        try clear hf29
        try clear c30
        try clear c30b0
        try clear c30b1
        try clear c30b2
        try clear c31
        try clear c36
        try clear c37
        try clear hcz12_0
        try clear hcz14_0
        try clear hcz17_0
        try clear hcz20_0
        try clear hcz24_0
        try clear hcz32_0
        try clear hcz38_0
        try clear hcz39_0
        try clear hcz41_0
        try clear hfz12_0
        try clear hfz14_0
        try clear hfz17_0
        try clear hfz20_0
        try clear hfz24_0
        try clear hfz32_0
        try clear hfz38_0
        try clear hfz39_0
        try clear hfz41_0
        try clear hx29_0
        try clear p2
        try clear p29
        try clear q29
        obtain ⟨x8_2, x9_2, x413000_2, u413000, rfl, rfl, HA, HK2, HO_413000, BK404, BK405, BK412, HB⟩ := hrel
        cases gk with
        | zero => exact absurd HA.out (by simp [spec_RemoveKey.l0])
        | succ k2 =>
         have H := HA.out
         clear HA
         simp only [spec_RemoveKey.l0] at H
         by_cases c44 : 0 ≤ x9_2
         ·rw [if_pos c44] at H
          have c44b0 : decide (0 ≤ x9_2) = true := decide_eq_true c44
          clear c44
          by_cases c45 : x9_2 < (x413000_2.length : Int)
          ·rw [if_pos c45] at H
           have c45b0 : decide (x9_2 < (x413000_2.length : Int)) = true := decide_eq_true c45
           clear c45
           by_cases c46 : (rd x413000_2 x9_2) = (-1)
           ·rw [if_pos c46] at H
            have c46b0 : ((rd x413000_2 x9_2) == (-1)) = true := beq_iff_eq.mpr c46
            have c46b1 : ((rd x413000_2 x9_2) != (-1)) = false := bne_eq_false_iff_eq.mpr c46
            clear c46
            simp only [Option.some.injEq, Prod.mk.injEq] at H
            obtain ⟨rfl, rfl⟩ := H
            have hnb47 := NB412_404.out
            have hnc47 := NB404_412.out
            have hnb48 := NB412_405.out
            have hnc48 := NB405_412.out
            have hcz49_0 : wr.cell? ⟨gb412, 0, none⟩ = some (u413000) := (blk_cell BK412.out 0).trans rfl
            have hfz49_0 := blk_frozen BK412.out 0
            obtain ⟨Ao50, co50, eo50⟩ := Kd.R_slice HO_413000.out
            subst eo50
            have p415 : 0 ≤ (x9_2 : Int) := of_decide_eq_true (by assumption)
            have q415 : x9_2 < (x413000_2.length : Int) := of_decide_eq_true (by assumption)
            obtain ⟨ad415, e415, hx415_0⟩ := Kd.at_int (Kd.R_reads' HO_413000.out).2.2 x9_2 p415 q415
            cases e415
            replace p415 := eq_true p415
            replace q415 := eq_true q415
            have hnb51 := NB405_404.out
            have hnc51 := NB404_405.out
            have hcz52_0 : wr.cell? ⟨gb405, 0, none⟩ = some (.slice none 0 0) := (blk_cell BK405.out 0).trans rfl
            have hfz52_0 := blk_frozen BK405.out 0
            go_wp2
            repeat (go_quiet (fail); try go_wp2)
            refine bodyPost_ret (results_ct rfl _ _ gb405 26 #[.slice (some ad415) x413000_2.length co50] (0, 0) _ rfl (by (with_reducible repeat (first | refine kN_ ?_ _ | refine kD_ ?_ | refine kA_ ?_ _)); refine blk_put (cs := #[.slice none 0 0]) ?_ 0 _ rfl; (with_reducible repeat (first | refine kN_ ?_ _ | refine kD_ ?_ | refine kA_ ?_ _)); exact BK405.out) Try.underlying26 rfl (by kernel_rfl)) rfl ?_
            exact ⟨_, by first | rfl | (simp [errW_none, errW_some] <;> rfl) | (simp [*, errW_none, errW_some] <;> rfl), by (with_reducible repeat (first | apply rA_ | apply rN_ | apply rD_)); exact Kd.R_mono (Kd.R_far (p := ⟨gb405, 0, none⟩) (Kd.R_types HO_413000.out BK405.out (by decide)) (fun _ hk => hk.2) (.slice (some ad415) x413000_2.length co50)) (fun _ hk => trivial), bb_ HB⟩
           ·rw [if_neg c46] at H
            have c46b0 : ((rd x413000_2 x9_2) == (-1)) = false := beq_eq_false_iff_ne.mpr c46
            have c46b1 : ((rd x413000_2 x9_2) != (-1)) = true := bne_iff_ne.mpr c46
            replace H := Option.bind_eq_some_iff.mp H
            obtain ⟨t417, A530, H⟩ := H
            have A53 := aS_ A530
            clear A530
            by_cases c54 : (t409.length : Int) = 0
            ·rw [if_pos c54] at H
             exact absurd H (by simp)
            ·rw [if_neg c54] at H
             have c54b0 : ((t409.length : Int) == 0) = false := beq_eq_false_iff_ne.mpr c54
             have c54b1 : ((t409.length : Int) != 0) = true := bne_iff_ne.mpr c54
             have c54b2 : ¬ (t409 = []) := fun h_ => c54 (by rw [h_]; rfl)
             by_cases c55 : t417 ≥ (Int.tmod (wrap64 ((wrap64 (x9_2 - x8_2)) + (t409.length : Int))) (t409.length : Int))
             ·rw [if_pos c55] at H
              have c55b0 : decide ((Int.tmod (wrap64 ((wrap64 (x9_2 - x8_2)) + (t409.length : Int))) (t409.length : Int)) ≤ t417) = true := decide_eq_true c55
              have c55b0w : decide ((Int.tmod (IntKind.i64.wrap ((IntKind.i64.wrap (x9_2 - x8_2)) + (t409.length : Int))) (t409.length : Int)) ≤ t417) = true := by first | (rw [i64_w, i64_w]; exact c55b0) | (simp only [i64_w]; exact c55b0)
              clear c55
              by_cases c56 : 0 ≤ x8_2
              ·rw [if_pos c56] at H
               have c56b0 : decide (0 ≤ x8_2) = true := decide_eq_true c56
               clear c56
               by_cases c57 : x8_2 < (x413000_2.length : Int)
               ·rw [if_pos c57] at H
                have c57b0 : decide (x8_2 < (x413000_2.length : Int)) = true := decide_eq_true c57
                clear c57
                obtain ⟨y418, hy418⟩ : ∃ y_ : List Int, y_ = (x413000_2.set (x8_2 : Int).toNat (rd x413000_2 x9_2)) := ⟨_, rfl⟩
                replace H : (spec_RemoveKey.l0 k2 (t409.length : Int) x9_2 (Int.tmod (wrap64 (x9_2 + 1)) (t409.length : Int)) (y418.set (x9_2 : Int).toNat (-1))) = some (r1, r2) := by first | (rw [hy418]; with_reducible exact H) | (have H2_ := (Option.bind_some _ _).symm.trans H; rw [hy418]; with_reducible exact H2_) | (have H2_ := (Option.bind_some _ _).symm.trans H; with_reducible exact H2_) | with_reducible exact H | (rw [hy418]; exact H) | exact H
                have Ny418 := aS_ hy418
                clear hy418
                obtain ⟨y419, hy419⟩ : ∃ y_ : List Int, y_ = (y418.set (x9_2 : Int).toNat (-1)) := ⟨_, rfl⟩
                replace H : (spec_RemoveKey.l0 k2 (t409.length : Int) x9_2 (Int.tmod (wrap64 (x9_2 + 1)) (t409.length : Int)) y419) = some (r1, r2) := by first | (rw [hy419]; with_reducible exact H) | (have H2_ := (Option.bind_some _ _).symm.trans H; rw [hy419]; with_reducible exact H2_) | (have H2_ := (Option.bind_some _ _).symm.trans H; with_reducible exact H2_) | with_reducible exact H | (rw [hy419]; exact H) | exact H
                have Ny419 := aS_ hy419
                clear hy419
                have H' := aS_ H
                clear H
                have hnb60 := NB412_404.out
                have hnc60 := NB404_412.out
                have hnb61 := NB412_405.out
                have hnc61 := NB405_412.out
                have hcz62_0 : wr.cell? ⟨gb412, 0, none⟩ = some (u413000) := (blk_cell BK412.out 0).trans rfl
                have hfz62_0 := blk_frozen BK412.out 0
                obtain ⟨Ao63, co63, eo63⟩ := Kd.R_slice HO_413000.out
                subst eo63
                have p415 : 0 ≤ (x9_2 : Int) := of_decide_eq_true (by assumption)
                have q415 : x9_2 < (x413000_2.length : Int) := of_decide_eq_true (by assumption)
                obtain ⟨ad415, e415, hx415_0⟩ := Kd.at_int (Kd.R_reads' HO_413000.out).2.2 x9_2 p415 q415
                cases e415
                replace p415 := eq_true p415
                replace q415 := eq_true q415
                have p416 : 0 ≤ (x9_2 : Int) := of_decide_eq_true (by assumption)
                have q416 : x9_2 < (x413000_2.length : Int) := of_decide_eq_true (by assumption)
                obtain ⟨ad416, e416, hx416_0⟩ := Kd.at_int (Kd.R_reads' HO_413000.out).2.2 x9_2 p416 q416
                obtain rfl : ad415 = ad416 := (by injection e416)
                replace p416 := eq_true p416
                replace q416 := eq_true q416
                go_wp2_with (first | (go_at_call 44; (with_reducible refine (spec_prCost.calls (rd x413000_2 x9_2) x9_2 (t409.length : Int) t417 _ A53.out).mono ?_); rintro e w' ⟨rfl, ⟨nd, rfl⟩⟩; (try exact dR_); have p58 : 0 ≤ (x8_2 : Int) := of_decide_eq_true (by assumption); have q58 : (x8_2 : Int) < ((x413000_2.length : Int) : Int) := of_decide_eq_true (by assumption); obtain ⟨go58, co58, eo58, gb58, gl58, cl58, HG58⟩ := Kd.R_form HO_413000.out (by omega); (first | cases eo58 | (injection eo58 with ea_ en_ ec_; (first | subst ea_ | (injection ea_ with ea_; subst ea_)); subst ec_; clear en_)); have GB58 := aS_ gb58; have GG58 := aS_ HG58; clear gb58 gl58 HG58; (first | simp only [add_plain] at hx415_0 | skip); (first | simp only [add_plain] at hx416_0 | skip); obtain ⟨hx58_0, hf58_0⟩ := Kd.R_celln 0 HO_413000.out (x8_2 : Int) p58 q58; replace p58 := eq_true p58; replace q58 := eq_true q58; obtain ⟨hy64_, hz64_⟩ := Kd.R_celln 0 HO_413000.out (x8_2 : Int) (of_decide_eq_true (by assumption)) (of_decide_eq_true (by assumption)); have HP64 := Kd.R_putg HO_413000.out (x8_2 : Int) (rd x413000_2 x9_2)) | ((with_reducible refine gate_store (t := 3) (p := 75) rfl ?_); (try (rw [drewN_self wr]; generalize hq_ : World.drewN wr _ = wr; replace HO_413000 := aS_ (Kd.R_at hq_ HO_413000.out); replace BK404 := aS_ (blk_at hq_ BK404.out); replace BK405 := aS_ (blk_at hq_ BK405.out); replace BK412 := aS_ (blk_at hq_ BK412.out); replace HB := aS_ (below_at hq_ HB.out); clear hq_; (try (obtain ⟨hy64_, hz64_⟩ := Kd.R_celln 0 HO_413000.out (x8_2 : Int) (of_decide_eq_true (by assumption)) (of_decide_eq_true (by assumption)))); (try (have HP64 := Kd.R_putg HO_413000.out (x8_2 : Int) (rd x413000_2 x9_2))))); refine store_event (t := 3) (p := 75) (v := ?vo_w65) (w1 := (wr.setCell ⟨go58, (x8_2 : Int).toNat, none⟩ (.int .i64 (rd x413000_2 x9_2)))) ?hg ?ho ?hn ?hr ?_; (case ho => rfl); (case hg => rfl); (case hn => rfl); (case hr => first | (go_simp; done) | (go_simp; rfl)); intro w65 hw; have hg : wr.grownBy w65 (some go58) := (by rw [hw]; exact HP64.2); have hp_ : Kd.R (Kd.int .i64) 3 w65 w.heap.size (fun _ => True) (.slice (some ⟨go58, 0, none⟩) x413000_2.length co63) y418 := (by rw [hw, Ny418.out]; exact HP64.1); clear HP64; replace BK404 := aS_ (blk_grown (g := gb404) (o := .cells #[.slice A0_0 l0_0.length c0_0] 26 (0, 0)) (kk_ BK404) hg (Kd.R_ne HO_413000.out BK404.out (by decide))); replace BK405 := aS_ (blk_grown (g := gb405) (o := .cells #[.slice none 0 0] 26 (0, 0)) (kk_ BK405) hg (Kd.R_ne HO_413000.out BK405.out (by decide))); replace BK412 := aS_ (blk_grown (g := gb412) (o := .cells #[.slice (some ⟨go58, 0, none⟩) x413000_2.length co63] 26 (0, 0)) (kk_ BK412) hg (Kd.R_ne HO_413000.out BK412.out (by decide))); replace HO_413000 := aS_ (hp_); replace HB := aS_ ((by rw [hw]; exact bS_ (HB.out) GB58.out : Below w.heap.size w w65)); clear hg hw hp_; have hcz66_0 : w65.cell? ⟨gb412, 0, none⟩ = some (.slice (some ⟨go58, 0, none⟩) x413000_2.length co63) := (blk_cell BK412.out 0).trans rfl; have hfz66_0 := blk_frozen BK412.out 0; have p59 : 0 ≤ (x9_2 : Int) := of_decide_eq_true (by assumption); have q59 : (x9_2 : Int) < ((x413000_2.length : Int) : Int) := of_decide_eq_true (by assumption); obtain ⟨hx59_0, hf59_0⟩ := Kd.R_celln 0 HO_413000.out (x9_2 : Int) p59 q59; replace p59 := eq_true p59; replace q59 := eq_true q59; obtain ⟨hy67_, hz67_⟩ := Kd.R_celln 0 HO_413000.out (x9_2 : Int) (of_decide_eq_true (by assumption)) (of_decide_eq_true (by assumption)); have HP67 := Kd.R_putg HO_413000.out (x9_2 : Int) (-1)) | ((with_reducible refine gate_store (t := 3) (p := 79) rfl ?_); (try (rw [drewN_self w65]; generalize hq_ : World.drewN w65 _ = w65; replace HO_413000 := aS_ (Kd.R_at hq_ HO_413000.out); replace BK404 := aS_ (blk_at hq_ BK404.out); replace BK405 := aS_ (blk_at hq_ BK405.out); replace BK412 := aS_ (blk_at hq_ BK412.out); replace HB := aS_ (below_at hq_ HB.out); clear hq_; (try (obtain ⟨hy67_, hz67_⟩ := Kd.R_celln 0 HO_413000.out (x9_2 : Int) (of_decide_eq_true (by assumption)) (of_decide_eq_true (by assumption)))); (try (have HP67 := Kd.R_putg HO_413000.out (x9_2 : Int) (-1))))); refine store_event (t := 3) (p := 79) (v := ?vo_w68) (w1 := (w65.setCell ⟨go58, (x9_2 : Int).toNat, none⟩ (.int .i64 (-1)))) ?hg ?ho ?hn ?hr ?_; (case ho => rfl); (case hg => rfl); (case hn => rfl); (case hr => first | (go_simp; done) | (go_simp; rfl)); intro w68 hw; have hg : w65.grownBy w68 (some go58) := (by rw [hw]; exact HP67.2); have hp_ : Kd.R (Kd.int .i64) 3 w68 w.heap.size (fun _ => True) (.slice (some ⟨go58, 0, none⟩) x413000_2.length co63) y419 := (by rw [hw, Ny419.out]; exact HP67.1); clear HP67; replace BK404 := aS_ (blk_grown (g := gb404) (o := .cells #[.slice A0_0 l0_0.length c0_0] 26 (0, 0)) (kk_ BK404) hg (Kd.R_ne HO_413000.out BK404.out (by decide))); replace BK405 := aS_ (blk_grown (g := gb405) (o := .cells #[.slice none 0 0] 26 (0, 0)) (kk_ BK405) hg (Kd.R_ne HO_413000.out BK405.out (by decide))); replace BK412 := aS_ (blk_grown (g := gb412) (o := .cells #[.slice (some ⟨go58, 0, none⟩) x413000_2.length co63] 26 (0, 0)) (kk_ BK412) hg (Kd.R_ne HO_413000.out BK412.out (by decide))); replace HO_413000 := aS_ (hp_); replace HB := aS_ ((by rw [hw]; exact bS_ (HB.out) GB58.out : Below w.heap.size w w68)); clear hg hw hp_))
                repeat (go_quiet (first | (go_at_call 44; (with_reducible refine (spec_prCost.calls (rd x413000_2 x9_2) x9_2 (t409.length : Int) t417 _ A53.out).mono ?_); rintro e w' ⟨rfl, ⟨nd, rfl⟩⟩; (try exact dR_); have p58 : 0 ≤ (x8_2 : Int) := of_decide_eq_true (by assumption); have q58 : (x8_2 : Int) < ((x413000_2.length : Int) : Int) := of_decide_eq_true (by assumption); obtain ⟨go58, co58, eo58, gb58, gl58, cl58, HG58⟩ := Kd.R_form HO_413000.out (by omega); (first | cases eo58 | (injection eo58 with ea_ en_ ec_; (first | subst ea_ | (injection ea_ with ea_; subst ea_)); subst ec_; clear en_)); have GB58 := aS_ gb58; have GG58 := aS_ HG58; clear gb58 gl58 HG58; (first | simp only [add_plain] at hx415_0 | skip); (first | simp only [add_plain] at hx416_0 | skip); obtain ⟨hx58_0, hf58_0⟩ := Kd.R_celln 0 HO_413000.out (x8_2 : Int) p58 q58; replace p58 := eq_true p58; replace q58 := eq_true q58; obtain ⟨hy64_, hz64_⟩ := Kd.R_celln 0 HO_413000.out (x8_2 : Int) (of_decide_eq_true (by assumption)) (of_decide_eq_true (by assumption)); have HP64 := Kd.R_putg HO_413000.out (x8_2 : Int) (rd x413000_2 x9_2)) | ((with_reducible refine gate_store (t := 3) (p := 75) rfl ?_); (try (rw [drewN_self wr]; generalize hq_ : World.drewN wr _ = wr; replace HO_413000 := aS_ (Kd.R_at hq_ HO_413000.out); replace BK404 := aS_ (blk_at hq_ BK404.out); replace BK405 := aS_ (blk_at hq_ BK405.out); replace BK412 := aS_ (blk_at hq_ BK412.out); replace HB := aS_ (below_at hq_ HB.out); clear hq_; (try (obtain ⟨hy64_, hz64_⟩ := Kd.R_celln 0 HO_413000.out (x8_2 : Int) (of_decide_eq_true (by assumption)) (of_decide_eq_true (by assumption)))); (try (have HP64 := Kd.R_putg HO_413000.out (x8_2 : Int) (rd x413000_2 x9_2))))); refine store_event (t := 3) (p := 75) (v := ?vo_w65) (w1 := (wr.setCell ⟨go58, (x8_2 : Int).toNat, none⟩ (.int .i64 (rd x413000_2 x9_2)))) ?hg ?ho ?hn ?hr ?_; (case ho => rfl); (case hg => rfl); (case hn => rfl); (case hr => first | (go_simp; done) | (go_simp; rfl)); intro w65 hw; have hg : wr.grownBy w65 (some go58) := (by rw [hw]; exact HP64.2); have hp_ : Kd.R (Kd.int .i64) 3 w65 w.heap.size (fun _ => True) (.slice (some ⟨go58, 0, none⟩) x413000_2.length co63) y418 := (by rw [hw, Ny418.out]; exact HP64.1); clear HP64; replace BK404 := aS_ (blk_grown (g := gb404) (o := .cells #[.slice A0_0 l0_0.length c0_0] 26 (0, 0)) (kk_ BK404) hg (Kd.R_ne HO_413000.out BK404.out (by decide))); replace BK405 := aS_ (blk_grown (g := gb405) (o := .cells #[.slice none 0 0] 26 (0, 0)) (kk_ BK405) hg (Kd.R_ne HO_413000.out BK405.out (by decide))); replace BK412 := aS_ (blk_grown (g := gb412) (o := .cells #[.slice (some ⟨go58, 0, none⟩) x413000_2.length co63] 26 (0, 0)) (kk_ BK412) hg (Kd.R_ne HO_413000.out BK412.out (by decide))); replace HO_413000 := aS_ (hp_); replace HB := aS_ ((by rw [hw]; exact bS_ (HB.out) GB58.out : Below w.heap.size w w65)); clear hg hw hp_; have hcz66_0 : w65.cell? ⟨gb412, 0, none⟩ = some (.slice (some ⟨go58, 0, none⟩) x413000_2.length co63) := (blk_cell BK412.out 0).trans rfl; have hfz66_0 := blk_frozen BK412.out 0; have p59 : 0 ≤ (x9_2 : Int) := of_decide_eq_true (by assumption); have q59 : (x9_2 : Int) < ((x413000_2.length : Int) : Int) := of_decide_eq_true (by assumption); obtain ⟨hx59_0, hf59_0⟩ := Kd.R_celln 0 HO_413000.out (x9_2 : Int) p59 q59; replace p59 := eq_true p59; replace q59 := eq_true q59; obtain ⟨hy67_, hz67_⟩ := Kd.R_celln 0 HO_413000.out (x9_2 : Int) (of_decide_eq_true (by assumption)) (of_decide_eq_true (by assumption)); have HP67 := Kd.R_putg HO_413000.out (x9_2 : Int) (-1)) | ((with_reducible refine gate_store (t := 3) (p := 79) rfl ?_); (try (rw [drewN_self w65]; generalize hq_ : World.drewN w65 _ = w65; replace HO_413000 := aS_ (Kd.R_at hq_ HO_413000.out); replace BK404 := aS_ (blk_at hq_ BK404.out); replace BK405 := aS_ (blk_at hq_ BK405.out); replace BK412 := aS_ (blk_at hq_ BK412.out); replace HB := aS_ (below_at hq_ HB.out); clear hq_; (try (obtain ⟨hy67_, hz67_⟩ := Kd.R_celln 0 HO_413000.out (x9_2 : Int) (of_decide_eq_true (by assumption)) (of_decide_eq_true (by assumption)))); (try (have HP67 := Kd.R_putg HO_413000.out (x9_2 : Int) (-1))))); refine store_event (t := 3) (p := 79) (v := ?vo_w68) (w1 := (w65.setCell ⟨go58, (x9_2 : Int).toNat, none⟩ (.int .i64 (-1)))) ?hg ?ho ?hn ?hr ?_; (case ho => rfl); (case hg => rfl); (case hn => rfl); (case hr => first | (go_simp; done) | (go_simp; rfl)); intro w68 hw; have hg : w65.grownBy w68 (some go58) := (by rw [hw]; exact HP67.2); have hp_ : Kd.R (Kd.int .i64) 3 w68 w.heap.size (fun _ => True) (.slice (some ⟨go58, 0, none⟩) x413000_2.length co63) y419 := (by rw [hw, Ny419.out]; exact HP67.1); clear HP67; replace BK404 := aS_ (blk_grown (g := gb404) (o := .cells #[.slice A0_0 l0_0.length c0_0] 26 (0, 0)) (kk_ BK404) hg (Kd.R_ne HO_413000.out BK404.out (by decide))); replace BK405 := aS_ (blk_grown (g := gb405) (o := .cells #[.slice none 0 0] 26 (0, 0)) (kk_ BK405) hg (Kd.R_ne HO_413000.out BK405.out (by decide))); replace BK412 := aS_ (blk_grown (g := gb412) (o := .cells #[.slice (some ⟨go58, 0, none⟩) x413000_2.length co63] 26 (0, 0)) (kk_ BK412) hg (Kd.R_ne HO_413000.out BK412.out (by decide))); replace HO_413000 := aS_ (hp_); replace HB := aS_ ((by rw [hw]; exact bS_ (HB.out) GB58.out : Below w.heap.size w w68)); clear hg hw hp_)); try go_wp2_with (first | (go_at_call 44; (with_reducible refine (spec_prCost.calls (rd x413000_2 x9_2) x9_2 (t409.length : Int) t417 _ A53.out).mono ?_); rintro e w' ⟨rfl, ⟨nd, rfl⟩⟩; (try exact dR_); have p58 : 0 ≤ (x8_2 : Int) := of_decide_eq_true (by assumption); have q58 : (x8_2 : Int) < ((x413000_2.length : Int) : Int) := of_decide_eq_true (by assumption); obtain ⟨go58, co58, eo58, gb58, gl58, cl58, HG58⟩ := Kd.R_form HO_413000.out (by omega); (first | cases eo58 | (injection eo58 with ea_ en_ ec_; (first | subst ea_ | (injection ea_ with ea_; subst ea_)); subst ec_; clear en_)); have GB58 := aS_ gb58; have GG58 := aS_ HG58; clear gb58 gl58 HG58; (first | simp only [add_plain] at hx415_0 | skip); (first | simp only [add_plain] at hx416_0 | skip); obtain ⟨hx58_0, hf58_0⟩ := Kd.R_celln 0 HO_413000.out (x8_2 : Int) p58 q58; replace p58 := eq_true p58; replace q58 := eq_true q58; obtain ⟨hy64_, hz64_⟩ := Kd.R_celln 0 HO_413000.out (x8_2 : Int) (of_decide_eq_true (by assumption)) (of_decide_eq_true (by assumption)); have HP64 := Kd.R_putg HO_413000.out (x8_2 : Int) (rd x413000_2 x9_2)) | ((with_reducible refine gate_store (t := 3) (p := 75) rfl ?_); (try (rw [drewN_self wr]; generalize hq_ : World.drewN wr _ = wr; replace HO_413000 := aS_ (Kd.R_at hq_ HO_413000.out); replace BK404 := aS_ (blk_at hq_ BK404.out); replace BK405 := aS_ (blk_at hq_ BK405.out); replace BK412 := aS_ (blk_at hq_ BK412.out); replace HB := aS_ (below_at hq_ HB.out); clear hq_; (try (obtain ⟨hy64_, hz64_⟩ := Kd.R_celln 0 HO_413000.out (x8_2 : Int) (of_decide_eq_true (by assumption)) (of_decide_eq_true (by assumption)))); (try (have HP64 := Kd.R_putg HO_413000.out (x8_2 : Int) (rd x413000_2 x9_2))))); refine store_event (t := 3) (p := 75) (v := ?vo_w65) (w1 := (wr.setCell ⟨go58, (x8_2 : Int).toNat, none⟩ (.int .i64 (rd x413000_2 x9_2)))) ?hg ?ho ?hn ?hr ?_; (case ho => rfl); (case hg => rfl); (case hn => rfl); (case hr => first | (go_simp; done) | (go_simp; rfl)); intro w65 hw; have hg : wr.grownBy w65 (some go58) := (by rw [hw]; exact HP64.2); have hp_ : Kd.R (Kd.int .i64) 3 w65 w.heap.size (fun _ => True) (.slice (some ⟨go58, 0, none⟩) x413000_2.length co63) y418 := (by rw [hw, Ny418.out]; exact HP64.1); clear HP64; replace BK404 := aS_ (blk_grown (g := gb404) (o := .cells #[.slice A0_0 l0_0.length c0_0] 26 (0, 0)) (kk_ BK404) hg (Kd.R_ne HO_413000.out BK404.out (by decide))); replace BK405 := aS_ (blk_grown (g := gb405) (o := .cells #[.slice none 0 0] 26 (0, 0)) (kk_ BK405) hg (Kd.R_ne HO_413000.out BK405.out (by decide))); replace BK412 := aS_ (blk_grown (g := gb412) (o := .cells #[.slice (some ⟨go58, 0, none⟩) x413000_2.length co63] 26 (0, 0)) (kk_ BK412) hg (Kd.R_ne HO_413000.out BK412.out (by decide))); replace HO_413000 := aS_ (hp_); replace HB := aS_ ((by rw [hw]; exact bS_ (HB.out) GB58.out : Below w.heap.size w w65)); clear hg hw hp_; have hcz66_0 : w65.cell? ⟨gb412, 0, none⟩ = some (.slice (some ⟨go58, 0, none⟩) x413000_2.length co63) := (blk_cell BK412.out 0).trans rfl; have hfz66_0 := blk_frozen BK412.out 0; have p59 : 0 ≤ (x9_2 : Int) := of_decide_eq_true (by assumption); have q59 : (x9_2 : Int) < ((x413000_2.length : Int) : Int) := of_decide_eq_true (by assumption); obtain ⟨hx59_0, hf59_0⟩ := Kd.R_celln 0 HO_413000.out (x9_2 : Int) p59 q59; replace p59 := eq_true p59; replace q59 := eq_true q59; obtain ⟨hy67_, hz67_⟩ := Kd.R_celln 0 HO_413000.out (x9_2 : Int) (of_decide_eq_true (by assumption)) (of_decide_eq_true (by assumption)); have HP67 := Kd.R_putg HO_413000.out (x9_2 : Int) (-1)) | ((with_reducible refine gate_store (t := 3) (p := 79) rfl ?_); (try (rw [drewN_self w65]; generalize hq_ : World.drewN w65 _ = w65; replace HO_413000 := aS_ (Kd.R_at hq_ HO_413000.out); replace BK404 := aS_ (blk_at hq_ BK404.out); replace BK405 := aS_ (blk_at hq_ BK405.out); replace BK412 := aS_ (blk_at hq_ BK412.out); replace HB := aS_ (below_at hq_ HB.out); clear hq_; (try (obtain ⟨hy67_, hz67_⟩ := Kd.R_celln 0 HO_413000.out (x9_2 : Int) (of_decide_eq_true (by assumption)) (of_decide_eq_true (by assumption)))); (try (have HP67 := Kd.R_putg HO_413000.out (x9_2 : Int) (-1))))); refine store_event (t := 3) (p := 79) (v := ?vo_w68) (w1 := (w65.setCell ⟨go58, (x9_2 : Int).toNat, none⟩ (.int .i64 (-1)))) ?hg ?ho ?hn ?hr ?_; (case ho => rfl); (case hg => rfl); (case hn => rfl); (case hr => first | (go_simp; done) | (go_simp; rfl)); intro w68 hw; have hg : w65.grownBy w68 (some go58) := (by rw [hw]; exact HP67.2); have hp_ : Kd.R (Kd.int .i64) 3 w68 w.heap.size (fun _ => True) (.slice (some ⟨go58, 0, none⟩) x413000_2.length co63) y419 := (by rw [hw, Ny419.out]; exact HP67.1); clear HP67; replace BK404 := aS_ (blk_grown (g := gb404) (o := .cells #[.slice A0_0 l0_0.length c0_0] 26 (0, 0)) (kk_ BK404) hg (Kd.R_ne HO_413000.out BK404.out (by decide))); replace BK405 := aS_ (blk_grown (g := gb405) (o := .cells #[.slice none 0 0] 26 (0, 0)) (kk_ BK405) hg (Kd.R_ne HO_413000.out BK405.out (by decide))); replace BK412 := aS_ (blk_grown (g := gb412) (o := .cells #[.slice (some ⟨go58, 0, none⟩) x413000_2.length co63] 26 (0, 0)) (kk_ BK412) hg (Kd.R_ne HO_413000.out BK412.out (by decide))); replace HO_413000 := aS_ (hp_); replace HB := aS_ ((by rw [hw]; exact bS_ (HB.out) GB58.out : Below w.heap.size w w68)); clear hg hw hp_)))
                go_roundg k2
                case measure => have := HJ2.out; have := HK2.out; omega
                case rel => exact ⟨(x9_2), (Int.tmod (wrap64 (x9_2 + 1)) (t409.length : Int)), (y419), (.slice (some ⟨go58, 0, none⟩) x413000_2.length co63), sR_, sR_, H', ⟨by have := HJ2.out; have := HK2.out; omega⟩, ⟨rr_ HO_413000⟩, ⟨kk_ BK404⟩, ⟨kk_ BK405⟩, ⟨kk_ BK412⟩, ⟨bb_ HB⟩⟩
               ·rw [if_neg c57] at H
                exact absurd H (by simp)
              ·rw [if_neg c56] at H
               exact absurd H (by simp)
             ·rw [if_neg c55] at H
              have c55b0 : decide ((Int.tmod (wrap64 ((wrap64 (x9_2 - x8_2)) + (t409.length : Int))) (t409.length : Int)) ≤ t417) = false := decide_eq_false c55
              have c55b0w : decide ((Int.tmod (IntKind.i64.wrap ((IntKind.i64.wrap (x9_2 - x8_2)) + (t409.length : Int))) (t409.length : Int)) ≤ t417) = false := by first | (rw [i64_w, i64_w]; exact c55b0) | (simp only [i64_w]; exact c55b0)
              clear c55
              have H' := aS_ H
              clear H
              have hnb69 := NB412_404.out
              have hnc69 := NB404_412.out
              have hnb70 := NB412_405.out
              have hnc70 := NB405_412.out
              have hcz71_0 : wr.cell? ⟨gb412, 0, none⟩ = some (u413000) := (blk_cell BK412.out 0).trans rfl
              have hfz71_0 := blk_frozen BK412.out 0
              obtain ⟨Ao72, co72, eo72⟩ := Kd.R_slice HO_413000.out
              subst eo72
              have p415 : 0 ≤ (x9_2 : Int) := of_decide_eq_true (by assumption)
              have q415 : x9_2 < (x413000_2.length : Int) := of_decide_eq_true (by assumption)
              obtain ⟨ad415, e415, hx415_0⟩ := Kd.at_int (Kd.R_reads' HO_413000.out).2.2 x9_2 p415 q415
              cases e415
              replace p415 := eq_true p415
              replace q415 := eq_true q415
              have p416 : 0 ≤ (x9_2 : Int) := of_decide_eq_true (by assumption)
              have q416 : x9_2 < (x413000_2.length : Int) := of_decide_eq_true (by assumption)
              obtain ⟨ad416, e416, hx416_0⟩ := Kd.at_int (Kd.R_reads' HO_413000.out).2.2 x9_2 p416 q416
              obtain rfl : ad415 = ad416 := (by injection e416)
              replace p416 := eq_true p416
              replace q416 := eq_true q416
              go_wp2_with (first | (go_at_call 44; (with_reducible refine (spec_prCost.calls (rd x413000_2 x9_2) x9_2 (t409.length : Int) t417 _ A53.out).mono ?_); rintro e w' ⟨rfl, ⟨nd, rfl⟩⟩; (try exact dR_)))
              repeat (go_quiet (first | (go_at_call 44; (with_reducible refine (spec_prCost.calls (rd x413000_2 x9_2) x9_2 (t409.length : Int) t417 _ A53.out).mono ?_); rintro e w' ⟨rfl, ⟨nd, rfl⟩⟩; (try exact dR_))); try go_wp2_with (first | (go_at_call 44; (with_reducible refine (spec_prCost.calls (rd x413000_2 x9_2) x9_2 (t409.length : Int) t417 _ A53.out).mono ?_); rintro e w' ⟨rfl, ⟨nd, rfl⟩⟩; (try exact dR_))))
              go_roundg k2
              case measure => have := HJ2.out; have := HK2.out; omega
              case rel => exact ⟨(x8_2), (Int.tmod (wrap64 (x9_2 + 1)) (t409.length : Int)), (x413000_2), (.slice (some ad415) x413000_2.length co72), sR_, sR_, H', ⟨by have := HJ2.out; have := HK2.out; omega⟩, ⟨rr_ HO_413000⟩, ⟨kk_ BK404⟩, ⟨kk_ BK405⟩, ⟨kk_ BK412⟩, ⟨bb_ HB⟩⟩
          ·rw [if_neg c45] at H
           exact absurd H (by simp)
         ·rw [if_neg c44] at H
          exact absurd H (by simp)
     ·rw [if_neg c28] at H
      exact absurd H (by simp)
    ·rw [if_neg c27] at H
     exact absurd H (by simp)
end Go.Proofs.Ytjhpnihlmnlehaa.G
namespace Go.Proofs.Ytjhpnihlmnlehaa.G
open Go Go.Maps Go.RowKit
/-- Block b is a map of at most n entries in which the numbers of S are told true. -/
def MapIs (P : Program) (K E : TypeId) (W : World) (b n : Nat) (S : List Int) : Prop :=
  ∃ D : DataW Unit, W.ownsMap P K (plainElem P E) b n D ∧ ∀ key : Int, D.atKey (.int .i64 key) (.lit (.bool false)) = .lit (.bool (decide (key ∈ S)))
end Go.Proofs.Ytjhpnihlmnlehaa.G
namespace Go.Proofs.Ytjhpnihlmnlehaa.G
open Go Go.Maps Go.RowKit
section
variable {P : Program} {T K E : TypeId} (hT : P.underlying T = some (.map K E)) (hK : P.underlying K = some (.int .i64)) (hE : P.underlying E = some .bool)
theorem MapIs.made (W : World) : MapIs P K E (W.alloc (.map #[] 0)) W.heap.size 0 [] :=
  ⟨.map [], World.ownsMap_made W P K _, fun key => by simp [DataW.atKey]⟩
theorem MapIs.lt {W : World} {b n : Nat} {S : List Int} (h : MapIs P K E W b n S) : b < W.heap.size := by
  obtain ⟨D, h1, _⟩ := h
  exact h1.lt
theorem MapIs.kept {W W' : World} {row : Option Nat} {b n : Nat} {S : List Int} (h : MapIs P K E W b n S) (hg : W.grownBy W' row) (hne : some b ≠ row) : MapIs P K E W' b n S := by
  obtain ⟨D, h1, h2⟩ := h
  exact ⟨D, h1.kept hg hne, h2⟩
theorem MapIs.below {W W' : World} {B b n : Nat} {S : List Int} (h : MapIs P K E W b n S) (hb : b < B) (hB : Below B W W') : MapIs P K E W' b n S := by
  obtain ⟨D, ⟨es, clock, h0, F, hs, hD⟩, h2⟩ := h
  exact ⟨D, ⟨es, clock, (hB.block b hb).trans h0, F, hs, hD⟩, h2⟩
include hT hK hE in
theorem MapIs.look {W : World} {b n : Nat} {S : List Int} (h : MapIs P K E W b n S) (hz : (zeroValue E).run P W = .ok (.bool false) W) {key : Int} (hk : (Lit.int .i64 key).wf = true) :
    (Instr.lookup T (.map (some b)) (.int .i64 key) false).run P W = .ok (.bool (decide (key ∈ S))) W := by
  obtain ⟨D, hown, hat⟩ := h
  obtain ⟨v, ps, hrun, hv⟩ := hown.lookup (int_keyed hK) hT hz (plainElem_bool hE false) (keyOf_int_mk hK hk)
  rw [hat key] at hv
  have e : v = .bool (decide (key ∈ S)) := by
    unfold plainElem at hv
    rw [hE] at hv
    cases v <;> simp at hv
    rw [hv.1]
  rw [hrun, e]
include hT hK hE in
theorem MapIs.put {W : World} {b n : Nat} {S : List Int} (h : MapIs P K E W b n S) (hn : n < maxLen) {key : Int} (hk : (Lit.int .i64 key).wf = true) :
    ∃ W', (Instr.mapUpdate T (.map (some b)) (.int .i64 key) (.bool true)).run P W = .ok () W' ∧ MapIs P K E W' b (n + 1) (S ++ [key]) ∧ W.grownBy W' (some b) := by
  obtain ⟨D, hown, hat⟩ := h
  obtain ⟨W', hrun, hown', hg⟩ := hown.update (int_keyed hK) hT hn (keyOf_int_mk hK hk) (plainElem_bool hE true)
  refine ⟨W', hrun, ⟨_, hown', fun key' => ?_⟩, hg⟩
  by_cases c : key' = key
  · subst c
    rw [atKey_put_same hown.isMap (by first | exact trivial | decide | simp [WideAt.IsKeyLit])]
    simp
  · rw [atKey_put_other (by simpa using c), hat key']
    simp [c]
include hT hK hE in
end
end Go.Proofs.Ytjhpnihlmnlehaa.G
namespace Go.Proofs.Ytjhpnihlmnlehaa.G
open Go Go.Maps Go.RowKit
theorem MapIs.congr {P : Program} {K E : TypeId} {W : World} {b n : Nat} {S S' : List Int} (h : MapIs P K E W b n S) (hs : ∀ x, x ∈ S ↔ x ∈ S') : MapIs P K E W b n S' := by
  obtain ⟨D, h1, h2⟩ := h
  exact ⟨D, h1, fun key => by rw [h2 key]; congr 3; exact propext (hs key)⟩
end Go.Proofs.Ytjhpnihlmnlehaa.G
namespace Go.Proofs.Ytjhpnihlmnlehaa.G
open Go.RowKit Go.Proofs.YtjhpnihlmnlehaaW.PrintWords Go.Proofs.YtjhpnihlmnlehaaW.PrintLast Go.Proofs.YtjhpnihlmnlehaaW.PrintMore
def PredM (g : Nat) (lb : Array Value) (p : Int → Bool) (l : List Int) (w : World) : Prop :=
  ∀ (W : World) (x : Int), x ∈ l → Below w.heap.size w W → Calls Try.prog g (#[.int .i64 x] ++ lb) W fun e w' => e = .returned (.bool (p x)) ∧ Below W.heap.size W w'
set_option maxHeartbeats 2000000 in
theorem slices_IndexFunc.callsM (A : Option Addr) (c : Nat) (l : List Int) (g : Nat) (lb : Array Value) (p : Int → Bool) (w : World)
    (eg : ∀ args w, (callFunc g args).run Try.prog w = .ok (.enter g args) w)
    (hp0 : PredM g lb p l w) (hr : Kd.C (Kd.int .i64) w A l.length l) (hc : l.length ≤ c) :
    Calls Try.prog 64 #[.slice A l.length c, .func (.func g) #[] lb] w fun e w' => e = .returned (.int .i64 (idxF p l 0)) ∧ Below w.heap.size w w' := by
  have hbig : l.length ≤ 9223372036854775807 := hr.2.1
  have HR := Aside0.mk hr
  have HP := Aside0.mk hp0
  clear hr hc hp0
  go_enter Try.func64, Try.ntmps64
  go_wp2
  go_loopg [5, 8] l.length (fun gg _ s8 wr => ∃ kk : Nat, kk ≤ l.length ∧ l.length - kk ≤ gg ∧ s8 = .int .i64 kk ∧ Aside0 (Below w.heap.size w wr) ∧ Aside0 (∀ j, j < kk → p (l.getD j 0) = false))
  case atStart => exact ⟨0, Nat.zero_le _, by omega, rfl, ⟨Below.refl _ _⟩, ⟨fun j hj => absurd hj (Nat.not_lt_zero _)⟩⟩
  case round =>
    obtain ⟨kk, hkk, hg, rfl, HB, AA⟩ := hrel
    by_cases hlt : kk < l.length
    · have hltz : (kk : Int) < (l.length : Int) := by omega
      obtain ⟨ad, rfl, hx⟩ := Kd.at_int (Kd.C_below HR.out HB.out) (kk : Int) (by omega) hltz
      rw [Int.toNat_natCast] at hx
      obtain ⟨y, hy⟩ : ∃ y, y = rd l (kk : Int) := ⟨_, rfl⟩
      rw [← hy] at hx
      have B : Aside0 (l.getD kk 0 = y) := ⟨by rw [hy, rd, Int.toNat_natCast]⟩
      have hmem : y ∈ l := by rw [← B.out, List.getD_eq_getElem?_getD, List.getElem?_eq_getElem hlt]; exact List.getElem_mem hlt
      clear hy
      have hcall := Aside0.mk (fun W (hb : Below w.heap.size w W) => HP.out W y hmem hb)
      clear hmem
      cases hq : p y with
      | true =>
        rw [hq] at hcall
        go_wp2_with (go_at_fn g; refine (hcall.out _ (by first | exact HB.out | exact below_drew1 HB.out | exact pw_below_drewN HB.out _)).mono ?_; rintro e w' ⟨rfl, hb⟩; have nB_ := Aside0.mk (below_step (by first | exact HB.out | exact below_drew1 HB.out | exact pw_below_drewN HB.out _) hb); clear HB hb; have HB := nB_; clear nB_)
        go_ret
        refine ⟨?_, HB.out⟩
        rw [idxF_hit p l kk 0 hlt AA.out (by rw [B.out]; exact hq)]
        simp
      | false =>
        rw [hq] at hcall
        go_wp2_with (go_at_fn g; refine (hcall.out _ (by first | exact HB.out | exact below_drew1 HB.out | exact pw_below_drewN HB.out _)).mono ?_; rintro e w' ⟨rfl, hb⟩; have nB_ := Aside0.mk (below_step (by first | exact HB.out | exact below_drew1 HB.out | exact pw_below_drewN HB.out _) hb); clear HB hb; have HB := nB_; clear nB_)
        go_roundg (l.length - (kk + 1))
        case measure => omega
        case rel =>
          refine ⟨kk + 1, by omega, by omega, by go_num, HB, ⟨fun j hj => ?_⟩⟩
          by_cases e : j = kk
          · subst e
            rw [B.out]; exact hq
          · exact AA.out j (by omega)
    · have hltz : ¬ (kk : Int) < (l.length : Int) := by omega
      obtain rfl : kk = l.length := by omega
      go_wp2
      go_ret
      refine ⟨?_, HB.out⟩
      rw [idxF_miss p l 0 AA.out]; rfl
def wayS (l S : List Int) (key : Int) : Nat → Nat → Bool
  | 0, _ => true
  | d + 1, k => decide (l.getD ((key.toNat + k) % l.length) 0 ∈ S) && wayS l S key d (k + 1)
theorem mp_zero (w : World) : (zeroValue 4).run Try.prog w = .ok (.bool false) w := by kernel_rfl
set_option maxHeartbeats 4000000 in
set_option maxRecDepth 100000 in
theorem comesC (A : Option Addr) (c0 : Nat) (l : List Int) (key at_ : Int) (cst K0 b nb : Nat) (S : List Int) (w : World)
    (hr : Kd.C (Kd.int .i64) w A l.length l) (hc : l.length ≤ c0) (hm : MapIs Try.prog 3 4 w b nb S) (h1 : 1 ≤ l.length) (h2 : l.length ≤ 1000)
    (hcells : ∀ j, j < l.length → -1 ≤ l.getD j 0 ∧ l.getD j 0 ≤ 999) (hk0 : 0 ≤ key) (hk9 : key ≤ 999) (hix : slices_Index_int_int.f K0 l key = some at_) (hcost : impl_Table_cost.f l at_ = some (cst : Int)) (hcl : cst ≤ 1000) :
    Calls Try.prog 66 #[.agg #[.slice A l.length c0], .int .i64 key, .map (some b)] w fun e w' => e = .returned (.bool (wayS l S key cst 0 && !decide (key ∈ S))) ∧ Below w.heap.size w w' := by
  have HR := Aside0.mk hr
  have HC := Aside0.mk hc
  have HM := Aside0.mk hm
  have HIX := Aside0.mk hix
  have HCO := Aside0.mk hcost
  have HL := Aside0.mk (show 1 ≤ l.length ∧ l.length ≤ 1000 ∧ 0 ≤ key ∧ key ≤ 999 ∧ cst ≤ 1000 from ⟨h1, h2, hk0, hk9, hcl⟩)
  have HCE := Aside0.mk hcells
  have HB := Aside0.mk (Below.refl w.heap.size w)
  clear hr hc hm hix hcost h1 h2 hk0 hk9 hcl hcells
  go_enter Try.func66, Try.ntmps66
  go_wp2_with (first
    | ((with_reducible refine gate_dst (N := 3) rfl ?_); refine box_event ?hg (N := 3) ?hd (cs := #[.slice A l.length c0]) (t := 26) ?hr ?_; (case hd => rfl); (case hg => rfl); (case hr => first | (go_simp; done) | (go_simp; rfl)); intro gb hg w4 hbox hb; have nB_ := Aside0.mk (below_step HB.out hb); have BK := Aside0.mk hbox; have GE := Aside0.mk ((by rw [hg]; exact below_size HB.out) : w.heap.size ≤ gb); clear HB; have HB := nB_; clear nB_ hb hbox hg; have hcz := (blk_cell BK.out 0).trans rfl)
    | (go_at_call 37; refine (slices_Index_int_int.calls K0 _ _ l key at_ _ ?s1 HC.out HIX.out).mono ?_; (case s1 => exact Kd.C_below HR.out HB.out); rintro e w5 ⟨rfl, ⟨nd, rfl⟩⟩)
    | (go_at_call 38; refine (impl_Table_cost.calls _ _ l at_ (cst : Int) _ ?s1 HC.out HCO.out).mono ?_; (case s1 => exact Kd.C_drewN (Kd.C_below HR.out HB.out) _); rintro e w6 ⟨rfl, hb⟩; have nB_ := Aside0.mk (below_step (pw_below_drewN HB.out _) hb); have nK_ := Aside0.mk (blk_below (g := gb) (blk_drewN BK.out _) hb); clear HB BK hb; have HB := nB_; have BK := nK_; clear nB_ nK_))
  go_loopg [8, 16] cst (fun gg _ s16 wr => ∃ k : Nat, Aside0 (k ≤ cst) ∧ Aside0 (cst - k ≤ gg) ∧ s16 = .int .i64 (k : Int) ∧ Aside0 (wr.heap[gb]? = some (.cells #[.slice A l.length c0] 26 (0, 0))) ∧ Aside0 (Below w.heap.size w wr) ∧ Aside0 (wayS l S key cst 0 = wayS l S key (cst - k) k))
  case atStart => exact ⟨0, ⟨Nat.zero_le _⟩, ⟨by omega⟩, rfl, ⟨BK.out⟩, ⟨HB.out⟩, ⟨rfl⟩⟩
  case round =>
    clear BK HB
    obtain ⟨k, HKL, HG, rfl, BK, HB, HW⟩ := hrel
    obtain ⟨z, hz⟩ : ∃ z : Int, z = (k : Int) := ⟨_, rfl⟩
    rw [← hz]
    have HZ := Aside0.mk hz
    by_cases hlt : k < cst
    · have c1 : decide (z < (cst : Int)) = true := decide_eq_true (by omega)
      have hcz : wr.cell? ⟨gb, 0, none⟩ = some (.slice A l.length c0) := (blk_cell BK.out 0).trans rfl
      obtain ⟨y, hy⟩ : ∃ y : Int, Int.tmod (key + z) (l.length : Int) = y := ⟨_, rfl⟩
      have hyn : y = (((key.toNat + k) % l.length : Nat) : Int) := by
        have hl := HL.out
        rw [← hy, hz, show key + (k : Int) = ((key.toNat + k : Nat) : Int) by omega]; rfl
      have hylt := Nat.mod_lt (key.toNat + k) (show 0 < l.length by have := HL.out; omega)
      have hs : IntKind.i64.wrap (key + z) = key + z := by have := HL.out; rw [IntKind.wrap_i64]; omega
      have n0 : ((l.length : Int) == 0) = false := beq_eq_false_iff_ne.mpr (by omega)
      have n1 : ¬ l = [] := fun e => by rw [e] at hylt; simp at hylt
      have p1 : 0 ≤ y := by omega
      have p2 : y < (l.length : Int) := by omega
      obtain ⟨ad, rfl, hx⟩ := Kd.at_int (Kd.C_below HR.out HB.out) y p1 p2
      obtain ⟨v, hv⟩ : ∃ v, v = rd l y := ⟨_, rfl⟩
      rw [← hv] at hx
      have hvl : v = l.getD ((key.toNat + k) % l.length) 0 := by rw [hv, hyn, rd, Int.toNat_natCast]
      have hvw : (Lit.int .i64 v).wf = true := by
        have := HCE.out _ hylt
        rw [← hvl] at this
        simp only [Lit.wf, Bool.and_eq_true, decide_eq_true_eq]
        have e1 : IntKind.i64.min = -9223372036854775808 := by decide
        have e2 : IntKind.i64.max = 9223372036854775807 := by decide
        rw [e1, e2]; omega
      obtain ⟨cb, hcb⟩ : ∃ cb : Bool, cb = decide (v ∈ S) := ⟨_, rfl⟩
      have hlk : ∀ q : Nat, (Instr.lookup 67 (.map (some b)) (.int .i64 v) false).run Try.prog (wr.drewN q) = .ok (.bool cb) (wr.drewN q) := fun q => by
        rw [hcb]
        exact MapIs.look (T := 67) (K := 3) (E := 4) Try.underlying67 Try.underlying3 Try.underlying4 (HM.out.below HM.out.lt (pw_below_drewN HB.out q)) (mp_zero _) hvw
      have HV := Aside0.mk hvl
      have HCB := Aside0.mk hcb
      have q1 := eq_true p1
      have q2 := eq_true p2
      clear hz hyn hylt p1 p2 hv hvl hvw hcb
      go_wp2
      refine wp_region_quiet_lit (by kernel_rfl) (by kernel_rfl) ?_
      refine wpQuiet_step (fun K hK => ?_)
      go_simp
      refine hK _ ?_
      clear hK K
      refine wpQuiet_step (fun K hK => ?_)
      go_simp
      refine hK _ ?_
      clear hK K
      refine wpQuiet_step (fun K hK => ?_)
      go_simp
      refine hK _ ?_
      clear hK K
      refine wpQuiet_step (fun K hK => ?_)
      go_simp
      refine hK _ ?_
      clear hK K
      refine wpQuiet_step (fun K hK => ?_)
      go_simp
      refine hK _ ?_
      clear hK K
      refine wpQuiet_step (fun K hK => ?_)
      go_simp
      refine hK _ ?_
      clear hK K
      refine wpQuiet_step (fun K hK => ?_)
      go_simp
      refine hK _ ?_
      clear hK K
      refine wpQuiet_step (fun K hK => ?_)
      go_simp
      refine hK _ ?_
      clear hK K
      refine wpQuiet_step (fun K hK => ?_)
      go_simp
      refine hK _ ?_
      clear hK K
      refine wpQuiet_step (fun K hK => ?_)
      go_simp
      refine hK _ ?_
      clear hK K
      refine wpQuiet_step (fun K hK => ?_)
      go_simp
      refine hK _ ?_
      clear hK K
      refine wpQuiet_step (fun K hK => ?_)
      go_simp
      refine hK _ ?_
      clear hK K
      refine wpQuiet_step (fun K hK => ?_)
      go_simp
      refine hK _ ?_
      clear hK K
      refine wpQuiet_step (fun K hK => ?_)
      go_simp
      refine hK _ ?_
      clear hK K
      refine wpQuiet_nil ?_
      intro _ hw'
      obtain ⟨nq, hw''⟩ := hw'
      subst hw''
      cases cb with
      | true =>
        have hb2 := pw_below_drewN HB.out nq
        have hk2 := blk_drewN BK.out nq
        have HB2 := Aside0.mk hb2
        have BK2 := Aside0.mk hk2
        clear hb2 hk2
        go_wp2
        go_roundg (gk - 1)
        case measure => have := HG.out; omega
        case rel =>
          refine ⟨k + 1, ⟨by omega⟩, ⟨by have := HG.out; omega⟩, by have h1 := HZ.out; have h2 := HL.out; have h3 : wrap64 (z + 1) = ((k + 1 : Nat) : Int) := (by unfold wrap64; omega); rw [h3], ⟨BK2.out⟩, ⟨HB2.out⟩, ⟨?_⟩⟩
          rw [HW.out, show cst - k = (cst - (k + 1)) + 1 by omega, wayS, ← HV.out, ← HCB.out, Bool.true_and]
      | false =>
        have hb2 := pw_below_drewN HB.out nq
        have HB2 := Aside0.mk hb2
        clear hb2
        go_wp2
        go_ret
        refine ⟨?_, HB2.out⟩
        rw [HW.out, show cst - k = (cst - (k + 1)) + 1 by omega, wayS, ← HV.out, ← HCB.out, Bool.false_and, Bool.false_and]
        rfl
    · have c1 : decide (z < (cst : Int)) = false := decide_eq_false (by omega)
      obtain ⟨cb, hcb⟩ : ∃ cb : Bool, cb = decide (key ∈ S) := ⟨_, rfl⟩
      have hkw : (Lit.int .i64 key).wf = true := by
        have := HL.out
        simp only [Lit.wf, Bool.and_eq_true, decide_eq_true_eq]
        have e1 : IntKind.i64.min = -9223372036854775808 := by decide
        have e2 : IntKind.i64.max = 9223372036854775807 := by decide
        rw [e1, e2]; omega
      have hlk : (Instr.lookup 67 (.map (some b)) (.int .i64 key) false).run Try.prog wr = .ok (.bool cb) wr := by
        rw [hcb]
        exact MapIs.look (T := 67) (K := 3) (E := 4) Try.underlying67 Try.underlying3 Try.underlying4 (HM.out.below HM.out.lt HB.out) (mp_zero _) hkw
      have HCB := Aside0.mk hcb
      clear hz hcb hkw
      go_wp2
      go_ret
      refine ⟨?_, HB.out⟩
      rw [HW.out, show cst - k = 0 by omega, wayS, Bool.true_and, ← HCB.out]
      rfl
theorem MapIs.ne_cells {P : Program} {K E : TypeId} {W : World} {b n : Nat} {S : List Int} (h : MapIs P K E W b n S) {g t : Nat} {cs : Array Value} {z : Nat × Nat} (hg : W.heap[g]? = some (.cells cs t z)) : g ≠ b := by
  obtain ⟨D, ⟨es, clock, h0, _⟩, _⟩ := h
  intro e
  subst e
  rw [h0] at hg
  cases hg
set_option maxHeartbeats 4000000 in
theorem firstP (A : Option Addr) (c0 : Nat) (l : List Int) (ats : Int → Int) (cst : Int → Nat) (K0 b nb : Nat) (S : List Int) (bx dc : Nat) (ks : List Int) (w : World)
    (hr : Kd.C (Kd.int .i64) w A l.length l) (hc : l.length ≤ c0) (hm : MapIs Try.prog 3 4 w b nb S)
    (hbx : w.heap[bx]? = some (.cells #[.slice A l.length c0] 26 (0, 0))) (hdc : w.heap[dc]? = some (.cells #[.map (some b)] 67 (0, 0))) (h1 : 1 ≤ l.length) (h2 : l.length ≤ 1000)
    (hcells : ∀ j, j < l.length → -1 ≤ l.getD j 0 ∧ l.getD j 0 ≤ 999)
    (hks : ∀ x, x ∈ ks → 0 ≤ x ∧ x ≤ 999 ∧ slices_Index_int_int.f K0 l x = some (ats x) ∧ impl_Table_cost.f l (ats x) = some (cst x : Int) ∧ cst x ≤ 1000) :
    PredM 65 #[.pointer (some ⟨bx, 0, none⟩), .pointer (some ⟨dc, 0, none⟩)] (fun x => wayS l S x (cst x) 0 && !decide (x ∈ S)) ks w := by
  intro W x hx hb
  obtain ⟨k1, k2, k3, k4, k5⟩ := hks x hx
  have hcall := comesC A c0 l x (ats x) (cst x) K0 b nb S W (Kd.C_below hr hb) hc (hm.below hm.lt hb) h1 h2 hcells k1 k2 k3 k4 k5
  have BK := Aside0.mk ((hb.block bx (blk_lt hbx)).trans hbx)
  have DC := Aside0.mk ((hb.block dc (blk_lt hdc)).trans hdc)
  generalize hp : (wayS l S x (cst x) 0 && !decide (x ∈ S)) = pb
  simp only [hp]
  rw [hp] at hcall
  clear hb hr hc hm hbx hdc h1 h2 hcells hks k1 k2 k3 k4 k5 hx hp
  simp only [List.append_toArray, List.append_nil]
  have hcz := (blk_cell BK.out 0).trans rfl
  have hcd := (blk_cell DC.out 0).trans rfl
  go_enter Try.func65, Try.ntmps65
  go_wp2_with (go_at_call 66; refine hcall.mono ?_; rintro e w5 ⟨rfl, hb⟩)
  go_ret
  exact ⟨rfl, hb⟩
def atK (l : List Int) (x : Int) : Int := (slices_Index_int_int.f 2000 l x).getD 0
def cstK (l : List Int) (x : Int) : Nat := ((impl_Table_cost.f l (atK l x)).getD 0).toNat
def keyOk (l : List Int) (x : Int) : Bool := decide (0 ≤ x) && decide (x ≤ 999) && decide (slices_Index_int_int.f 2000 l x = some (atK l x)) && decide (impl_Table_cost.f l (atK l x) = some (cstK l x : Int)) && decide (cstK l x ≤ 1000)
def cellOk (x : Int) : Bool := decide (-1 ≤ x) && decide (x ≤ 999)
def comesF (l S : List Int) (x : Int) : Bool := wayS l S x (cstK l x) 0 && !decide (x ∈ S)
def firstGo (l ks : List Int) : Nat → List Int → Option (List Int)
  | 0, S => some S
  | d + 1, S => if 0 ≤ idxF (comesF l S) ks 0 then firstGo l ks d (S ++ [rd ks (idxF (comesF l S) ks 0)]) else none
def impl_Table_first.f (l0_0 : List Int) : Option (List Int) :=
  if 1 ≤ l0_0.length ∧ l0_0.length ≤ 1000 ∧ l0_0.all cellOk = true ∧ (keysZ l0_0).all (keyOk l0_0) = true then firstGo l0_0 (keysZ l0_0) (keysZ l0_0).length [] else none
theorem idxF_lt (p : Int → Bool) : ∀ (l : List Int) (i : Int), 0 ≤ i → idxF p l i < i + l.length ∧ (idxF p l i = -1 ∨ i ≤ idxF p l i)
  | [], i, h => by simp [idxF]; omega
  | x :: r, i, h => by
    have := idxF_lt p r (i + 1) (by omega)
    by_cases c : p x = true
    · simp [idxF, c]; omega
    · simp only [idxF, c, if_false, List.length_cons]; constructor <;> omega
theorem kz_len (l : List Int) : (keysZ l).length ≤ l.length := by
  have := List.length_filter_le (fun x => !negKey x) (sortZ l)
  rw [sortZ_len] at this
  exact this
theorem rd_mem' (l : List Int) (z : Int) (h0 : 0 ≤ z) (h1 : z < l.length) : rd l z ∈ l := by
  rw [rd, List.getD_eq_getElem?_getD, List.getElem?_eq_getElem (by omega)]
  exact List.getElem_mem _
theorem blk_new (W : World) (o : Obj) : (W.alloc o).heap[W.heap.size]? = some o := Array.getElem?_push_size
theorem made3 {w : World} (w4 : World) (gb : Nat) {cs : Array Value} (hB : Below w.heap.size w w4) (hbk : w4.heap[gb]? = some (.cells cs 26 (0, 0))) :
    MapIs Try.prog 3 4 (((w4.alloc (Obj.cells #[] 3)).alloc (Obj.map #[] 0)).alloc (Obj.cells #[Value.map (some (w4.heap.size + 1))] 67)) (w4.heap.size + 1) 0 []
    ∧ (((w4.alloc (Obj.cells #[] 3)).alloc (Obj.map #[] 0)).alloc (Obj.cells #[Value.map (some (w4.heap.size + 1))] 67)).heap[w4.heap.size + 1 + 1]? = some (.cells #[Value.map (some (w4.heap.size + 1))] 67 (0, 0))
    ∧ (((w4.alloc (Obj.cells #[] 3)).alloc (Obj.map #[] 0)).alloc (Obj.cells #[Value.map (some (w4.heap.size + 1))] 67)).heap[gb]? = some (.cells cs 26 (0, 0))
    ∧ Kd.R (Kd.int .i64) 3 (((w4.alloc (Obj.cells #[] 3)).alloc (Obj.map #[] 0)).alloc (Obj.cells #[Value.map (some (w4.heap.size + 1))] 67)) w.heap.size (fun k => k ≠ w4.heap.size + 1) (Value.slice (some { block := w4.heap.size, off := 0 }) 0 0) []
    ∧ Below w.heap.size w (((w4.alloc (Obj.cells #[] 3)).alloc (Obj.map #[] 0)).alloc (Obj.cells #[Value.map (some (w4.heap.size + 1))] 67)) := by
  have hb4 := Below.refl w4.heap.size w4
  have hb5 := below_alloc hb4 (Obj.cells #[] 3)
  have hb6 := below_alloc hb5 (Obj.map #[] 0)
  have hb7 := below_alloc hb6 (Obj.cells #[Value.map (some (w4.heap.size + 1))] 67)
  refine ⟨?_, ?_, ?_, ?_, below_alloc (below_alloc (below_alloc hB _) _) _⟩
  · have h := MapIs.made (P := Try.prog) (K := 3) (E := 4) (w4.alloc (Obj.cells #[] 3))
    have e : (w4.alloc (Obj.cells #[] 3)).heap.size = w4.heap.size + 1 := by simp
    rw [e] at h
    exact h.below h.lt (below_alloc (Below.refl _ _) _)
  · have e : ((w4.alloc (Obj.cells #[] 3)).alloc (Obj.map #[] 0)).heap.size = w4.heap.size + 1 + 1 := by simp
    exact e ▸ blk_new _ _
  · exact (hb7.block gb (blk_lt hbk)).trans hbk
  · have ho : (((w4.alloc (Obj.cells #[] 3)).alloc (Obj.map #[] 0)).alloc (Obj.cells #[Value.map (some (w4.heap.size + 1))] 67)).ownsRow w.heap.size 3 1 (.slice (some ⟨w4.heap.size, 0, none⟩) 0 0) 0 (nums .i64 []) := own_alloc (own_alloc (World.ownsRow_made w4 #[] 0 (below_size hB) (Nat.zero_le _) (by simp)) _) _
    refine R_of_nums rfl ho (fun k_ hk => ?_)
    simp only [Value.ownBlock, Option.some.injEq] at hk
    omega
set_option maxHeartbeats 8000000 in
set_option maxRecDepth 100000 in
theorem impl_Table_first.calls (A0_0 : Option Addr) (c0_0 : Nat) (l0_0 : List Int) (r : List Int) (w : World) (hr0_0 : Kd.C (Kd.int .i64) w A0_0 l0_0.length l0_0) (hc0_0 : l0_0.length ≤ c0_0) (h : impl_Table_first.f l0_0 = some r) :
    Calls Try.prog 45 #[.agg #[.slice A0_0 l0_0.length c0_0]] w fun e w' => ∃ v0_ : Value, e = .returned (v0_) ∧ Kd.R (Kd.int .i64) 3 w' w.heap.size (fun _ => True) v0_ r ∧ Below w.heap.size w w' := by
  unfold impl_Table_first.f at h
  split at h
  case isFalse => cases h
  rename_i hl
  obtain ⟨h1, h2, hcl, hkl⟩ := hl
  have hcells : ∀ j, j < l0_0.length → -1 ≤ l0_0.getD j 0 ∧ l0_0.getD j 0 ≤ 999 := fun j hj => by
    have hm : l0_0.getD j 0 ∈ l0_0 := by rw [List.getD_eq_getElem?_getD, List.getElem?_eq_getElem hj]; exact List.getElem_mem hj
    have := List.all_eq_true.mp hcl _ hm
    simpa [cellOk] using this
  have hks : ∀ x, x ∈ keysZ l0_0 → 0 ≤ x ∧ x ≤ 999 ∧ slices_Index_int_int.f 2000 l0_0 x = some (atK l0_0 x) ∧ impl_Table_cost.f l0_0 (atK l0_0 x) = some (cstK l0_0 x : Int) ∧ cstK l0_0 x ≤ 1000 := fun x hx => by
    have := List.all_eq_true.mp hkl _ hx
    simp only [keyOk, Bool.and_eq_true, decide_eq_true_eq] at this
    exact ⟨this.1.1.1.1, this.1.1.1.2, this.1.1.2, this.1.2, this.2⟩
  have hkf : impl_Table_keys.f l0_0 = some (keysZ l0_0) := by unfold impl_Table_keys.f; rw [if_pos ⟨h1, by omega⟩]
  have HKL := Aside0.mk (Nat.le_trans (kz_len l0_0) h2)
  obtain ⟨ks, hk⟩ : ∃ ks, ks = keysZ l0_0 := ⟨_, rfl⟩
  rw [← hk] at h hks hkf HKL
  have HR := Aside0.mk hr0_0
  have HC := Aside0.mk hc0_0
  have HF := Aside0.mk h
  have HS := Aside0.mk hks
  have HCE := Aside0.mk hcells
  have HL := Aside0.mk (And.intro h1 h2)
  have HKF := Aside0.mk hkf
  have HB := Aside0.mk (Below.refl w.heap.size w)
  have hmm := @run_makeMap Try.prog
  clear hr0_0 hc0_0 h hks hcells hcl hkl hk h1 h2 hkf
  go_enter Try.func45, Try.ntmps45
  go_upto_region 2 with (first
    | ((with_reducible refine gate_dst (N := 1) rfl ?_); refine box_event ?hg (N := 1) ?hd (cs := #[.slice A0_0 l0_0.length c0_0]) (t := 26) ?hr ?_; (case hd => rfl); (case hg => rfl); (case hr => first | (go_simp; done) | (go_simp; rfl)); intro gb hg w4 hbox hb; have nB_ := Aside0.mk (below_step HB.out hb); have BK := Aside0.mk hbox; clear HB; have HB := nB_; clear nB_ hb hbox hg)
    | fail)
  have SW := Aside0.mk (made3 w4 gb HB.out BK.out)
  have hbb : w.heap.size ≤ w4.heap.size + 1 := Nat.le_succ_of_le (below_size HB.out)
  clear BK HB hmm
  generalize hW : (((w4.alloc (Obj.cells #[] 3)).alloc (Obj.map #[] 0)).alloc (Obj.cells #[Value.map (some (w4.heap.size + 1))] 67)) = W3 at SW ⊢
  generalize hb : w4.heap.size + 1 = b at SW hbb ⊢
  generalize hd : b + 1 = dc at SW ⊢
  generalize hv : (Value.slice (some { block := w4.heap.size, off := 0 }) 0 0) = v0 at SW ⊢
  clear hW hb hd hv
  obtain ⟨m1, m2, m3, m4, m5⟩ := SW.out
  have HM := Aside0.mk m1
  have DC := Aside0.mk m2
  have BX := Aside0.mk m3
  have HO := Aside0.mk m4
  have HB := Aside0.mk m5
  have hcz := (blk_cell m3 0).trans rfl
  clear SW m1 m2 m3 m4 m5
  go_upto_region 3 with (go_at_call 28; refine (impl_Table_keys.calls _ _ l0_0 ks _ ?s1 HC.out HKF.out).mono ?_; (case s1 => exact Kd.C_below HR.out HB.out); rintro e w5 ⟨v5, rfl, hk, hb⟩)
  clear hcz
  obtain ⟨Al, cl, rfl⟩ := Kd.R_slice hk
  have HK := Aside0.mk (Kd.R_lower (Kd.R_mono (ok' := fun k => k ≠ b ∧ some k ≠ v0.ownBlock) (Kd.R_bound hk) (fun k hk => ⟨fun e => by have := HM.out.lt; have := hk.2.1; omega, fun e => by have := Kd.R_lt HO.out k e.symm; have := hk.2.1; omega⟩)) (below_size HB.out))
  have nO := Aside0.mk (Kd.R_mono (ok' := fun k => k ≠ b ∧ some k ≠ (Value.slice Al ks.length cl).ownBlock) (Kd.R_below (Kd.R_bound HO.out) hb) (fun k hk2 => ⟨hk2.1, fun e => by have := Kd.R_base hk k e.symm; have := hk2.2.2.1; omega⟩))
  have nM := Aside0.mk (HM.out.below HM.out.lt hb)
  have nD := Aside0.mk ((hb.block dc (blk_lt DC.out)).trans DC.out)
  have nX := Aside0.mk ((hb.block gb (blk_lt BX.out)).trans BX.out)
  have nB := Aside0.mk (below_step HB.out hb)
  have HBB := Aside0.mk (show w.heap.size ≤ b from hbb)
  clear HO HM DC BX HB hk hb hbb
  go_wp2
  go_loopg [3, 13] ks.length (fun gg v3 v13 wr => ∃ (q : Nat) (S : List Int), Aside0 (firstGo l0_0 ks (ks.length - q) S = some r) ∧ Aside0 (q ≤ ks.length) ∧ Aside0 (ks.length - q ≤ gg) ∧ v13 = .int .i64 (q : Int) ∧ Aside0 (S.length = q) ∧ Aside0 (MapIs Try.prog 3 4 wr b q S)
    ∧ Aside0 (wr.heap[dc]? = some (.cells #[Value.map (some b)] 67 (0, 0))) ∧ Aside0 (wr.heap[gb]? = some (.cells #[.slice A0_0 l0_0.length c0_0] 26 (0, 0)))
    ∧ Aside0 (Kd.R (Kd.int .i64) 3 wr w.heap.size (fun k => k ≠ b ∧ some k ≠ v3.ownBlock) (Value.slice Al ks.length cl) ks) ∧ Aside0 (Kd.R (Kd.int .i64) 3 wr w.heap.size (fun k => k ≠ b ∧ some k ≠ (Value.slice Al ks.length cl).ownBlock) v3 S) ∧ Aside0 (Below w.heap.size w wr))
  case atStart => exact ⟨0, [], HF, ⟨Nat.zero_le _⟩, ⟨by omega⟩, rfl, ⟨rfl⟩, nM, nD, nX, HK, nO, nB⟩
  case round =>
    clear nM nD nX HK nO nB HF
    obtain ⟨q, S, HF, HQ, HG, rfl, HSL, HM, DC, BX, HK, HO, HB⟩ := hrel
    obtain ⟨z, hz⟩ : ∃ z : Int, z = (q : Int) := ⟨_, rfl⟩
    rw [← hz]
    have HZ := Aside0.mk hz
    by_cases hlt : q < ks.length
    · have c1 : decide (z < (ks.length : Int)) = true := decide_eq_true (by omega)
      have H := HF.out
      rw [show ks.length - q = (ks.length - (q + 1)) + 1 by omega, firstGo] at H
      obtain ⟨i, hi⟩ : ∃ i, i = idxF (comesF l0_0 S) ks 0 := ⟨_, rfl⟩
      rw [← hi] at H
      have hil := (idxF_lt (comesF l0_0 S) ks 0 (by omega)).1
      rw [← hi] at hil
      by_cases ci : 0 ≤ i
      · rw [if_pos ci] at H
        have HH := Aside0.mk H
        have HI := Aside0.mk hi.symm
        have p2 : i < (ks.length : Int) := by omega
        obtain ⟨ad, rfl, hx⟩ := Kd.at_int (Kd.R_reads' HK.out).2.2 i ci p2
        obtain ⟨x, hxe⟩ : ∃ x, x = rd ks i := ⟨_, rfl⟩
        have HX := Aside0.mk hxe
        have hmem : x ∈ ks := hxe ▸ rd_mem' ks i ci p2
        rw [← hxe] at hx
        have HMEM := Aside0.mk hmem
        have HCX := Aside0.mk hx
        have q1 := eq_true ci
        have q2 := eq_true p2
        clear hz H hi hil ci p2 hxe hmem HF hx
        go_upto_region 6 with (go_at_call 64; refine (slices_IndexFunc.callsM _ _ ks _ _ (comesF l0_0 S) _ (enters_of Try.func65 (by kernel_rfl) rfl) ?s1 ?s2 ?s3).mono ?_; (case s1 => exact firstP A0_0 c0_0 l0_0 (atK l0_0) (cstK l0_0) 2000 b q S gb dc ks _ (Kd.C_below HR.out HB.out) HC.out HM.out BX.out DC.out HL.out.1 HL.out.2 HCE.out HS.out); (case s2 => exact (Kd.R_reads' HK.out).2.2); (case s3 => exact (Kd.R_reads' HK.out).2.1); rintro e w6 ⟨rfl, hb⟩; rw [HI.out]; have hx6 := pw_cell_below hb HCX.out)
        have nM := Aside0.mk (HM.out.below HM.out.lt hb)
        have nD := Aside0.mk ((hb.block dc (blk_lt DC.out)).trans DC.out)
        have nX := Aside0.mk ((hb.block gb (blk_lt BX.out)).trans BX.out)
        have nK := Aside0.mk (Kd.R_below HK.out hb)
        have nO := Aside0.mk (Kd.R_below HO.out hb)
        have nB := Aside0.mk (below_step HB.out hb)
        clear HM DC BX HK HO HB hb hx6 HCX
        have hkw : (Lit.int .i64 x).wf = true := by
          have := HS.out x HMEM.out
          simp only [Lit.wf, Bool.and_eq_true, decide_eq_true_eq]
          have e1 : IntKind.i64.min = -9223372036854775808 := by decide
          have e2 : IntKind.i64.max = 9223372036854775807 := by decide
          rw [e1, e2]; omega
        obtain ⟨w7, hup, hM7, hg7⟩ := MapIs.put (T := 67) (K := 3) (E := 4) Try.underlying67 Try.underlying3 Try.underlying4 nM.out (by rw [maxLen]; have := HKL.out; omega) hkw
        have hne1 : some gb ≠ some b := fun e => nM.out.ne_cells nX.out (Option.some.inj e)
        have hne2 : some dc ≠ some b := fun e => nM.out.ne_cells nD.out (Option.some.inj e)
        have hbW : w.heap.size ≤ b := HBB.out
        have DC := Aside0.mk (blk_grown nD.out hg7 hne2)
        have BX := Aside0.mk (blk_grown nX.out hg7 hne1)
        have HK := Aside0.mk (Kd.R_grown nK.out hg7 (fun k hk e => hk.1 (Option.some.inj e)))
        have HO := Aside0.mk (Kd.R_grown nO.out hg7 (fun k hk e => hk.1 (Option.some.inj e)))
        have HB := Aside0.mk (nB.out.grown hg7 (below_size nB.out) (fun k hk => by cases hk; exact hbW))
        have HM := Aside0.mk hM7
        have hcd := (blk_cell nD.out 0).trans rfl
        clear nM nX nK nO nB hkw hM7 hg7 hne1 hne2 hbW
        go_upto_region 7 with fail
        clear hcd nD hup
        have HLM := Aside0.mk (show S.length < 17592186044416 by have := HSL.out; have := HKL.out; omega)
        go_wp2_with ((with_reducible refine gate_builtin (b := .append) (xs := #[.tmp 23, .tmp 25]) rfl ?_); at_builtin; refine Kd.R_append (Kd.int .i64) (w0 := w) w.heap.size rfl (.tmp 23) (.tmp 25) 24 3 (.int .i64 0) 8 rfl Try.underlying24 gv_info3 rfl (by decide) (by omega) u3 S x [.int .i64 x] (fun k_ => k_ ≠ b ∧ some k_ ≠ (Value.slice (some ad) ks.length cl).ownBlock) (fun _ => False) rfl rfl ?aP (fun _ hk => hk.elim) ?aF ?aO ?aB ?aS ?aL ?_; (case aP => exact rfl); (case aB => exact (by repeat (first | (with_reducible first | exact HB.out | apply below_alloc | apply pw_below_drewN | apply below_drew1) | exact HB.out))); (case aF => exact (fun k_ hk => ⟨fun e_ => by have := HM.out.lt; (try simp at hk); omega, fun e_ => by have := Kd.R_lt HK.out k_ e_.symm; (try simp at hk); omega⟩)); (case aO => exact (by (with_reducible repeat (first | apply Kd.R_alloc | apply Kd.R_drewN | apply Kd.R_drew)); exact HO.out)); (case aS => exact (below_size (by repeat (first | (with_reducible first | exact HB.out | apply below_alloc | apply pw_below_drewN | apply below_drew1) | exact HB.out)))); (case aL => have := HLM.out; omega); intro v26 w8 ho hb hg hat)
        have hMr : some b ≠ u3.ownBlock := fun e => (HO.out.1 b e.symm).1 rfl
        have nM := Aside0.mk (HM.out.kept hg hMr)
        have nD := Aside0.mk (blk_grown DC.out hg (Kd.R_ne HO.out DC.out (by decide)))
        have nX := Aside0.mk (blk_grown BX.out hg (Kd.R_ne HO.out BX.out (by decide)))
        have nK := Aside0.mk (Kd.R_after (ok := (fun k_ => k_ ≠ b)) HK.out hg hat)
        have nO := Aside0.mk ho
        have nB := Aside0.mk hb
        have HH2 := Aside0.mk (show firstGo l0_0 ks (ks.length - (q + 1)) (S ++ [x]) = some r by rw [HX.out]; exact HH.out)
        clear HM DC BX HK HO HB ho hb hg hat hMr
        go_roundg (gk - 1)
        case measure => have := HG.out; omega
        case rel => exact ⟨q + 1, S ++ [x], HH2, ⟨by omega⟩, ⟨by have := HG.out; omega⟩, by have h1 := HZ.out; have h2 := HKL.out; have h3 : wrap64 (z + 1) = ((q + 1 : Nat) : Int) := (by unfold wrap64; omega); rw [h3], ⟨by rw [List.length_append, HSL.out]; rfl⟩, nM, nD, nX, nK, nO, nB⟩
      · rw [if_neg ci] at H
        cases H
    · have c1 : decide (z < (ks.length : Int)) = false := decide_eq_false (by omega)
      have hq0 : ks.length - q = 0 := by omega
      have H := HF.out
      rw [hq0, firstGo] at H
      obtain rfl := Option.some.inj H
      clear hz H
      go_wp2
      go_ret
      exact ⟨_, rfl, Kd.R_mono HO.out (fun _ _ => trivial), HB.out⟩
end Go.Proofs.Ytjhpnihlmnlehaa.G
namespace Go.Proofs.Ytjhpnihlmnlehaa.G
open Go.RowKit Go.Lib Go.Proofs.YtjhpnihlmnlehaaW.PrintWords Go.Proofs.YtjhpnihlmnlehaaW.PrintLast Go.Proofs.YtjhpnihlmnlehaaW.PrintMore
theorem m_mask (a : Nat) (ha : a < 4294967296) : bits .and .u64 (a : Int) 4294967295 = (a : Int) := by
  have h := bits_and_u64_nat a 4294967295 (by omega) (by omega)
  have e : a &&& 4294967295 = a % 4294967296 := Nat.and_two_pow_sub_one_eq_mod a 32
  rw [e, Nat.mod_eq_of_lt ha] at h
  exact h
theorem m_wrap (a : Nat) (ha : a < 18446744073709551616) : IntKind.u64.wrap (a : Int) = (a : Int) := by rw [IntKind.wrap_u64]; omega
theorem m_div (a : Nat) (ha : a < 4294967296) : (a : Int) / 4294967296 = 0 := by omega
theorem m_one : bits .and .u64 1 4294967295 = 1 := m_mask 1 (by omega)
theorem m_zero : bits .and .u64 0 4294967295 = 0 := m_mask 0 (by omega)
theorem m_wrap0 : IntKind.u64.wrap 0 = 0 := m_wrap 0 (by omega)
set_option maxHeartbeats 1000000 in
theorem bits_Mul64_small (y : Nat) (hy : y < 4294967296) (w : World) :
    Calls Try.prog 80 #[.int .u64 1, .int .u64 (y : Int)] w fun e w' => e = .returned (.tuple #[.int .u64 0, .int .u64 (y : Int)]) ∧ w' = w := by
  go_enter Try.func80, Try.ntmps80
  go_wp2
  simp only [m_one, m_mask y hy, m_div y hy, Int.one_mul, m_wrap y (by omega), m_wrap0, m_zero, Int.zero_ediv, Int.mul_zero, Int.add_zero]
  go_ret2
  exact ⟨rfl, rfl⟩
set_option maxHeartbeats 1000000 in
theorem bits_Mul_small (y : Nat) (hy : y < 4294967296) (w : World) :
    Calls Try.prog 75 #[.int .u64 1, .int .u64 (y : Int)] w fun e w' => e = .returned (.tuple #[.int .u64 0, .int .u64 (y : Int)]) ∧ w' = w := by
  go_enter Try.func75, Try.ntmps75
  go_wp2_with (go_at_call 80; refine (bits_Mul64_small y hy _).mono ?_; rintro e w' ⟨rfl, rfl⟩)
  go_ret2
  exact ⟨rfl, rfl⟩
theorem rp_size : (Try.prog.info? 3).map (·.size) = some 1 := by kernel_rfl
theorem step_copy_at {P : Program} {ops : Array Oper} {o : Oper} {a : Act} {w : World} {K : Act → World → Prop} {Q : Exit → Act → World → Prop} {E : Prop} (hg : o.guard = none) (d s : Operand) (t t' : TypeId)
    (ho : o.op = .call { callee := .builtin .copy, args := #[d, s], argTypes := #[t, t'] }) (v u : Value) (hd : a.eval d = v) (hs : a.eval s = u) {v' : Value} {w' : World}
    (hr : (Builtin.copy_ #[t, t'] o.type #[v, u]).run P w = .ok v' w') (h : K (a.put o.dst v') w') : if Region.wanted o (yielded ops a.tmps) = true then Oper.wp P o a w K Q else E := by
  have hw : Region.wanted o (yielded ops a.tmps) = true := by simp [Region.wanted, hg]
  rw [if_pos hw]
  unfold Oper.wp execOp
  simp only [ho, resolve, invoke, builtin, Sem.run_bind, Sem.run_pure, Result.andThen_ok, List.map_toArray, List.map_cons, List.map_nil, hd, hs, hr]
  exact h
def slices_Repeat_int_int.f (l0 : List Int) (a1 : Int) : Option (List Int) := if l0.length = 1 ∧ 0 ≤ a1 ∧ a1 ≤ 1000000 then some (List.replicate a1.toNat (rd l0 0)) else none
set_option maxRecDepth 100000 in
/-- The first cells once more, behind themselves. -/
theorem copy_on {W : World} {g n N cap m : Nat} {xs : List Int} {e base : Nat} {ok : Nat → Prop} (t ty : TypeId) (hu : Try.prog.underlying t = some (.slice e)) (hi : (Try.prog.info? e).map (·.size) = some 1)
    (hR : Kd.R (Kd.int .i64) e W base ok (.slice (some ⟨g, 0, none⟩) N cap) xs) (hN : xs.length = N) (hm : m = min n (N - n)) (hn : n ≤ N) (dc sc : Nat) :
    ∃ w1, (Builtin.copy_ #[t, t] ty #[.slice (some ⟨g, n, none⟩) (N - n) dc, .slice (some ⟨g, 0, none⟩) n sc]).run Try.prog W = .ok (.int .i64 (m : Int)) w1 ∧
      Kd.R (Kd.int .i64) e w1 base ok (.slice (some ⟨g, 0, none⟩) N cap) (xs.take n ++ xs.take m ++ xs.drop (n + m)) ∧ W.grownBy w1 (some g) := by
  have hown := Kd.own_of_R hR
  rw [hN] at hown
  rcases Nat.eq_zero_or_pos m with h0 | hp
  · subst h0
    refine ⟨W, ?_, ?_, World.grownBy.refl W _⟩
    · exact run_copy_none W t t ty e _ _ _ _ _ _ hu hi hm.symm
    · simpa using hR
  · rcases hown.2 with ⟨_, hx0⟩ | ⟨g', cap', cur, hv, hb, hh, hnc, hcm, hcs, htake⟩
    · omega
    cases hv
    rw [Nat.mul_one] at htake
    have hcs1 : cur.size = cap := by omega
    have hkl : (encs (Value.int .i64) (xs.take m)).length = m := by rw [encs_length, List.length_take]; omega
    have hcell : ∀ j, j < N → W.cell? ⟨g, j, none⟩ = some (.int .i64 (xs.getD j 0)) := by
      intro j hj
      rw [cell_of_row W g _ cur e (0, 0) hh]
      have h1 : (cur.toList.take N)[j]? = (encs (Value.int .i64) xs)[j]? := by rw [htake]
      rw [List.getElem?_take_of_lt hj, encs_get (d := 0) xs j (by omega)] at h1
      simpa using h1
    have hsrc : ∀ j u, (encs (Value.int .i64) (xs.take m))[j]? = some u → W.cell? ((⟨g, 0, none⟩ : Addr).add j) = some u := by
      intro j u hu
      have hj : j < (xs.take m).length := by
        rcases Nat.lt_or_ge j (xs.take m).length with h | h
        · exact h
        · rw [List.getElem?_eq_none (by rw [encs_length]; exact h)] at hu
          cases hu
      have hjm : j < m := by rw [List.length_take] at hj; omega
      rw [encs_get (d := 0) _ j hj] at hu
      rw [add_plain, hcell j (by omega), ← hu]
      simp [List.getD_eq_getElem?_getD, hjm]
    have hr := run_copy_cells (P := Try.prog) W t t ty e g n (N - n) dc ⟨g, 0, none⟩ n sc (encs (Value.int .i64) (xs.take m)) hu hi (by rw [hkl]; exact hm) hsrc
      (fun j hj => by rw [cell_of_row W g _ cur e (0, 0) hh]; simp; omega) (fun j _ => blk_frozen hh _) (by intro u hu; simp only [encs, List.mem_map] at hu; obtain ⟨q, _, rfl⟩ := hu; rfl)
    obtain ⟨cur', h3, h4, h5⟩ := setCells_row (encs (Value.int .i64) (xs.take m)) n W cur hh (by rw [hkl]; omega)
    obtain ⟨s1, s2, s3, s4⟩ := setCells_same g (encs (Value.int .i64) (xs.take m)) n W
    refine ⟨_, by rw [hr, hkl]; rfl, Kd.R_of_own (enc := Value.int .i64) (h1 := fun _ => rfl) ?_ hR.1, ⟨s1, s2, s3, by rw [s4]; exact Nat.le_refl _, fun k _ hk => setCells_far _ _ k (fun he => hk (by rw [he]))⟩⟩
    have hln : (xs.take n ++ xs.take m ++ xs.drop (n + m)).length = N := by
      rw [List.length_append, List.length_append, List.length_take, List.length_take, List.length_drop]
      omega
    rw [hln]
    refine ⟨by rw [encs_length, hln, Nat.mul_one], .inr ⟨g, cap, cur', rfl, hb, h3, hnc, hcm, by rw [h4, hcs], ?_⟩⟩
    rw [h5, hkl, Nat.mul_one, encs_append, encs_append, ← hN]
    have htk : cur.toList.take N = encs (Value.int .i64) xs := htake
    have e1 : cur.toList.take n = encs (Value.int .i64) (xs.take n) := by
      have : (cur.toList.take N).take n = (encs (Value.int .i64) xs).take n := by rw [htk]
      rw [List.take_take, Nat.min_eq_left hn] at this
      rw [this]; simp [encs, List.map_take]
    have e2 : (cur.toList.drop (n + m)).take (N - (n + m)) = encs (Value.int .i64) (xs.drop (n + m)) := by
      rw [← List.drop_take, htk]; simp [encs, List.map_drop]
    rw [e1, hN, List.take_append, List.take_of_length_le (by rw [List.length_append, hkl, encs_length, List.length_take]; omega)]
    congr 1
    rw [← e2]
    congr 1
    rw [List.length_append, hkl, encs_length, List.length_take]
    omega
set_option maxHeartbeats 4000000 in
set_option maxRecDepth 100000 in
theorem slices_Repeat_int_int.calls (A0 : Option Addr) (c0 : Nat) (l0 : List Int) (a1 : Int) (r : List Int) (w : World) (hr0 : Kd.C (Kd.int .i64) w A0 l0.length l0) (hc0 : l0.length ≤ c0) (h : slices_Repeat_int_int.f l0 a1 = some r) :
    Calls Try.prog 68 #[.slice A0 l0.length c0, .int .i64 a1] w fun e w' => ∃ v0_ : Value, e = .returned (v0_) ∧ Kd.R (Kd.int .i64) 3 w' w.heap.size (fun _ => True) v0_ r ∧ Below w.heap.size w w' := by
  unfold slices_Repeat_int_int.f at h
  split at h
  · rename_i hx
    obtain ⟨hl1, hp, hq⟩ := hx
    obtain rfl := Option.some.inj h
    clear h
    obtain ⟨x, rfl⟩ := List.length_eq_one_iff.1 hl1
    clear hl1
    obtain ⟨N, rfl⟩ : ∃ N : Nat, a1 = N := ⟨a1.toNat, by omega⟩
    have hmul := bits_Mul_small N (by omega)
    have HR0 := Aside0.mk hr0
    have HC0 := Aside0.mk hc0
    have HB := Aside0.mk (Below.refl w.heap.size w)
    have hN : N ≤ 1000000 := by omega
    clear hp hq hr0 hc0
    simp only [List.length_singleton, Int.toNat_natCast, show rd [x] 0 = x from rfl]
    go_enter Try.func68, Try.ntmps68
    go_wp2_with (first | (go_at_call 75; refine (hmul _).mono ?_; rintro e w' ⟨rfl, hw⟩; rw [hw]; clear hw) | ((with_reducible refine gate_dst (N := 30) rfl ?_); refine Kd.R_make (Kd.int .i64) _ 3 rfl (N := 30) rfl 24 _ _ rfl (N : Int) rfl rfl Try.underlying24 (.int .i64 0) 8 gv_info3 rfl (by decide) (by omega) 0 (ok := fun _ => True) (okp := fun _ => True) rfl (fun _ hk => hk) trivial (Int.natCast_nonneg _) (by rw [Int.toNat_natCast]; omega) (Below.refl _ _) (Nat.le_refl _) ?_; intro v7 w8 ho9 hb hg_ hnew_; clear hg_ hnew_; rw [Int.toNat_natCast] at ho9; have n0_ := Aside0.mk ho9; have n1_ := Aside0.mk (below_step HB.out hb); clear HB; have HO7 := n0_; have HB := n1_; clear n0_ n1_ hb ho9; obtain ⟨Ao, co, eo⟩ := Kd.R_slice HO7.out; rw [List.length_replicate] at eo; subst eo) | ((with_reducible refine gate_builtin (b := .copy) (xs := #[.tmp 31, .tmp 32]) rfl ?_); refine Kd.R_copy (enc := Value.int .i64) (h1 := fun _ => rfl) 0 (w0 := w) w.heap.size rfl (.tmp 31) (.tmp 32) 24 24 3 rfl Try.underlying24 rp_size _ _ [x] A0 1 c0 (fun _ => True) rfl rfl HO7.out ?sideC HB.out (below_size HB.out) ?_; (case sideC => exact Kd.C_below HR0.out HB.out); intro w9 hrow hb hg; have n0_ := Aside0.mk hrow; have n1_ := Aside0.mk hb; clear HB HO7 hrow hb hg; have HO7 := n0_; have HB := n1_; clear n0_ n1_))
    have HT : Aside0 (Kd.R (Kd.int .i64) 3 w9 w.heap.size (fun _ => True) (.slice Ao N co) ((List.replicate N x).take (min 1 N) ++ (List.replicate N 0).drop (min 1 N))) := by
      have := HO7.out
      rw [List.length_replicate] at this
      have e : ([x] : List Int).take (min 1 N) = (List.replicate N x).take (min 1 N) := by
        cases N with
        | zero => simp
        | succ N => simp [show min 1 (N + 1) = 1 by omega, List.replicate_succ]
      rw [e] at this
      exact ⟨this⟩
    clear HO7
    have hlo : N ≤ 1000000 := hN
    go_loopg [8] N (fun kq v8 w' => ∃ (n : Nat) (xs : List Int), v8 = .int .i64 (n : Int) ∧ n ≤ N ∧ N - n ≤ kq ∧ (0 < N → 0 < n) ∧ Aside0 (xs.length = N) ∧ Aside0 (xs.take n = List.replicate n x) ∧ Aside0 (Kd.R (Kd.int .i64) 3 w' w.heap.size (fun _ => True) (.slice Ao N co) xs) ∧ Aside0 (Below w.heap.size w w'))
    case atStart => exact ⟨min 1 N, _, rfl, by omega, by omega, by omega, ⟨by simp; omega⟩, ⟨by rw [List.take_append, List.take_take, List.length_take, List.length_replicate, Nat.min_self, Nat.min_eq_left (Nat.min_le_right 1 N), Nat.sub_self, List.take_zero, List.append_nil, List.take_replicate, Nat.min_eq_left (Nat.min_le_right 1 N)]⟩, HT, HB⟩
    case round =>
      clear HT HB
      obtain ⟨n, xs, rfl, hn, hg, hpos, HL, HTk, HO, HB⟩ := hrel
      by_cases hlt : n < N
      · have hn0 : 0 < n := hpos (by omega)
        obtain ⟨go, cap, eo, gb, gl, cl, hcl⟩ := Kd.R_form HO.out (by rw [HL.out]; omega)
        injection eo with e1 e2 e3
        subst e1
        subst e3
        clear e2
        have hltz : (n : Int) < (N : Int) := by omega
        obtain ⟨m, hm⟩ : ∃ m, m = min n (N - n) := ⟨_, rfl⟩
        have hm1 : 0 < m ∧ n + m ≤ N := by omega
        have HM := Aside0.mk hm
        have hco : N ≤ co := by have := (Kd.R_reads' HO.out).2.1; omega
        have hne : ¬ co = n := by omega
        have hnc : n ≤ co := by omega
        obtain ⟨w9, hr, hrow, hgr⟩ := copy_on (m := m) 24 3 Try.underlying24 rp_size (Kd.R_drew HO.out) HL.out hm hn (co - n) co
        have HR9 := Aside0.mk hr
        have HO9 := Aside0.mk hrow
        have HB9 := Aside0.mk (pw_below_grown (below_drew1 HB.out) _ (below_size (below_drew1 HB.out)) hgr (fun k e => by cases e; exact gb))
        clear hm hr hrow hgr HO HB
        go_wp2
        go_region_law (refine step_copy_at rfl (.tmp 41) (.tmp 44) 24 24 rfl _ _ (by simp [Act.eval, Act.put]) (by simp [Act.eval, Act.put]) HR9.out ?_)
        go_wp2
        have hw : IntKind.i64.wrap ((n : Int) + (m : Int)) = ((n + m : Nat) : Int) := by rw [IntKind.wrap_i64]; omega
        go_roundg (N - (n + m))
        case measure => omega
        case rel =>
          refine ⟨n + m, _, by first | exact congrArg _ hw | (rw [hw]) | (simp [hw]), by omega, by omega, by omega, ⟨?_⟩, ⟨?_⟩, HO9, HB9⟩
          · have := HL.out
            simp only [List.length_append, List.length_take, List.length_drop]; omega
          · have e1 : xs.take m = List.replicate m x := by
              have := congrArg (List.take m) HTk.out
              rw [List.take_take, Nat.min_eq_left (by have := HM.out; omega), List.take_replicate, Nat.min_eq_left (by have := HM.out; omega)] at this
              exact this
            rw [HTk.out, e1, List.replicate_append_replicate, List.take_append, List.take_of_length_le (by simp)]
            simp
      · have : n = N := by omega
        have hltz : ¬ (n : Int) < (N : Int) := by omega
        have HE := Aside0.mk this
        clear this hlt
        go_wp2
        go_ret
        refine ⟨_, rfl, ?_, HB.out⟩
        have e : xs = List.replicate N x := by rw [← HE.out, ← HTk.out, HE.out, List.take_of_length_le (by rw [HL.out]; exact Nat.le_refl _)]
        rw [← e]
        exact HO.out
  · cases h
end Go.Proofs.Ytjhpnihlmnlehaa.G
namespace Go.Proofs.Ytjhpnihlmnlehaa.G
open Go.RowKit Go.Proofs.YtjhpnihlmnlehaaW.PrintWords Go.Proofs.YtjhpnihlmnlehaaW.PrintLast Go.Proofs.YtjhpnihlmnlehaaW.PrintMore
attribute [local go_sem] max2_int min2_int max_two min_two max_three min_three max_four min_four   -- for this text's walks alone
/-! ### impl_FirstInsertion: function 16 -/
def impl_FirstInsertion.f (k : Nat) (l0_0 : List Int) : Option (List Int × Bool) := (impl_isTable.f k l0_0).bind fun t421 => (if t421 = true then ((impl_Table_first.f l0_0).bind fun t422 => (some (t422, true))) else (some (([] : List Int), false)))
theorem impl_FirstInsertion.mono : ∀ a0 k, LeO (impl_FirstInsertion.f k a0) (impl_FirstInsertion.f (k + 1) a0) := by
 intro a0 k
 unfold impl_FirstInsertion.f
 repeat' first
   | (with_reducible exact impl_isTable.mono _ _)
   | (with_reducible exact LeO.refl _)
   | (with_reducible exact LeO.none _)
   | (with_reducible refine LeO.ite ?_ ?_)
   | (with_reducible refine LeO.bind ?_ (fun _ => ?_))
   | exact impl_isTable.mono _ _
   | exact LeO.none _
   | refine LeO.ite ?_ ?_
   | refine LeO.bind ?_ (fun _ => ?_)
set_option maxHeartbeats 8000000 in
set_option maxRecDepth 100000 in
theorem impl_FirstInsertion.calls (k : Nat) (A0_0 : Option Addr) (c0_0 : Nat) (l0_0 : List Int) (r1 : List Int) (r2 : Bool) (w : World) (hr0_0 : Kd.C (Kd.int .i64) w A0_0 l0_0.length l0_0) (hc0_0 : l0_0.length ≤ c0_0) (h : impl_FirstInsertion.f k l0_0 = some (r1, r2)) :
  Calls Try.prog 16 #[.agg #[.slice A0_0 l0_0.length c0_0]] w fun e w' => ∃ v0_ : Value, e = .returned (.tuple #[v0_, .bool r2]) ∧ Kd.R (Kd.int .i64) 3 w' w.heap.size (fun _ => True) v0_ r1 ∧ Below w.heap.size w w' := by
 have hu26 := Try.underlying26
 have HR0_0 := aS_ hr0_0
 have HC0_0 := aS_ hc0_0
 clear hr0_0 hc0_0
 have HB := aS_ (Below.refl w.heap.size w)
 have H : ((impl_isTable.f k l0_0).bind fun t421 => (if t421 = true then ((impl_Table_first.f l0_0).bind fun t422 => (some (t422, true))) else (some (([] : List Int), false)))) = some (r1, r2) := h
 clear h
 replace H := Option.bind_eq_some_iff.mp H
 obtain ⟨t421, A20, H⟩ := H
 have A2 := aS_ A20
 clear A20
 by_cases c3 : t421 = true
 ·subst c3
  rw [if_pos rfl] at H
  replace H := Option.bind_eq_some_iff.mp H
  obtain ⟨t422, A40, H⟩ := H
  have A4 := aS_ A40
  clear A40
  simp only [Option.some.injEq, Prod.mk.injEq] at H
  obtain ⟨rfl, rfl⟩ := H
  go_enter Try.func16, Try.ntmps16
  go_wp2_with (first | ((with_reducible refine gate_dst (N := 1) rfl ?_); refine box_event ?hg (N := 1) ?hd (cs := #[.slice A0_0 l0_0.length c0_0]) (t := 26) ?hr ?_; (case hd => rfl); (case hg => rfl); (case hr => first | (go_simp; done) | (go_simp; rfl)); intro gb420 hg w5 hbox hb; have BK420 := aS_ (hbox); have GW420 := gE_ HB hg; have GE420 := gE_ HB hg; replace HB := bE_ HB hb; clear hb hbox hg; have hcz6_0 : w5.cell? ⟨gb420, 0, none⟩ = some (.slice A0_0 l0_0.length c0_0) := (blk_cell BK420.out 0).trans rfl; have hfz6_0 := blk_frozen BK420.out 0) | ((with_reducible refine gate_callee (f := 25) rfl ?_); refine goesL_ (some 5) rfl rfl Try.func25 (by kernel_rfl) rfl #[.agg #[.slice A0_0 l0_0.length c0_0]] rfl aR_ ?_; (with_reducible refine (impl_isTable.calls k _ _ l0_0 true _ ?side1 ?side2 A2.out).mono ?_); (case side1 => exact cB_ HR0_0 HB); (case side2 => exact HC0_0.out); rintro e w7 ⟨rfl, hb⟩; refine ⟨_, rfl, ?_⟩; replace BK420 := kO_ BK420 hb; replace HB := bE_ HB hb; (try clear hb); have hcz8_0 : w7.cell? ⟨gb420, 0, none⟩ = some (.slice A0_0 l0_0.length c0_0) := (blk_cell BK420.out 0).trans rfl; have hfz8_0 := blk_frozen BK420.out 0) | ((with_reducible refine gate_callee (f := 45) rfl ?_); refine goesL_ (some 8) rfl rfl Try.func45 (by kernel_rfl) rfl #[.agg #[.slice A0_0 l0_0.length c0_0]] rfl aR_ ?_; (with_reducible refine (impl_Table_first.calls _ _ l0_0 t422 _ ?side1 ?side2 A4.out).mono ?_); (case side1 => exact cB_ HR0_0 HB); (case side2 => exact HC0_0.out); rintro e w9 ⟨v423, rfl, ho0, hb⟩; refine ⟨_, rfl, ?_⟩; have HO424 := aS_ (Kd.R_lower ho0 (below_size (bb_ HB))); replace BK420 := kO_ BK420 hb; replace HB := bE_ HB hb; (try clear hb); (try clear ho0)))
  go_ret2
  exact ⟨_, by first | rfl | (simp [errW_none, errW_some] <;> rfl) | (simp [*, errW_none, errW_some] <;> rfl), rr_ HO424, bb_ HB⟩
 ·replace c3 := Bool.eq_false_iff.mpr c3
  subst c3
  rw [if_neg (show ¬ (false = true) by decide)] at H
  simp only [Option.some.injEq, Prod.mk.injEq] at H
  obtain ⟨rfl, rfl⟩ := H
  go_enter Try.func16, Try.ntmps16
  go_wp2_with (first | ((with_reducible refine gate_dst (N := 1) rfl ?_); refine box_event ?hg (N := 1) ?hd (cs := #[.slice A0_0 l0_0.length c0_0]) (t := 26) ?hr ?_; (case hd => rfl); (case hg => rfl); (case hr => first | (go_simp; done) | (go_simp; rfl)); intro gb420 hg w10 hbox hb; have BK420 := aS_ (hbox); have GW420 := gE_ HB hg; have GE420 := gE_ HB hg; replace HB := bE_ HB hb; clear hb hbox hg; have hcz11_0 : w10.cell? ⟨gb420, 0, none⟩ = some (.slice A0_0 l0_0.length c0_0) := (blk_cell BK420.out 0).trans rfl; have hfz11_0 := blk_frozen BK420.out 0) | ((with_reducible refine gate_callee (f := 25) rfl ?_); refine goesL_ (some 5) rfl rfl Try.func25 (by kernel_rfl) rfl #[.agg #[.slice A0_0 l0_0.length c0_0]] rfl aR_ ?_; (with_reducible refine (impl_isTable.calls k _ _ l0_0 false _ ?side1 ?side2 A2.out).mono ?_); (case side1 => exact cB_ HR0_0 HB); (case side2 => exact HC0_0.out); rintro e w12 ⟨rfl, hb⟩; refine ⟨_, rfl, ?_⟩; replace BK420 := kO_ BK420 hb; replace HB := bE_ HB hb; (try clear hb)))
  go_ret2
  exact ⟨_, by first | rfl | (simp [errW_none, errW_some] <;> rfl) | (simp [*, errW_none, errW_some] <;> rfl), by first | exact Kd.R_nil _ _ _ _ _ | exact Kd.N_nil _ _ _ _ _ | exact Kd.V_nil _ _ _ _ _ | exact Kd.Q_nil _ _ _ _ _ | exact Kd.S_nil _ _ _ _ _, bb_ HB⟩
/-! ### impl_empty: function 47 -/
def impl_empty.f (a0 : Int) : Option (List Int) := (slices_Repeat_int_int.f (([(-1)] : List Int)) a0).bind fun t429 => (some t429)
set_option maxHeartbeats 8000000 in
set_option maxRecDepth 100000 in
theorem impl_empty.calls (a0 : Int) (r : List Int) (w : World) (h : impl_empty.f a0 = some r) :
  Calls Try.prog 47 #[.int .i64 a0] w fun e w' => ∃ v0_ : Value, e = .returned (.agg #[v0_]) ∧ Kd.R (Kd.int .i64) 3 w' w.heap.size (fun _ => True) v0_ r ∧ Below w.heap.size w w' := by
 have hu26 := Try.underlying26
 have HB := aS_ (Below.refl w.heap.size w)
 have H : ((slices_Repeat_int_int.f (([(-1)] : List Int)) a0).bind fun t429 => (some t429)) = some r := h
 clear h
 obtain ⟨y426, hy426⟩ : ∃ y_ : List Int, y_ = (([(-1)] : List Int)) := ⟨_, rfl⟩
 replace H : ((slices_Repeat_int_int.f y426 a0).bind fun t429 => (some t429)) = some r := by first | (rw [hy426]; with_reducible exact H) | (have H2_ := (Option.bind_some _ _).symm.trans H; rw [hy426]; with_reducible exact H2_) | (have H2_ := (Option.bind_some _ _).symm.trans H; with_reducible exact H2_) | with_reducible exact H | (rw [hy426]; exact H) | exact H
 have Ny426 := aS_ hy426
 clear hy426
 replace H := Option.bind_eq_some_iff.mp H
 obtain ⟨t429, A20, H⟩ := H
 have A2 := aS_ A20
 clear A20
 obtain rfl := Option.some.inj H
 go_enter Try.func47, Try.ntmps47
 go_wp2_with (first | ((with_reducible refine gate_dst (N := 2) rfl ?_); refine box_event ?hg (N := 2) ?hd (cs := #[.slice none 0 0]) (t := 26) ?hr ?_; (case hd => rfl); (case hg => rfl); (case hr => first | (go_simp; done) | (go_simp; rfl)); intro gb425 hg w3 hbox hb; have BK425 := aS_ (hbox); have GW425 := gE_ HB hg; have GE425 := gE_ HB hg; replace HB := bE_ HB hb; clear hb hbox hg) | ((with_reducible refine gate_dst (N := 3) rfl ?_); refine Kd.R_lit (Kd.int .i64) _ 3 ?hg (N := 3) ?hd (xs := ([(-1)] : List Int)) (inner := [.int .i64 (-1)]) (ok := fun _ => True) (okp := fun _ => True) ?hr ?hp (fun _ hk => hk) trivial (Below.refl _ _) (Nat.le_refl _) (by simp) ?_; (case hd => rfl); (case hg => rfl); (case hr => first | (go_simp; done) | (go_simp; rfl)); (case hp => exact (Reps.one (show Kd.M (Kd.int .i64) _ _ _ (-1) [.int .i64 (-1)] from rfl) (Reps.none _ _))); intro v427 w4 ho5 hb hg_ hnew_; clear hg_ hnew_; (first | rw [← Ny426.out] at ho5 | (simp only [Int.reduceToNat] at ho5; rw [← Ny426.out] at ho5)); have HO428 := aS_ (Kd.R_lower ho5 (below_size (bb_ HB))); replace BK425 := kO_ BK425 hb; replace HB := bE_ HB hb; clear hb ho5; obtain ⟨Ao6, co6, eo6⟩ := Kd.R_slice HO428.out; subst eo6) | ((with_reducible refine gate_callee (f := 68) rfl ?_); refine goesL_ (some 5) rfl rfl Try.func68 (by kernel_rfl) rfl #[.slice Ao6 y426.length co6, .int .i64 a0] rfl aR_ ?_; (with_reducible refine (slices_Repeat_int_int.calls _ _ y426 a0 t429 _ ?side1 ?side2 A2.out).mono ?_); (case side1 => exact cR_ HO428); (case side2 => exact (Kd.R_reads' HO428.out).2.1); rintro e w7 ⟨v430, rfl, ho0, hb⟩; refine ⟨_, rfl, ?_⟩; have HO431 := aS_ (Kd.R_lower (Kd.R_new' ho0 (Kd.R_lt (rr_ HO428))) (below_size (bb_ HB))); replace HO428 := aS_ (Kd.R_elder' (rr_ HO428) (Kd.R_base ho0) hb); replace BK425 := kO_ BK425 hb; replace HB := bE_ HB hb; (try clear hb); (try clear ho0); obtain ⟨Ao8, co8, eo8⟩ := Kd.R_slice HO431.out; subst eo8; have hcz9_0 : w7.cell? ⟨gb425, 0, none⟩ = some (.slice none 0 0) := (blk_cell BK425.out 0).trans rfl; have hfz9_0 := blk_frozen BK425.out 0))
 refine bodyPost_ret (results_cell_row rfl _ _ gb425 26 #[.slice Ao8 t429.length co8] (0, 0) _ rfl (by (with_reducible repeat (first | refine kN_ ?_ _ | refine kD_ ?_ | refine kA_ ?_ _)); refine blk_put (cs := #[.slice none 0 0]) ?_ 0 _ rfl; (with_reducible repeat (first | refine kN_ ?_ _ | refine kD_ ?_ | refine kA_ ?_ _)); exact BK425.out) Try.underlying26 rfl (by kernel_rfl)) rfl ?_
 exact ⟨_, by first | rfl | (simp [errW_none, errW_some] <;> rfl) | (simp [*, errW_none, errW_some] <;> rfl), by (with_reducible repeat (first | apply rA_ | apply rN_ | apply rD_)); exact Kd.R_mono (Kd.R_far (p := ⟨gb425, 0, none⟩) (Kd.R_types HO431.out BK425.out (by decide)) (fun _ hk => hk.2) (.slice Ao8 t429.length co8)) (fun _ hk => trivial), bb_ HB⟩
/-! ### impl_TableOf: function 17 -/
def impl_TableOf.l0 : Nat → List Int → Int → Int → List Int → Option (List Int × Bool)
 | 0, _, _, _, _ => none
 | k + 1, x16, x17, x18, x438000 => if x18 < x17 then (if 0 ≤ x18 then (if x18 < (x16.length : Int) then ((impl_Table_insert.f k x438000 (rd x16 x18)).bind fun bt439 => (impl_TableOf.l0 k x16 x17 (wrap64 (x18 + 1)) bt439.2)) else (none)) else (none)) else (some (x438000, true))
def impl_TableOf.f (k : Nat) (a0 : Int) (l1 : List Int) : Option (List Int × Bool) := (impl_areKeys.f l1 a0).bind fun t433 => (if t433 = true then ((impl_empty.f a0).bind fun t434 => (impl_TableOf.l0 k l1 (l1.length : Int) 0 t434)) else (some (([] : List Int), false)))
theorem impl_TableOf.mono_l : ∀ k, (∀ y0 y1 y2 y3, LeO (impl_TableOf.l0 k y0 y1 y2 y3) (impl_TableOf.l0 (k + 1) y0 y1 y2 y3))
 | 0 => fun _ _ _ _ r h => by simp [impl_TableOf.l0] at h
 | k + 1 => by
  have ih0 := impl_TableOf.mono_l k
  ·intro y0 y1 y2 y3
   unfold impl_TableOf.l0
   repeat' first
   | (with_reducible exact ih0 _ _ _ _)
   | (with_reducible exact impl_Table_insert.mono _ _ _)
   | (with_reducible exact LeO.refl _)
   | (with_reducible exact LeO.none _)
   | (with_reducible refine LeO.ite ?_ ?_)
   | (with_reducible refine LeO.bind ?_ (fun _ => ?_))
   | exact ih0 _ _ _ _
   | exact impl_Table_insert.mono _ _ _
   | exact LeO.none _
   | refine LeO.ite ?_ ?_
   | refine LeO.bind ?_ (fun _ => ?_)
theorem impl_TableOf.mono : ∀ a0 a1 k, LeO (impl_TableOf.f k a0 a1) (impl_TableOf.f (k + 1) a0 a1) := by
 intro a0 a1 k
 have ih0 := impl_TableOf.mono_l k
 unfold impl_TableOf.f
 repeat' first
   | (with_reducible exact ih0 _ _ _ _)
   | (with_reducible exact impl_Table_insert.mono _ _ _)
   | (with_reducible exact LeO.refl _)
   | (with_reducible exact LeO.none _)
   | (with_reducible refine LeO.ite ?_ ?_)
   | (with_reducible refine LeO.bind ?_ (fun _ => ?_))
   | exact ih0 _ _ _ _
   | exact impl_Table_insert.mono _ _ _
   | exact LeO.none _
   | refine LeO.ite ?_ ?_
   | refine LeO.bind ?_ (fun _ => ?_)
set_option maxHeartbeats 8000000 in
set_option maxRecDepth 100000 in
theorem impl_TableOf.calls (k : Nat) (a0 : Int) (A1 : Option Addr) (c1 : Nat) (l1 : List Int) (r1 : List Int) (r2 : Bool) (w : World) (hr1 : Kd.C (Kd.int .i64) w A1 l1.length l1) (hc1 : l1.length ≤ c1) (h : impl_TableOf.f k a0 l1 = some (r1, r2)) :
  Calls Try.prog 17 #[.int .i64 a0, .slice A1 l1.length c1] w fun e w' => ∃ v0_ : Value, e = .returned (.tuple #[.agg #[v0_], .bool r2]) ∧ Kd.R (Kd.int .i64) 3 w' w.heap.size (fun _ => True) v0_ r1 ∧ Below w.heap.size w w' := by
 have hu26 := Try.underlying26
 have HR1 := aS_ hr1
 have HC1 := aS_ hc1
 clear hr1 hc1
 have HB := aS_ (Below.refl w.heap.size w)
 have H : ((impl_areKeys.f l1 a0).bind fun t433 => (if t433 = true then ((impl_empty.f a0).bind fun t434 => (impl_TableOf.l0 k l1 (l1.length : Int) 0 t434)) else (some (([] : List Int), false)))) = some (r1, r2) := h
 clear h
 replace H := Option.bind_eq_some_iff.mp H
 obtain ⟨t433, A30, H⟩ := H
 have A3 := aS_ A30
 clear A30
 by_cases c4 : t433 = true
 ·subst c4
  rw [if_pos rfl] at H
  replace H := Option.bind_eq_some_iff.mp H
  obtain ⟨t434, A50, H⟩ := H
  have A5 := aS_ A50
  clear A50
  have H' := aS_ H
  clear H
  go_enter Try.func17, Try.ntmps17
  go_wp2_with (first | ((with_reducible refine gate_dst (N := 4) rfl ?_); refine box_event ?hg (N := 4) ?hd (cs := #[.slice none 0 0]) (t := 26) ?hr ?_; (case hd => rfl); (case hg => rfl); (case hr => first | (go_simp; done) | (go_simp; rfl)); intro gb432 hg w6 hbox hb; have BK432 := aS_ (hbox); have GW432 := gE_ HB hg; have GE432 := gE_ HB hg; replace HB := bE_ HB hb; clear hb hbox hg) | ((with_reducible refine gate_callee (f := 46) rfl ?_); refine goesL_ (some 11) rfl rfl Try.func46 (by kernel_rfl) rfl #[.slice A1 l1.length c1, .int .i64 a0] rfl aR_ ?_; (with_reducible refine (impl_areKeys.calls _ _ l1 a0 true _ ?side1 ?side2 A3.out).mono ?_); (case side1 => exact cB_ HR1 HB); (case side2 => exact HC1.out); rintro e w7 ⟨rfl, hb⟩; refine ⟨_, rfl, ?_⟩; replace BK432 := kO_ BK432 hb; replace HB := bE_ HB hb; (try clear hb)) | ((with_reducible refine gate_callee (f := 47) rfl ?_); refine goesL_ (some 15) rfl rfl Try.func47 (by kernel_rfl) rfl #[.int .i64 a0] rfl aR_ ?_; (with_reducible refine (impl_empty.calls a0 t434 _ A5.out).mono ?_); rintro e w8 ⟨v435, rfl, ho0, hb⟩; refine ⟨_, rfl, ?_⟩; have HO436 := aS_ (Kd.R_lower ho0 (below_size (bb_ HB))); replace BK432 := kO_ BK432 hb; replace HB := bE_ HB hb; (try clear hb); (try clear ho0)) | ((with_reducible refine gate_dst (N := 6) rfl ?_); refine box_event ?hg (N := 6) ?hd (cs := #[.slice none 0 0]) (t := 26) ?hr ?_; (case hd => rfl); (case hg => rfl); (case hr => first | (go_simp; done) | (go_simp; rfl)); intro gb437 hg w9 hbox hb; replace HO436 := aS_ (Kd.R_below (rr_ HO436) hb); have BK437 := aS_ (hbox); have GW437 := gE_ HB hg; have GE437 := gE_ HB hg; replace HB := bE_ HB hb; have NB432_437 := nL_ BK432 hg; have NB437_432 := nG_ BK432 hg; replace BK432 := kO_ BK432 hb; clear hb hbox hg; obtain ⟨Ao10, co10, eo10⟩ := Kd.R_slice HO436.out; subst eo10; have hnb11 := NB437_432.out; have hnc11 := NB432_437.out; have hcz12_0 : w9.cell? ⟨gb437, 0, none⟩ = some (.slice none 0 0) := (blk_cell BK437.out 0).trans rfl; have hfz12_0 := blk_frozen BK437.out 0))
  go_loopg [18] k (fun kq v18 w' => ∃ (x18_1 : Int) (x438000_1 : List Int) (u438000 : Value), v18 = .int .i64 x18_1 ∧ Aside0 (impl_TableOf.l0 kq l1 (l1.length : Int) x18_1 x438000_1 = some (r1, r2)) ∧ Aside0 (kq ≤ k) ∧ Aside0 (Kd.R (Kd.int .i64) 3 w' w.heap.size (fun _ => True) u438000 x438000_1) ∧ Aside0 (w'.heap[gb432]? = some (.cells #[(.slice none 0 0)] 26 (0, 0))) ∧ Aside0 (w'.heap[gb437]? = some (.cells #[u438000] 26 (0, 0))) ∧ Aside0 (Below w.heap.size w w'))
  case atStart => exact ⟨(0), (t434), (.slice Ao10 t434.length co10), sR_, H', ⟨Nat.le_refl _⟩, ⟨by (with_reducible repeat (first | apply rA_ | apply rN_ | apply rD_)); exact Kd.R_mono (Kd.R_far (p := ⟨gb437, 0, none⟩) (Kd.R_types HO436.out BK437.out (by decide)) (fun _ hk => hk.2) (.slice Ao10 t434.length co10)) (fun _ hk => trivial)⟩, ⟨by (with_reducible repeat (first | refine kN_ ?_ _ | refine kD_ ?_ | refine kA_ ?_ _)); refine blk_far ?_ NB432_437.out _; (with_reducible repeat (first | refine kN_ ?_ _ | refine kD_ ?_ | refine kA_ ?_ _)); exact BK432.out⟩, ⟨by (with_reducible repeat (first | refine kN_ ?_ _ | refine kD_ ?_ | refine kA_ ?_ _)); refine blk_put (cs := #[.slice none 0 0]) ?_ 0 _ rfl; (with_reducible repeat (first | refine kN_ ?_ _ | refine kD_ ?_ | refine kA_ ?_ _)); exact BK437.out⟩, ⟨bb_ HB⟩⟩
  case round =>
   clear H'
   try clear c1
   try clear p2
   try clear c4
   try clear c11
   try clear hcz12_0
   try clear hfz12_0
   obtain ⟨x18_1, x438000_1, u438000, rfl, HA, HK1, HO_438000, BK432, BK437, HB⟩ := hrel
   cases gk with
   | zero => exact absurd HA.out (by simp [impl_TableOf.l0])
   | succ k1 =>
    have H := HA.out
    clear HA
    simp only [impl_TableOf.l0] at H
    by_cases c13 : x18_1 < (l1.length : Int)
    ·rw [if_pos c13] at H
     have c13b0 : decide (x18_1 < (l1.length : Int)) = true := decide_eq_true c13
     clear c13
     by_cases c14 : 0 ≤ x18_1
     ·rw [if_pos c14] at H
      have c14b0 : decide (0 ≤ x18_1) = true := decide_eq_true c14
      clear c14
      by_cases c15 : x18_1 < (l1.length : Int)
      ·rw [if_pos c15] at H
       have c15b0 : decide (x18_1 < (l1.length : Int)) = true := decide_eq_true c15
       clear c15
       replace H := Option.bind_eq_some_iff.mp H
       obtain ⟨⟨t439, t440⟩, A160, H⟩ := H
       have A16 := aS_ A160
       clear A160
       have H' := aS_ H
       clear H
       have p438 : 0 ≤ (x18_1 : Int) := of_decide_eq_true (by assumption)
       have q438 : x18_1 < (l1.length : Int) := of_decide_eq_true (by assumption)
       obtain ⟨ad438, e438, hx438_0⟩ := Kd.at_int HR1.out x18_1 p438 q438
       cases e438
       replace hx438_0 := (HB.out.cell (World.block_lt_of_cell? w _ hx438_0)).trans hx438_0
       replace p438 := eq_true p438
       replace q438 := eq_true q438
       have hnb17 := NB437_432.out
       have hnc17 := NB432_437.out
       have hcz18_0 : wr.cell? ⟨gb437, 0, none⟩ = some (u438000) := (blk_cell BK437.out 0).trans rfl
       have hfz18_0 := blk_frozen BK437.out 0
       obtain ⟨Ao19, co19, eo19⟩ := Kd.R_slice HO_438000.out
       subst eo19
       go_wp2_with (first | ((with_reducible refine gate_callee (f := 30) rfl ?_); refine goesL_ (some 24) rfl rfl Try.func30 (by kernel_rfl) rfl #[.agg #[.slice Ao19 x438000_1.length co19], .int .i64 (rd l1 x18_1)] rfl aR_ ?_; (with_reducible refine (impl_Table_insert.calls k1 (fun k_ => some k_ = (.slice Ao19 x438000_1.length co19 : Value).ownBlock) (.slice Ao19 x438000_1.length co19) x438000_1 (rd l1 x18_1) t439 t440 w _ ?side1 ?side2 A16.out).mono ?_); (case side1 => repeat (first | (with_reducible first | exact HB.out | apply bA_ | apply pN_ | apply bD_ | refine bS_ ?_ GE432.out | refine bS_ ?_ GE437.out) | exact HB.out)); (case side2 => exact Kd.R_tight rfl HO_438000.out); rintro e w20 ⟨rfl, hy0, hb, hkp⟩; refine ⟨_, rfl, ?_⟩; replace BK432 := aS_ (blk_kept (kk_ BK432) hkp (fun hs_ => (fun e_ => (Kd.R_ne HO_438000.out BK432.out (by decide)) e_) hs_)); replace BK437 := aS_ (blk_kept (kk_ BK437) hkp (fun hs_ => (fun e_ => (Kd.R_ne HO_438000.out BK437.out (by decide)) e_) hs_)); replace HO_438000 := aS_ (Kd.R_reok rfl hy0 (fun k_ e_ => HO_438000.out.1 k_ e_)); replace HB := aS_ (hb); (try clear hb); (try clear hkp); (try clear hy0)))
       go_roundg k1
       case measure => have := HK1.out; omega
       case rel => exact ⟨(wrap64 (x18_1 + 1)), (t440), (.slice Ao19 x438000_1.length co19), sR_, H', ⟨by have := HK1.out; omega⟩, ⟨rr_ HO_438000⟩, ⟨kk_ BK432⟩, ⟨kk_ BK437⟩, ⟨bb_ HB⟩⟩
      ·rw [if_neg c15] at H
       exact absurd H (by simp)
     ·rw [if_neg c14] at H
      exact absurd H (by simp)
    ·rw [if_neg c13] at H
     have c13b0 : decide (x18_1 < (l1.length : Int)) = false := decide_eq_false c13
     clear c13
     simp only [Option.some.injEq, Prod.mk.injEq] at H
     obtain ⟨rfl, rfl⟩ := H
     have hnb21 := NB437_432.out
     have hnc21 := NB432_437.out
     have hcz22_0 : wr.cell? ⟨gb437, 0, none⟩ = some (u438000) := (blk_cell BK437.out 0).trans rfl
     have hfz22_0 := blk_frozen BK437.out 0
     obtain ⟨Ao23, co23, eo23⟩ := Kd.R_slice HO_438000.out
     subst eo23
     have hcz24_0 : wr.cell? ⟨gb432, 0, none⟩ = some (.slice none 0 0) := (blk_cell BK432.out 0).trans rfl
     have hfz24_0 := blk_frozen BK432.out 0
     go_wp2
     refine bodyPost_ret (results_ct rfl _ _ gb432 26 #[.slice Ao23 x438000_1.length co23] (0, 0) _ rfl (by (with_reducible repeat (first | refine kN_ ?_ _ | refine kD_ ?_ | refine kA_ ?_ _)); refine blk_put (cs := #[.slice none 0 0]) ?_ 0 _ rfl; (with_reducible repeat (first | refine kN_ ?_ _ | refine kD_ ?_ | refine kA_ ?_ _)); exact BK432.out) Try.underlying26 rfl (by kernel_rfl)) rfl ?_
     exact ⟨_, by first | rfl | (simp [errW_none, errW_some] <;> rfl) | (simp [*, errW_none, errW_some] <;> rfl), by (with_reducible repeat (first | apply rA_ | apply rN_ | apply rD_)); exact Kd.R_mono (Kd.R_far (p := ⟨gb432, 0, none⟩) (Kd.R_types HO_438000.out BK432.out (by decide)) (fun _ hk => hk.2) (.slice Ao23 x438000_1.length co23)) (fun _ hk => trivial), bb_ HB⟩
 ·replace c4 := Bool.eq_false_iff.mpr c4
  subst c4
  rw [if_neg (show ¬ (false = true) by decide)] at H
  simp only [Option.some.injEq, Prod.mk.injEq] at H
  obtain ⟨rfl, rfl⟩ := H
  go_enter Try.func17, Try.ntmps17
  go_wp2_with (first | ((with_reducible refine gate_dst (N := 4) rfl ?_); refine box_event ?hg (N := 4) ?hd (cs := #[.slice none 0 0]) (t := 26) ?hr ?_; (case hd => rfl); (case hg => rfl); (case hr => first | (go_simp; done) | (go_simp; rfl)); intro gb432 hg w25 hbox hb; have BK432 := aS_ (hbox); have GW432 := gE_ HB hg; have GE432 := gE_ HB hg; replace HB := bE_ HB hb; clear hb hbox hg) | ((with_reducible refine gate_callee (f := 46) rfl ?_); refine goesL_ (some 11) rfl rfl Try.func46 (by kernel_rfl) rfl #[.slice A1 l1.length c1, .int .i64 a0] rfl aR_ ?_; (with_reducible refine (impl_areKeys.calls _ _ l1 a0 false _ ?side1 ?side2 A3.out).mono ?_); (case side1 => exact cB_ HR1 HB); (case side2 => exact HC1.out); rintro e w26 ⟨rfl, hb⟩; refine ⟨_, rfl, ?_⟩; replace BK432 := kO_ BK432 hb; replace HB := bE_ HB hb; (try clear hb); have hcz27_0 : w26.cell? ⟨gb432, 0, none⟩ = some (.slice none 0 0) := (blk_cell BK432.out 0).trans rfl; have hfz27_0 := blk_frozen BK432.out 0))
  refine bodyPost_ret (results_ct rfl _ _ gb432 26 #[.slice none 0 0] (0, 0) _ rfl (by (with_reducible repeat (first | refine kN_ ?_ _ | refine kD_ ?_ | refine kA_ ?_ _)); refine blk_put (cs := #[.slice none 0 0]) ?_ 0 _ rfl; (with_reducible repeat (first | refine kN_ ?_ _ | refine kD_ ?_ | refine kA_ ?_ _)); exact BK432.out) Try.underlying26 rfl (by kernel_rfl)) rfl ?_
  exact ⟨_, by first | rfl | (simp [errW_none, errW_some] <;> rfl) | (simp [*, errW_none, errW_some] <;> rfl), by first | exact Kd.R_nil _ _ _ _ _ | exact Kd.N_nil _ _ _ _ _ | exact Kd.V_nil _ _ _ _ _ | exact Kd.Q_nil _ _ _ _ _ | exact Kd.S_nil _ _ _ _ _, bb_ HB⟩
/-! ### impl_KeysOf: function 18 -/
def impl_KeysOf.f (k : Nat) (l0_0 : List Int) : Option (List Int × Bool) := (impl_isTable.f k l0_0).bind fun t442 => (if t442 = true then ((impl_Table_keys.f l0_0).bind fun t443 => (some (t443, true))) else (some (([] : List Int), false)))
theorem impl_KeysOf.mono : ∀ a0 k, LeO (impl_KeysOf.f k a0) (impl_KeysOf.f (k + 1) a0) := by
 intro a0 k
 unfold impl_KeysOf.f
 repeat' first
   | (with_reducible exact impl_isTable.mono _ _)
   | (with_reducible exact LeO.refl _)
   | (with_reducible exact LeO.none _)
   | (with_reducible refine LeO.ite ?_ ?_)
   | (with_reducible refine LeO.bind ?_ (fun _ => ?_))
   | exact impl_isTable.mono _ _
   | exact LeO.none _
   | refine LeO.ite ?_ ?_
   | refine LeO.bind ?_ (fun _ => ?_)
set_option maxHeartbeats 8000000 in
set_option maxRecDepth 100000 in
theorem impl_KeysOf.calls (k : Nat) (A0_0 : Option Addr) (c0_0 : Nat) (l0_0 : List Int) (r1 : List Int) (r2 : Bool) (w : World) (hr0_0 : Kd.C (Kd.int .i64) w A0_0 l0_0.length l0_0) (hc0_0 : l0_0.length ≤ c0_0) (h : impl_KeysOf.f k l0_0 = some (r1, r2)) :
  Calls Try.prog 18 #[.agg #[.slice A0_0 l0_0.length c0_0]] w fun e w' => ∃ v0_ : Value, e = .returned (.tuple #[v0_, .bool r2]) ∧ Kd.R (Kd.int .i64) 3 w' w.heap.size (fun _ => True) v0_ r1 ∧ Below w.heap.size w w' := by
 have hu26 := Try.underlying26
 have HR0_0 := aS_ hr0_0
 have HC0_0 := aS_ hc0_0
 clear hr0_0 hc0_0
 have HB := aS_ (Below.refl w.heap.size w)
 have H : ((impl_isTable.f k l0_0).bind fun t442 => (if t442 = true then ((impl_Table_keys.f l0_0).bind fun t443 => (some (t443, true))) else (some (([] : List Int), false)))) = some (r1, r2) := h
 clear h
 replace H := Option.bind_eq_some_iff.mp H
 obtain ⟨t442, A20, H⟩ := H
 have A2 := aS_ A20
 clear A20
 by_cases c3 : t442 = true
 ·subst c3
  rw [if_pos rfl] at H
  replace H := Option.bind_eq_some_iff.mp H
  obtain ⟨t443, A40, H⟩ := H
  have A4 := aS_ A40
  clear A40
  simp only [Option.some.injEq, Prod.mk.injEq] at H
  obtain ⟨rfl, rfl⟩ := H
  go_enter Try.func18, Try.ntmps18
  go_wp2_with (first | ((with_reducible refine gate_dst (N := 1) rfl ?_); refine box_event ?hg (N := 1) ?hd (cs := #[.slice A0_0 l0_0.length c0_0]) (t := 26) ?hr ?_; (case hd => rfl); (case hg => rfl); (case hr => first | (go_simp; done) | (go_simp; rfl)); intro gb441 hg w5 hbox hb; have BK441 := aS_ (hbox); have GW441 := gE_ HB hg; have GE441 := gE_ HB hg; replace HB := bE_ HB hb; clear hb hbox hg; have hcz6_0 : w5.cell? ⟨gb441, 0, none⟩ = some (.slice A0_0 l0_0.length c0_0) := (blk_cell BK441.out 0).trans rfl; have hfz6_0 := blk_frozen BK441.out 0) | ((with_reducible refine gate_callee (f := 25) rfl ?_); refine goesL_ (some 5) rfl rfl Try.func25 (by kernel_rfl) rfl #[.agg #[.slice A0_0 l0_0.length c0_0]] rfl aR_ ?_; (with_reducible refine (impl_isTable.calls k _ _ l0_0 true _ ?side1 ?side2 A2.out).mono ?_); (case side1 => exact cB_ HR0_0 HB); (case side2 => exact HC0_0.out); rintro e w7 ⟨rfl, hb⟩; refine ⟨_, rfl, ?_⟩; replace BK441 := kO_ BK441 hb; replace HB := bE_ HB hb; (try clear hb); have hcz8_0 : w7.cell? ⟨gb441, 0, none⟩ = some (.slice A0_0 l0_0.length c0_0) := (blk_cell BK441.out 0).trans rfl; have hfz8_0 := blk_frozen BK441.out 0) | ((with_reducible refine gate_callee (f := 28) rfl ?_); refine goesL_ (some 8) rfl rfl Try.func28 (by kernel_rfl) rfl #[.agg #[.slice A0_0 l0_0.length c0_0]] rfl aR_ ?_; (with_reducible refine (impl_Table_keys.calls _ _ l0_0 t443 _ ?side1 ?side2 A4.out).mono ?_); (case side1 => exact cB_ HR0_0 HB); (case side2 => exact HC0_0.out); rintro e w9 ⟨v444, rfl, ho0, hb⟩; refine ⟨_, rfl, ?_⟩; have HO445 := aS_ (Kd.R_lower ho0 (below_size (bb_ HB))); replace BK441 := kO_ BK441 hb; replace HB := bE_ HB hb; (try clear hb); (try clear ho0)))
  go_ret2
  exact ⟨_, by first | rfl | (simp [errW_none, errW_some] <;> rfl) | (simp [*, errW_none, errW_some] <;> rfl), rr_ HO445, bb_ HB⟩
 ·replace c3 := Bool.eq_false_iff.mpr c3
  subst c3
  rw [if_neg (show ¬ (false = true) by decide)] at H
  simp only [Option.some.injEq, Prod.mk.injEq] at H
  obtain ⟨rfl, rfl⟩ := H
  go_enter Try.func18, Try.ntmps18
  go_wp2_with (first | ((with_reducible refine gate_dst (N := 1) rfl ?_); refine box_event ?hg (N := 1) ?hd (cs := #[.slice A0_0 l0_0.length c0_0]) (t := 26) ?hr ?_; (case hd => rfl); (case hg => rfl); (case hr => first | (go_simp; done) | (go_simp; rfl)); intro gb441 hg w10 hbox hb; have BK441 := aS_ (hbox); have GW441 := gE_ HB hg; have GE441 := gE_ HB hg; replace HB := bE_ HB hb; clear hb hbox hg; have hcz11_0 : w10.cell? ⟨gb441, 0, none⟩ = some (.slice A0_0 l0_0.length c0_0) := (blk_cell BK441.out 0).trans rfl; have hfz11_0 := blk_frozen BK441.out 0) | ((with_reducible refine gate_callee (f := 25) rfl ?_); refine goesL_ (some 5) rfl rfl Try.func25 (by kernel_rfl) rfl #[.agg #[.slice A0_0 l0_0.length c0_0]] rfl aR_ ?_; (with_reducible refine (impl_isTable.calls k _ _ l0_0 false _ ?side1 ?side2 A2.out).mono ?_); (case side1 => exact cB_ HR0_0 HB); (case side2 => exact HC0_0.out); rintro e w12 ⟨rfl, hb⟩; refine ⟨_, rfl, ?_⟩; replace BK441 := kO_ BK441 hb; replace HB := bE_ HB hb; (try clear hb)))
  go_ret2
  exact ⟨_, by first | rfl | (simp [errW_none, errW_some] <;> rfl) | (simp [*, errW_none, errW_some] <;> rfl), by first | exact Kd.R_nil _ _ _ _ _ | exact Kd.N_nil _ _ _ _ _ | exact Kd.V_nil _ _ _ _ _ | exact Kd.Q_nil _ _ _ _ _ | exact Kd.S_nil _ _ _ _ _, bb_ HB⟩
/-! ### laws_jHas: function 19 -/
def laws_jHas.l0 : Nat → Int → List Int → Int → Int → Option (Bool)
 | 0, _, _, _, _ => none
 | k + 1, x1, x7, x8, x9 => if x9 < x8 then (if 0 ≤ x9 then (if x9 < (x7.length : Int) then (if (rd x7 x9) = x1 then (some true) else (laws_jHas.l0 k x1 x7 x8 (wrap64 (x9 + 1)))) else (none)) else (none)) else (some false)
def laws_jHas.f (k : Nat) (l0 : List Int) (a1 : Int) : Option (Bool) := laws_jHas.l0 k a1 l0 (l0.length : Int) 0
theorem laws_jHas.mono_l : ∀ k, (∀ y0 y1 y2 y3, LeO (laws_jHas.l0 k y0 y1 y2 y3) (laws_jHas.l0 (k + 1) y0 y1 y2 y3))
 | 0 => fun _ _ _ _ r h => by simp [laws_jHas.l0] at h
 | k + 1 => by
  have ih0 := laws_jHas.mono_l k
  ·intro y0 y1 y2 y3
   unfold laws_jHas.l0
   repeat' first
   | (with_reducible exact ih0 _ _ _ _)
   | (with_reducible exact LeO.refl _)
   | (with_reducible exact LeO.none _)
   | (with_reducible refine LeO.ite ?_ ?_)
   | (with_reducible refine LeO.bind ?_ (fun _ => ?_))
   | exact ih0 _ _ _ _
   | exact LeO.none _
   | refine LeO.ite ?_ ?_
   | refine LeO.bind ?_ (fun _ => ?_)
theorem laws_jHas.mono : ∀ a0 a1 k, LeO (laws_jHas.f k a0 a1) (laws_jHas.f (k + 1) a0 a1) := by
 intro a0 a1 k
 have ih0 := laws_jHas.mono_l k
 unfold laws_jHas.f
 repeat' first
   | (with_reducible exact ih0 _ _ _ _)
   | (with_reducible exact LeO.refl _)
   | (with_reducible exact LeO.none _)
   | (with_reducible refine LeO.ite ?_ ?_)
   | (with_reducible refine LeO.bind ?_ (fun _ => ?_))
   | exact ih0 _ _ _ _
   | exact LeO.none _
   | refine LeO.ite ?_ ?_
   | refine LeO.bind ?_ (fun _ => ?_)
set_option maxHeartbeats 8000000 in
set_option maxRecDepth 100000 in
theorem laws_jHas.calls (k : Nat) (A0 : Option Addr) (c0 : Nat) (l0 : List Int) (a1 : Int) (r : Bool) (w : World) (hr0 : Kd.C (Kd.int .i64) w A0 l0.length l0) (hc0 : l0.length ≤ c0) (h : laws_jHas.f k l0 a1 = some r) :
  Calls Try.prog 19 #[.slice A0 l0.length c0, .int .i64 a1] w fun e w' => e = .returned (.bool r) ∧ Drawn0 w w' := by
 have HR0 := aS_ hr0
 have HC0 := aS_ hc0
 clear hr0 hc0
 have H : (laws_jHas.l0 k a1 l0 (l0.length : Int) 0) = some r := h
 clear h
 have H' := aS_ H
 clear H
 go_enter Try.func19, Try.ntmps19
 go_wp2
 go_loopg [9] k (fun kq v9 w' => ∃ (x9_1 : Int), v9 = .int .i64 x9_1 ∧ Aside0 (laws_jHas.l0 kq a1 l0 (l0.length : Int) x9_1 = some r) ∧ Aside0 (kq ≤ k) ∧ Drawn0 w w')
 case atStart => exact ⟨(0), sR_, H', ⟨Nat.le_refl _⟩, by repeat (first | exact Drawn0.refl _ | apply Drawn0.step)⟩
 case round =>
  clear H'
  try clear c1
  try clear p2
  obtain ⟨x9_1, rfl, HA, HK1, ⟨m1, rfl⟩⟩ := hrel
  cases gk with
  | zero => exact absurd HA.out (by simp [laws_jHas.l0])
  | succ k1 =>
   have H := HA.out
   clear HA
   simp only [laws_jHas.l0] at H
   by_cases c3 : x9_1 < (l0.length : Int)
   ·rw [if_pos c3] at H
    have c3b0 : decide (x9_1 < (l0.length : Int)) = true := decide_eq_true c3
    clear c3
    by_cases c4 : 0 ≤ x9_1
    ·rw [if_pos c4] at H
     have c4b0 : decide (0 ≤ x9_1) = true := decide_eq_true c4
     clear c4
     by_cases c5 : x9_1 < (l0.length : Int)
     ·rw [if_pos c5] at H
      have c5b0 : decide (x9_1 < (l0.length : Int)) = true := decide_eq_true c5
      clear c5
      by_cases c6 : (rd l0 x9_1) = a1
      ·rw [if_pos c6] at H
       have c6b0 : ((rd l0 x9_1) == a1) = true := beq_iff_eq.mpr c6
       have c6b1 : ((rd l0 x9_1) != a1) = false := bne_eq_false_iff_eq.mpr c6
       clear c6
       obtain rfl := Option.some.inj H
       have p446 : 0 ≤ (x9_1 : Int) := of_decide_eq_true (by assumption)
       have q446 : x9_1 < (l0.length : Int) := of_decide_eq_true (by assumption)
       obtain ⟨ad446, e446, hx446_0⟩ := Kd.at_int HR0.out x9_1 p446 q446
       cases e446
       replace p446 := eq_true p446
       replace q446 := eq_true q446
       go_wp2
       go_ret
       exact ⟨sR_, by repeat (first | exact Drawn0.refl _ | apply Drawn0.step)⟩
      ·rw [if_neg c6] at H
       have c6b0 : ((rd l0 x9_1) == a1) = false := beq_eq_false_iff_ne.mpr c6
       have c6b1 : ((rd l0 x9_1) != a1) = true := bne_iff_ne.mpr c6
       have H' := aS_ H
       clear H
       have p446 : 0 ≤ (x9_1 : Int) := of_decide_eq_true (by assumption)
       have q446 : x9_1 < (l0.length : Int) := of_decide_eq_true (by assumption)
       obtain ⟨ad446, e446, hx446_0⟩ := Kd.at_int HR0.out x9_1 p446 q446
       cases e446
       replace p446 := eq_true p446
       replace q446 := eq_true q446
       go_wp2
       go_roundg k1
       case measure => have := HK1.out; omega
       case rel => exact ⟨(wrap64 (x9_1 + 1)), sR_, H', ⟨by have := HK1.out; omega⟩, by repeat (first | exact Drawn0.refl _ | apply Drawn0.step)⟩
     ·rw [if_neg c5] at H
      exact absurd H (by simp)
    ·rw [if_neg c4] at H
     exact absurd H (by simp)
   ·rw [if_neg c3] at H
    have c3b0 : decide (x9_1 < (l0.length : Int)) = false := decide_eq_false c3
    clear c3
    obtain rfl := Option.some.inj H
    go_wp2
    go_ret
    exact ⟨sR_, by repeat (first | exact Drawn0.refl _ | apply Drawn0.step)⟩
/-! ### laws_FnInsertAndRemove: function 3 -/
mutual
def laws_FnInsertAndRemove.j0 : Nat → List Int → Int → Int → Bool → Bool → List Int → List Int → Option (Bool)
 | 0, _, _, _, _, _, _, _ => none
 | k + 1, x1, x6, x8, x9, x78, x453000, x459000 => if x78 = true then (some false) else (if x9 = true then ((impl_FindKey.f k x459000 x6).bind fun bt466 => ((impl_RemoveKey.f k x459000 x6).bind fun bt469 => ((impl_UsedCells.f k x453000).bind fun bt474 => ((impl_UsedCells.f k bt469.1).bind fun bt478 => ((impl_CostOf.f k x453000).bind fun bt482 => ((impl_CostOf.f k bt469.1).bind fun bt484 => (if bt466.2.2 = true then (if bt466.1 = x8 then (if bt469.2 = true then (if bt474.2 = true then (if bt478.2 = true then ((laws_jSame.f k bt474.1 bt478.1).bind fun t486 => (if t486 = true then (if bt482.2 = true then (if bt484.2 = true then (if bt482.1 = bt484.1 then (if 0 ≤ x8 then (if x8 < (x453000.length : Int) then (if (rd x453000 x8) = (-1) then (laws_FnInsertAndRemove.j1 k x1) else (some false)) else (none)) else (none)) else (some false)) else (some false)) else (some false)) else (some false))) else (some false)) else (some false)) else (some false)) else (some false)) else (some false)))))))) else (laws_FnInsertAndRemove.j1 k x1))
def laws_FnInsertAndRemove.j1 : Nat → List Int → Option (Bool)
 | 0, _ => none
 | k + 1, x1 => (spec_DrawRemoveKey.f k x1).bind fun bt488 => ((impl_RemoveKey.f k bt488.1 bt488.2).bind fun bt493 => ((spec_RemoveKey.f k bt488.1 bt488.2).bind fun bt498 => ((impl_FindKey.f k bt488.1 bt488.2).bind fun bt503 => (if (bt493.2 != bt498.2) = true then (laws_FnInsertAndRemove.j2 k bt488.2 bt493.2 true bt488.1 bt493.1) else ((laws_jTable.f k bt493.1 bt498.1).bind fun t506 => (if t506 = true then (laws_FnInsertAndRemove.j2 k bt488.2 bt493.2 (bt493.2 != bt503.2.2) bt488.1 bt493.1) else (laws_FnInsertAndRemove.j2 k bt488.2 bt493.2 true bt488.1 bt493.1)))))))
def laws_FnInsertAndRemove.j2 : Nat → Int → Bool → Bool → List Int → List Int → Option (Bool)
 | 0, _, _, _, _, _ => none
 | k + 1, x27, x29, x196, x493000, x498000 => if x196 = true then (some false) else (if x29 = true then ((impl_FirstInsertion.f k x498000).bind fun bt507 => ((impl_TableOf.f k (x493000.length : Int) bt507.1).bind fun bt511 => ((impl_KeysOf.f k x498000).bind fun bt516 => ((impl_KeysOf.f k x493000).bind fun bt520 => (if bt507.2 = true then (if bt511.2 = true then ((laws_jTable.f k bt511.1 x498000).bind fun t524 => (if t524 = true then (if bt516.2 = true then (if bt520.2 = true then (if (bt516.1.length : Int) = (wrap64 ((bt520.1.length : Int) - 1)) then ((laws_jHas.f k bt516.1 x27).bind fun t525 => (some (!t525))) else (some false)) else (some false)) else (some false)) else (some false))) else (some false)) else (some false)))))) else (some true))
end
def laws_FnInsertAndRemove.f (k : Nat) (l0 : List Int) (l1 : List Int) : Option (Bool) := (laws_big.f l0 l1).bind fun t447 => (if t447 = true then (some true) else ((spec_DrawInsertKey.f k l0).bind fun bt448 => ((impl_InsertKey.f k bt448.1 bt448.2).bind fun bt453 => ((spec_InsertKey.f k bt448.1 bt448.2).bind fun bt459 => (if (bt453.2.2 != bt459.2.2) = true then (laws_FnInsertAndRemove.j0 k l1 bt448.2 bt453.2.1 bt453.2.2 true bt448.1 bt453.1) else ((laws_jTable.f k bt453.1 bt459.1).bind fun t465 => (if t465 = true then (laws_FnInsertAndRemove.j0 k l1 bt448.2 bt453.2.1 bt453.2.2 (bt453.2.1 != bt459.2.1) bt448.1 bt453.1) else (laws_FnInsertAndRemove.j0 k l1 bt448.2 bt453.2.1 bt453.2.2 true bt448.1 bt453.1))))))))
theorem laws_FnInsertAndRemove.mono_l : ∀ k, (∀ y0 y1 y2 y3 y4 y5 y6, LeO (laws_FnInsertAndRemove.j0 k y0 y1 y2 y3 y4 y5 y6) (laws_FnInsertAndRemove.j0 (k + 1) y0 y1 y2 y3 y4 y5 y6)) ∧ (∀ y0, LeO (laws_FnInsertAndRemove.j1 k y0) (laws_FnInsertAndRemove.j1 (k + 1) y0)) ∧ (∀ y0 y1 y2 y3 y4, LeO (laws_FnInsertAndRemove.j2 k y0 y1 y2 y3 y4) (laws_FnInsertAndRemove.j2 (k + 1) y0 y1 y2 y3 y4))
 | 0 => ⟨fun _ _ _ _ _ _ _ r h => by simp [laws_FnInsertAndRemove.j0] at h, fun _ r h => by simp [laws_FnInsertAndRemove.j1] at h, fun _ _ _ _ _ r h => by simp [laws_FnInsertAndRemove.j2] at h⟩
 | k + 1 => by
  obtain ⟨ih0, ih1, ih2⟩ := laws_FnInsertAndRemove.mono_l k
  refine ⟨?_, ?_, ?_⟩
  ·intro y0 y1 y2 y3 y4 y5 y6
   unfold laws_FnInsertAndRemove.j0
   repeat' first
   | (with_reducible exact ih0 _ _ _ _ _ _ _)
   | (with_reducible exact ih1 _)
   | (with_reducible exact ih2 _ _ _ _ _)
   | (with_reducible exact impl_CostOf.mono _ _)
   | (with_reducible exact impl_FindKey.mono _ _ _)
   | (with_reducible exact impl_FirstInsertion.mono _ _)
   | (with_reducible exact impl_InsertKey.mono _ _ _)
   | (with_reducible exact impl_KeysOf.mono _ _)
   | (with_reducible exact impl_RemoveKey.mono _ _ _)
   | (with_reducible exact impl_TableOf.mono _ _ _)
   | (with_reducible exact impl_UsedCells.mono _ _)
   | (with_reducible exact laws_jHas.mono _ _ _)
   | (with_reducible exact laws_jSame.mono _ _ _)
   | (with_reducible exact laws_jTable.mono _ _ _)
   | (with_reducible exact spec_DrawInsertKey.mono _ _)
   | (with_reducible exact spec_DrawRemoveKey.mono _ _)
   | (with_reducible exact spec_InsertKey.mono _ _ _)
   | (with_reducible exact spec_RemoveKey.mono _ _ _)
   | (with_reducible exact LeO.refl _)
   | (with_reducible exact LeO.none _)
   | (with_reducible refine LeO.ite ?_ ?_)
   | (with_reducible refine LeO.bind ?_ (fun _ => ?_))
   | exact ih0 _ _ _ _ _ _ _
   | exact ih1 _
   | exact ih2 _ _ _ _ _
   | exact impl_CostOf.mono _ _
   | exact impl_FindKey.mono _ _ _
   | exact impl_FirstInsertion.mono _ _
   | exact impl_InsertKey.mono _ _ _
   | exact impl_KeysOf.mono _ _
   | exact impl_RemoveKey.mono _ _ _
   | exact impl_TableOf.mono _ _ _
   | exact impl_UsedCells.mono _ _
   | exact laws_jHas.mono _ _ _
   | exact laws_jSame.mono _ _ _
   | exact laws_jTable.mono _ _ _
   | exact spec_DrawInsertKey.mono _ _
   | exact spec_DrawRemoveKey.mono _ _
   | exact spec_InsertKey.mono _ _ _
   | exact spec_RemoveKey.mono _ _ _
   | exact LeO.none _
   | refine LeO.ite ?_ ?_
   | refine LeO.bind ?_ (fun _ => ?_)
  ·intro y0
   unfold laws_FnInsertAndRemove.j1
   repeat' first
   | (with_reducible exact ih0 _ _ _ _ _ _ _)
   | (with_reducible exact ih1 _)
   | (with_reducible exact ih2 _ _ _ _ _)
   | (with_reducible exact impl_CostOf.mono _ _)
   | (with_reducible exact impl_FindKey.mono _ _ _)
   | (with_reducible exact impl_FirstInsertion.mono _ _)
   | (with_reducible exact impl_InsertKey.mono _ _ _)
   | (with_reducible exact impl_KeysOf.mono _ _)
   | (with_reducible exact impl_RemoveKey.mono _ _ _)
   | (with_reducible exact impl_TableOf.mono _ _ _)
   | (with_reducible exact impl_UsedCells.mono _ _)
   | (with_reducible exact laws_jHas.mono _ _ _)
   | (with_reducible exact laws_jSame.mono _ _ _)
   | (with_reducible exact laws_jTable.mono _ _ _)
   | (with_reducible exact spec_DrawInsertKey.mono _ _)
   | (with_reducible exact spec_DrawRemoveKey.mono _ _)
   | (with_reducible exact spec_InsertKey.mono _ _ _)
   | (with_reducible exact spec_RemoveKey.mono _ _ _)
   | (with_reducible exact LeO.refl _)
   | (with_reducible exact LeO.none _)
   | (with_reducible refine LeO.ite ?_ ?_)
   | (with_reducible refine LeO.bind ?_ (fun _ => ?_))
   | exact ih0 _ _ _ _ _ _ _
   | exact ih1 _
   | exact ih2 _ _ _ _ _
   | exact impl_CostOf.mono _ _
   | exact impl_FindKey.mono _ _ _
   | exact impl_FirstInsertion.mono _ _
   | exact impl_InsertKey.mono _ _ _
   | exact impl_KeysOf.mono _ _
   | exact impl_RemoveKey.mono _ _ _
   | exact impl_TableOf.mono _ _ _
   | exact impl_UsedCells.mono _ _
   | exact laws_jHas.mono _ _ _
   | exact laws_jSame.mono _ _ _
   | exact laws_jTable.mono _ _ _
   | exact spec_DrawInsertKey.mono _ _
   | exact spec_DrawRemoveKey.mono _ _
   | exact spec_InsertKey.mono _ _ _
   | exact spec_RemoveKey.mono _ _ _
   | exact LeO.none _
   | refine LeO.ite ?_ ?_
   | refine LeO.bind ?_ (fun _ => ?_)
  ·intro y0 y1 y2 y3 y4
   unfold laws_FnInsertAndRemove.j2
   repeat' first
   | (with_reducible exact ih0 _ _ _ _ _ _ _)
   | (with_reducible exact ih1 _)
   | (with_reducible exact ih2 _ _ _ _ _)
   | (with_reducible exact impl_CostOf.mono _ _)
   | (with_reducible exact impl_FindKey.mono _ _ _)
   | (with_reducible exact impl_FirstInsertion.mono _ _)
   | (with_reducible exact impl_InsertKey.mono _ _ _)
   | (with_reducible exact impl_KeysOf.mono _ _)
   | (with_reducible exact impl_RemoveKey.mono _ _ _)
   | (with_reducible exact impl_TableOf.mono _ _ _)
   | (with_reducible exact impl_UsedCells.mono _ _)
   | (with_reducible exact laws_jHas.mono _ _ _)
   | (with_reducible exact laws_jSame.mono _ _ _)
   | (with_reducible exact laws_jTable.mono _ _ _)
   | (with_reducible exact spec_DrawInsertKey.mono _ _)
   | (with_reducible exact spec_DrawRemoveKey.mono _ _)
   | (with_reducible exact spec_InsertKey.mono _ _ _)
   | (with_reducible exact spec_RemoveKey.mono _ _ _)
   | (with_reducible exact LeO.refl _)
   | (with_reducible exact LeO.none _)
   | (with_reducible refine LeO.ite ?_ ?_)
   | (with_reducible refine LeO.bind ?_ (fun _ => ?_))
   | exact ih0 _ _ _ _ _ _ _
   | exact ih1 _
   | exact ih2 _ _ _ _ _
   | exact impl_CostOf.mono _ _
   | exact impl_FindKey.mono _ _ _
   | exact impl_FirstInsertion.mono _ _
   | exact impl_InsertKey.mono _ _ _
   | exact impl_KeysOf.mono _ _
   | exact impl_RemoveKey.mono _ _ _
   | exact impl_TableOf.mono _ _ _
   | exact impl_UsedCells.mono _ _
   | exact laws_jHas.mono _ _ _
   | exact laws_jSame.mono _ _ _
   | exact laws_jTable.mono _ _ _
   | exact spec_DrawInsertKey.mono _ _
   | exact spec_DrawRemoveKey.mono _ _
   | exact spec_InsertKey.mono _ _ _
   | exact spec_RemoveKey.mono _ _ _
   | exact LeO.none _
   | refine LeO.ite ?_ ?_
   | refine LeO.bind ?_ (fun _ => ?_)
theorem laws_FnInsertAndRemove.mono : ∀ a0 a1 k, LeO (laws_FnInsertAndRemove.f k a0 a1) (laws_FnInsertAndRemove.f (k + 1) a0 a1) := by
 intro a0 a1 k
 obtain ⟨ih0, ih1, ih2⟩ := laws_FnInsertAndRemove.mono_l k
 unfold laws_FnInsertAndRemove.f
 repeat' first
   | (with_reducible exact ih0 _ _ _ _ _ _ _)
   | (with_reducible exact ih1 _)
   | (with_reducible exact ih2 _ _ _ _ _)
   | (with_reducible exact impl_CostOf.mono _ _)
   | (with_reducible exact impl_FindKey.mono _ _ _)
   | (with_reducible exact impl_FirstInsertion.mono _ _)
   | (with_reducible exact impl_InsertKey.mono _ _ _)
   | (with_reducible exact impl_KeysOf.mono _ _)
   | (with_reducible exact impl_RemoveKey.mono _ _ _)
   | (with_reducible exact impl_TableOf.mono _ _ _)
   | (with_reducible exact impl_UsedCells.mono _ _)
   | (with_reducible exact laws_jHas.mono _ _ _)
   | (with_reducible exact laws_jSame.mono _ _ _)
   | (with_reducible exact laws_jTable.mono _ _ _)
   | (with_reducible exact spec_DrawInsertKey.mono _ _)
   | (with_reducible exact spec_DrawRemoveKey.mono _ _)
   | (with_reducible exact spec_InsertKey.mono _ _ _)
   | (with_reducible exact spec_RemoveKey.mono _ _ _)
   | (with_reducible exact LeO.refl _)
   | (with_reducible exact LeO.none _)
   | (with_reducible refine LeO.ite ?_ ?_)
   | (with_reducible refine LeO.bind ?_ (fun _ => ?_))
   | exact ih0 _ _ _ _ _ _ _
   | exact ih1 _
   | exact ih2 _ _ _ _ _
   | exact impl_CostOf.mono _ _
   | exact impl_FindKey.mono _ _ _
   | exact impl_FirstInsertion.mono _ _
   | exact impl_InsertKey.mono _ _ _
   | exact impl_KeysOf.mono _ _
   | exact impl_RemoveKey.mono _ _ _
   | exact impl_TableOf.mono _ _ _
   | exact impl_UsedCells.mono _ _
   | exact laws_jHas.mono _ _ _
   | exact laws_jSame.mono _ _ _
   | exact laws_jTable.mono _ _ _
   | exact spec_DrawInsertKey.mono _ _
   | exact spec_DrawRemoveKey.mono _ _
   | exact spec_InsertKey.mono _ _ _
   | exact spec_RemoveKey.mono _ _ _
   | exact LeO.none _
   | refine LeO.ite ?_ ?_
   | refine LeO.bind ?_ (fun _ => ?_)
end Go.Proofs.Ytjhpnihlmnlehaa.G
