/- The law FnExactRemoveKey: part 3 of the printed functions and the facts on them that its row leans on (merged by this session's slim.py). -/
import Derived.Test.YtlphlmbkfgdmgaaZFnExactRemoveKey2
namespace Go.Proofs.Ytlphlmbkfgdmgaa.G
open Go.RowKit Go.Proofs.YtlphlmbkfgdmgaaW.PrintWords Go.Proofs.YtlphlmbkfgdmgaaW.PrintLast Go.Proofs.YtlphlmbkfgdmgaaW.PrintMore
attribute [local go_sem] max2_int min2_int max_two min_two max_three min_three max_four min_four   -- for this text's walks alone
set_option linter.unusedVariables false
set_option linter.unusedSimpArgs false
/-! ### laws_FnExactRemoveKey: function 3 -/
mutual
def laws_FnExactRemoveKey.j0 : Nat → Int → Bool → Bool → Bool → List Int → List Int → List Int → List Int → Option (Bool)
  | 0, _, _, _, _, _, _, _, _ => none
  | k + 1, x1, x7, x10, x44, x205000, x214000, x218000, x223000 => if x44 = true then (some false) else ((laws_toTable.f k x205000).bind fun t224 => ((laws_eqTable.f k x218000 t224).bind fun t227 => (if t227 = true then ((laws_markTable.f k x218000 1).bind fun bt228 => (if bt228.1 < 0 then (laws_FnExactRemoveKey.j1 k x1 x7 true x205000 x214000 x223000) else ((laws_eqTable.f k x223000 x214000).bind fun t230 => (if t230 = true then (laws_FnExactRemoveKey.j1 k x1 x7 (x10 != x7) x205000 x214000 x223000) else (laws_FnExactRemoveKey.j1 k x1 x7 true x205000 x214000 x223000))))) else (some false))))
def laws_FnExactRemoveKey.j1 : Nat → Int → Bool → Bool → List Int → List Int → List Int → Option (Bool)
  | 0, _, _, _, _, _, _ => none
  | k + 1, x1, x7, x65, x205000, x214000, x223000 => if x65 = true then (some false) else ((laws_markTable.f k x223000 1).bind fun bt231 => ((laws_heldTable.f k bt231.2 1).bind fun t233 => (if t233 < 0 then (some false) else (if t233 = bt231.1 then ((laws_toTable.f k x205000).bind fun t234 => ((impl_RemoveKey.f k t234 x1).bind fun bt237 => ((laws_eqTable.f k bt237.1 x214000).bind fun t242 => (if t242 = true then (laws_FnExactRemoveKey.j2 k bt231.1 (bt237.2 != x7) bt231.2) else (laws_FnExactRemoveKey.j2 k bt231.1 true bt231.2))))) else (some false)))))
def laws_FnExactRemoveKey.j2 : Nat → Int → Bool → List Int → Option (Bool)
  | 0, _, _, _ => none
  | k + 1, x12, x92, x223000 => if x92 = true then (some false) else ((laws_heldTable.f k x223000 1).bind fun t243 => (if t243 < 0 then (some false) else (if t243 = x12 then (some true) else (some false))))
end
def laws_FnExactRemoveKey.f (k : Nat) (l0_0 : List Int) (a1 : Int) : Option (Bool) := (laws_szTable.f l0_0 1048576).bind fun t205 => (if t205 < 0 then (some true) else ((laws_toTable.f k l0_0).bind fun t206 => ((spec_RemoveKey.f k t206 a1).bind fun bt209 => ((laws_toTable.f k l0_0).bind fun t214 => ((impl_RemoveKey.f k t214 a1).bind fun bt218 => ((laws_eqTable.f k bt218.1 bt209.1).bind fun t223 => (if t223 = true then (laws_FnExactRemoveKey.j0 k a1 bt209.2 bt218.2 (bt218.2 != bt209.2) l0_0 bt209.1 t214 bt218.1) else (laws_FnExactRemoveKey.j0 k a1 bt209.2 bt218.2 true l0_0 bt209.1 t214 bt218.1))))))))
theorem laws_FnExactRemoveKey.mono_l : ∀ k, (∀ y0 y1 y2 y3 y4 y5 y6 y7, LeO (laws_FnExactRemoveKey.j0 k y0 y1 y2 y3 y4 y5 y6 y7) (laws_FnExactRemoveKey.j0 (k + 1) y0 y1 y2 y3 y4 y5 y6 y7)) ∧ (∀ y0 y1 y2 y3 y4 y5, LeO (laws_FnExactRemoveKey.j1 k y0 y1 y2 y3 y4 y5) (laws_FnExactRemoveKey.j1 (k + 1) y0 y1 y2 y3 y4 y5)) ∧ (∀ y0 y1 y2, LeO (laws_FnExactRemoveKey.j2 k y0 y1 y2) (laws_FnExactRemoveKey.j2 (k + 1) y0 y1 y2))
  | 0 => ⟨fun _ _ _ _ _ _ _ _ r h => by simp [laws_FnExactRemoveKey.j0] at h, fun _ _ _ _ _ _ r h => by simp [laws_FnExactRemoveKey.j1] at h, fun _ _ _ r h => by simp [laws_FnExactRemoveKey.j2] at h⟩
  | k + 1 => by
    obtain ⟨ih0, ih1, ih2⟩ := laws_FnExactRemoveKey.mono_l k
    refine ⟨?_, ?_, ?_⟩
    · intro y0 y1 y2 y3 y4 y5 y6 y7
      unfold laws_FnExactRemoveKey.j0
      repeat' first
      | (with_reducible exact ih0 _ _ _ _ _ _ _ _)
      | (with_reducible exact ih1 _ _ _ _ _ _)
      | (with_reducible exact ih2 _ _ _)
      | (with_reducible exact impl_RemoveKey.mono _ _ _)
      | (with_reducible exact laws_eqTable.mono _ _ _)
      | (with_reducible exact laws_heldTable.mono _ _ _)
      | (with_reducible exact laws_markTable.mono _ _ _)
      | (with_reducible exact laws_toTable.mono _ _)
      | (with_reducible exact spec_RemoveKey.mono _ _ _)
      | (with_reducible exact LeO.refl _)
      | (with_reducible exact LeO.none _)
      | (with_reducible refine LeO.ite ?_ ?_)
      | (with_reducible refine LeO.bind ?_ (fun _ => ?_))
      | exact ih0 _ _ _ _ _ _ _ _
      | exact ih1 _ _ _ _ _ _
      | exact ih2 _ _ _
      | exact impl_RemoveKey.mono _ _ _
      | exact laws_eqTable.mono _ _ _
      | exact laws_heldTable.mono _ _ _
      | exact laws_markTable.mono _ _ _
      | exact laws_toTable.mono _ _
      | exact spec_RemoveKey.mono _ _ _
      | exact LeO.none _
      | refine LeO.ite ?_ ?_
      | refine LeO.bind ?_ (fun _ => ?_)
    · intro y0 y1 y2 y3 y4 y5
      unfold laws_FnExactRemoveKey.j1
      repeat' first
      | (with_reducible exact ih0 _ _ _ _ _ _ _ _)
      | (with_reducible exact ih1 _ _ _ _ _ _)
      | (with_reducible exact ih2 _ _ _)
      | (with_reducible exact impl_RemoveKey.mono _ _ _)
      | (with_reducible exact laws_eqTable.mono _ _ _)
      | (with_reducible exact laws_heldTable.mono _ _ _)
      | (with_reducible exact laws_markTable.mono _ _ _)
      | (with_reducible exact laws_toTable.mono _ _)
      | (with_reducible exact spec_RemoveKey.mono _ _ _)
      | (with_reducible exact LeO.refl _)
      | (with_reducible exact LeO.none _)
      | (with_reducible refine LeO.ite ?_ ?_)
      | (with_reducible refine LeO.bind ?_ (fun _ => ?_))
      | exact ih0 _ _ _ _ _ _ _ _
      | exact ih1 _ _ _ _ _ _
      | exact ih2 _ _ _
      | exact impl_RemoveKey.mono _ _ _
      | exact laws_eqTable.mono _ _ _
      | exact laws_heldTable.mono _ _ _
      | exact laws_markTable.mono _ _ _
      | exact laws_toTable.mono _ _
      | exact spec_RemoveKey.mono _ _ _
      | exact LeO.none _
      | refine LeO.ite ?_ ?_
      | refine LeO.bind ?_ (fun _ => ?_)
    · intro y0 y1 y2
      unfold laws_FnExactRemoveKey.j2
      repeat' first
      | (with_reducible exact ih0 _ _ _ _ _ _ _ _)
      | (with_reducible exact ih1 _ _ _ _ _ _)
      | (with_reducible exact ih2 _ _ _)
      | (with_reducible exact impl_RemoveKey.mono _ _ _)
      | (with_reducible exact laws_eqTable.mono _ _ _)
      | (with_reducible exact laws_heldTable.mono _ _ _)
      | (with_reducible exact laws_markTable.mono _ _ _)
      | (with_reducible exact laws_toTable.mono _ _)
      | (with_reducible exact spec_RemoveKey.mono _ _ _)
      | (with_reducible exact LeO.refl _)
      | (with_reducible exact LeO.none _)
      | (with_reducible refine LeO.ite ?_ ?_)
      | (with_reducible refine LeO.bind ?_ (fun _ => ?_))
      | exact ih0 _ _ _ _ _ _ _ _
      | exact ih1 _ _ _ _ _ _
      | exact ih2 _ _ _
      | exact impl_RemoveKey.mono _ _ _
      | exact laws_eqTable.mono _ _ _
      | exact laws_heldTable.mono _ _ _
      | exact laws_markTable.mono _ _ _
      | exact laws_toTable.mono _ _
      | exact spec_RemoveKey.mono _ _ _
      | exact LeO.none _
      | refine LeO.ite ?_ ?_
      | refine LeO.bind ?_ (fun _ => ?_)
theorem laws_FnExactRemoveKey.mono : ∀ a0 a1 k, LeO (laws_FnExactRemoveKey.f k a0 a1) (laws_FnExactRemoveKey.f (k + 1) a0 a1) := by
  intro a0 a1 k
  obtain ⟨ih0, ih1, ih2⟩ := laws_FnExactRemoveKey.mono_l k
  unfold laws_FnExactRemoveKey.f
  repeat' first
      | (with_reducible exact ih0 _ _ _ _ _ _ _ _)
      | (with_reducible exact ih1 _ _ _ _ _ _)
      | (with_reducible exact ih2 _ _ _)
      | (with_reducible exact impl_RemoveKey.mono _ _ _)
      | (with_reducible exact laws_eqTable.mono _ _ _)
      | (with_reducible exact laws_heldTable.mono _ _ _)
      | (with_reducible exact laws_markTable.mono _ _ _)
      | (with_reducible exact laws_toTable.mono _ _)
      | (with_reducible exact spec_RemoveKey.mono _ _ _)
      | (with_reducible exact LeO.refl _)
      | (with_reducible exact LeO.none _)
      | (with_reducible refine LeO.ite ?_ ?_)
      | (with_reducible refine LeO.bind ?_ (fun _ => ?_))
      | exact ih0 _ _ _ _ _ _ _ _
      | exact ih1 _ _ _ _ _ _
      | exact ih2 _ _ _
      | exact impl_RemoveKey.mono _ _ _
      | exact laws_eqTable.mono _ _ _
      | exact laws_heldTable.mono _ _ _
      | exact laws_markTable.mono _ _ _
      | exact laws_toTable.mono _ _
      | exact spec_RemoveKey.mono _ _ _
      | exact LeO.none _
      | refine LeO.ite ?_ ?_
      | refine LeO.bind ?_ (fun _ => ?_)
set_option maxHeartbeats 8000000 in
set_option maxRecDepth 100000 in
theorem laws_FnExactRemoveKey.calls (k : Nat) (A0_0 : Option Addr) (c0_0 : Nat) (l0_0 : List Int) (a1 : Int) (r : Bool) (w : World) (hr0_0 : Kd.C (Kd.int .i64) w A0_0 l0_0.length l0_0) (hc0_0 : l0_0.length ≤ c0_0) (h : laws_FnExactRemoveKey.f k l0_0 a1 = some r) :
    Calls Try.prog 3 #[.agg #[.slice A0_0 l0_0.length c0_0], .int .i64 a1] w fun e w' => e = .returned (.bool r) ∧ Below w.heap.size w w' := by
  have hu24 := Try.underlying24
  have hu26 := Try.underlying26
  have HR0_0 := Aside0.mk hr0_0
  have HC0_0 := Aside0.mk hc0_0
  clear hr0_0 hc0_0
  have HB := Aside0.mk (Below.refl w.heap.size w)
  have H : ((laws_szTable.f l0_0 1048576).bind fun t205 => (if t205 < 0 then (some true) else ((laws_toTable.f k l0_0).bind fun t206 => ((spec_RemoveKey.f k t206 a1).bind fun bt209 => ((laws_toTable.f k l0_0).bind fun t214 => ((impl_RemoveKey.f k t214 a1).bind fun bt218 => ((laws_eqTable.f k bt218.1 bt209.1).bind fun t223 => (if t223 = true then (laws_FnExactRemoveKey.j0 k a1 bt209.2 bt218.2 (bt218.2 != bt209.2) l0_0 bt209.1 t214 bt218.1) else (laws_FnExactRemoveKey.j0 k a1 bt209.2 bt218.2 true l0_0 bt209.1 t214 bt218.1))))))))) = some r := h
  clear h
  replace H := Option.bind_eq_some_iff.mp H
  obtain ⟨t205, A30, H⟩ := H
  replace H : (if t205 < 0 then (some true) else ((laws_toTable.f k l0_0).bind fun t206 => ((spec_RemoveKey.f k t206 a1).bind fun bt209 => ((laws_toTable.f k l0_0).bind fun t214 => ((impl_RemoveKey.f k t214 a1).bind fun bt218 => ((laws_eqTable.f k bt218.1 bt209.1).bind fun t223 => (if t223 = true then (laws_FnExactRemoveKey.j0 k a1 bt209.2 bt218.2 (bt218.2 != bt209.2) l0_0 bt209.1 t214 bt218.1) else (laws_FnExactRemoveKey.j0 k a1 bt209.2 bt218.2 true l0_0 bt209.1 t214 bt218.1)))))))) = some r := H
  have A3 := Aside0.mk A30
  clear A30
  by_cases c4 : t205 < 0
  · rw [if_pos c4] at H
    have c4b0 : decide (t205 < 0) = true := decide_eq_true c4
    clear c4
    obtain rfl := Option.some.inj H
    go_enter Try.func3, Try.ntmps3
    go_wp2_with (first | ((with_reducible refine gate_dst (N := 2) rfl ?_); refine box_event ?hg (N := 2) ?hd (cs := #[.slice A0_0 l0_0.length c0_0]) (t := 24) ?hr ?_; (case hd => rfl); (case hg => rfl); (case hr => first | (go_simp; done) | (go_simp; rfl)); intro gb204 hg w5 hbox hb; have n0_ := Aside0.mk (below_step (by repeat (first | (with_reducible first | exact HB.out | apply below_alloc | apply pw_below_drewN | apply below_drew1) | exact HB.out)) hb); have n1_ := Aside0.mk (hbox); have n2_ := Aside0.mk ((by rw [hg]; exact (below_size (by repeat (first | (with_reducible first | exact HB.out | apply below_alloc | apply pw_below_drewN | apply below_drew1) | exact HB.out))) : w.heap.size ≤ gb204)); have n3_ := Aside0.mk ((by rw [hg]; exact (below_size (by repeat (first | (with_reducible first | exact HB.out | apply below_alloc | apply pw_below_drewN | apply below_drew1) | exact HB.out))) : w.heap.size ≤ gb204)); clear HB; have HB := n0_; have BK204 := n1_; have GW204 := n2_; have GE204 := n3_; clear n0_ n1_ n2_ n3_; clear hb hbox hg; have hcz6_0 : w5.cell? ⟨gb204, 0, none⟩ = some (.slice A0_0 l0_0.length c0_0) := (blk_cell BK204.out 0).trans rfl; have hfz6_0 := blk_frozen BK204.out 0) | ((with_reducible refine gate_callee (f := 4) rfl ?_); refine goesL_ (some 18) rfl rfl Try.func4 (by kernel_rfl) rfl #[.agg #[.slice A0_0 l0_0.length c0_0], .int .i64 1048576] rfl (by (try simp only [List.map_toArray, List.map_cons, List.map_nil]); first | done | rfl | (simp only [List.length_drop, List.length_take]; rfl)) ?_; (with_reducible refine (laws_szTable.calls _ _ l0_0 1048576 t205 _ ?side1 ?side2 A3.out).mono ?_); (case side1 => repeat (first | exact (Kd.C_below HR0_0.out HB.out) | (with_reducible refine Kd.C_alloc ?_ _) | (with_reducible refine Kd.C_drewN ?_ _) | (with_reducible refine Kd.C_drew ?_))); (case side2 => exact HC0_0.out); rintro e w7 ⟨rfl, hb⟩; refine ⟨_, rfl, ?_⟩; have n0_ := Aside0.mk (blk_below (g := gb204) (o := .cells #[.slice A0_0 l0_0.length c0_0] 24 (0, 0)) (by (with_reducible repeat (first | refine blk_drewN ?_ _ | refine blk_drew ?_ | refine blk_alloc ?_ _)); exact BK204.out) hb); have n1_ := Aside0.mk (below_step (by repeat (first | (with_reducible first | exact HB.out | apply below_alloc | apply pw_below_drewN | apply below_drew1 | refine below_set ?_ GE204.out) | exact HB.out)) hb); clear BK204; clear HB; have BK204 := n0_; have HB := n1_; clear n0_ n1_; (try clear hb); (try clear hb2); (try clear hk); (try clear hi)))
    go_ret
    exact ⟨by first | rfl | (simp [errW_none, errW_some] <;> rfl) | (simp [*, errW_none, errW_some] <;> rfl), by repeat (first | (with_reducible first | exact HB.out | apply below_alloc | apply pw_below_drewN | apply below_drew1 | refine below_set ?_ GE204.out) | exact HB.out)⟩
  · rw [if_neg c4] at H
    have c4b0 : decide (t205 < 0) = false := decide_eq_false c4
    clear c4
    replace H := Option.bind_eq_some_iff.mp H
    obtain ⟨t206, A80, H⟩ := H
    replace H : ((spec_RemoveKey.f k t206 a1).bind fun bt209 => ((laws_toTable.f k l0_0).bind fun t214 => ((impl_RemoveKey.f k t214 a1).bind fun bt218 => ((laws_eqTable.f k bt218.1 bt209.1).bind fun t223 => (if t223 = true then (laws_FnExactRemoveKey.j0 k a1 bt209.2 bt218.2 (bt218.2 != bt209.2) l0_0 bt209.1 t214 bt218.1) else (laws_FnExactRemoveKey.j0 k a1 bt209.2 bt218.2 true l0_0 bt209.1 t214 bt218.1)))))) = some r := H
    have A8 := Aside0.mk A80
    clear A80
    replace H := Option.bind_eq_some_iff.mp H
    obtain ⟨⟨t209, t212⟩, A90, H⟩ := H
    replace H : ((laws_toTable.f k l0_0).bind fun t214 => ((impl_RemoveKey.f k t214 a1).bind fun bt218 => ((laws_eqTable.f k bt218.1 t209).bind fun t223 => (if t223 = true then (laws_FnExactRemoveKey.j0 k a1 t212 bt218.2 (bt218.2 != t212) l0_0 t209 t214 bt218.1) else (laws_FnExactRemoveKey.j0 k a1 t212 bt218.2 true l0_0 t209 t214 bt218.1))))) = some r := H
    have A9 := Aside0.mk A90
    clear A90
    replace H := Option.bind_eq_some_iff.mp H
    obtain ⟨t214, A100, H⟩ := H
    replace H : ((impl_RemoveKey.f k t214 a1).bind fun bt218 => ((laws_eqTable.f k bt218.1 t209).bind fun t223 => (if t223 = true then (laws_FnExactRemoveKey.j0 k a1 t212 bt218.2 (bt218.2 != t212) l0_0 t209 t214 bt218.1) else (laws_FnExactRemoveKey.j0 k a1 t212 bt218.2 true l0_0 t209 t214 bt218.1)))) = some r := H
    have A10 := Aside0.mk A100
    clear A100
    replace H := Option.bind_eq_some_iff.mp H
    obtain ⟨⟨t218, t221⟩, A110, H⟩ := H
    replace H : ((laws_eqTable.f k t218 t209).bind fun t223 => (if t223 = true then (laws_FnExactRemoveKey.j0 k a1 t212 t221 (t221 != t212) l0_0 t209 t214 t218) else (laws_FnExactRemoveKey.j0 k a1 t212 t221 true l0_0 t209 t214 t218))) = some r := H
    have A11 := Aside0.mk A110
    clear A110
    have HC12 := Aside0.mk H
    clear H
    go_enter Try.func3, Try.ntmps3
    go_upto_region 8 with (first | ((with_reducible refine gate_dst (N := 2) rfl ?_); refine box_event ?hg (N := 2) ?hd (cs := #[.slice A0_0 l0_0.length c0_0]) (t := 24) ?hr ?_; (case hd => rfl); (case hg => rfl); (case hr => first | (go_simp; done) | (go_simp; rfl)); intro gb204 hg w13 hbox hb; have n0_ := Aside0.mk (below_step (by repeat (first | (with_reducible first | exact HB.out | apply below_alloc | apply pw_below_drewN | apply below_drew1) | exact HB.out)) hb); have n1_ := Aside0.mk (hbox); have n2_ := Aside0.mk ((by rw [hg]; exact (below_size (by repeat (first | (with_reducible first | exact HB.out | apply below_alloc | apply pw_below_drewN | apply below_drew1) | exact HB.out))) : w.heap.size ≤ gb204)); have n3_ := Aside0.mk ((by rw [hg]; exact (below_size (by repeat (first | (with_reducible first | exact HB.out | apply below_alloc | apply pw_below_drewN | apply below_drew1) | exact HB.out))) : w.heap.size ≤ gb204)); clear HB; have HB := n0_; have BK204 := n1_; have GW204 := n2_; have GE204 := n3_; clear n0_ n1_ n2_ n3_; clear hb hbox hg; have hcz14_0 : w13.cell? ⟨gb204, 0, none⟩ = some (.slice A0_0 l0_0.length c0_0) := (blk_cell BK204.out 0).trans rfl; have hfz14_0 := blk_frozen BK204.out 0) | ((with_reducible refine gate_callee (f := 4) rfl ?_); refine goesL_ (some 18) rfl rfl Try.func4 (by kernel_rfl) rfl #[.agg #[.slice A0_0 l0_0.length c0_0], .int .i64 1048576] rfl (by (try simp only [List.map_toArray, List.map_cons, List.map_nil]); first | done | rfl | (simp only [List.length_drop, List.length_take]; rfl)) ?_; (with_reducible refine (laws_szTable.calls _ _ l0_0 1048576 t205 _ ?side1 ?side2 A3.out).mono ?_); (case side1 => repeat (first | exact (Kd.C_below HR0_0.out HB.out) | (with_reducible refine Kd.C_alloc ?_ _) | (with_reducible refine Kd.C_drewN ?_ _) | (with_reducible refine Kd.C_drew ?_))); (case side2 => exact HC0_0.out); rintro e w15 ⟨rfl, hb⟩; refine ⟨_, rfl, ?_⟩; have n0_ := Aside0.mk (blk_below (g := gb204) (o := .cells #[.slice A0_0 l0_0.length c0_0] 24 (0, 0)) (by (with_reducible repeat (first | refine blk_drewN ?_ _ | refine blk_drew ?_ | refine blk_alloc ?_ _)); exact BK204.out) hb); have n1_ := Aside0.mk (below_step (by repeat (first | (with_reducible first | exact HB.out | apply below_alloc | apply pw_below_drewN | apply below_drew1 | refine below_set ?_ GE204.out) | exact HB.out)) hb); clear BK204; clear HB; have BK204 := n0_; have HB := n1_; clear n0_ n1_; (try clear hb); (try clear hb2); (try clear hk); (try clear hi); have hcz16_0 : w15.cell? ⟨gb204, 0, none⟩ = some (.slice A0_0 l0_0.length c0_0) := (blk_cell BK204.out 0).trans rfl; have hfz16_0 := blk_frozen BK204.out 0) | ((with_reducible refine gate_callee (f := 6) rfl ?_); refine goesL_ (some 23) rfl rfl Try.func6 (by kernel_rfl) rfl #[.agg #[.slice A0_0 l0_0.length c0_0]] rfl (by (try simp only [List.map_toArray, List.map_cons, List.map_nil]); first | done | rfl | (simp only [List.length_drop, List.length_take]; rfl)) ?_; (with_reducible refine (laws_toTable.calls k _ _ l0_0 t206 _ ?side1 ?side2 A8.out).mono ?_); (case side1 => repeat (first | exact (Kd.C_below HR0_0.out HB.out) | (with_reducible refine Kd.C_alloc ?_ _) | (with_reducible refine Kd.C_drewN ?_ _) | (with_reducible refine Kd.C_drew ?_))); (case side2 => exact HC0_0.out); rintro e w17 ⟨v207, rfl, ho0, hb⟩; refine ⟨_, rfl, ?_⟩; have n0_ := Aside0.mk (Kd.R_lower ho0 (below_size (by repeat (first | (with_reducible first | exact HB.out | apply below_alloc | apply pw_below_drewN | apply below_drew1 | refine below_set ?_ GE204.out) | exact HB.out)))); have n1_ := Aside0.mk (blk_below (g := gb204) (o := .cells #[.slice A0_0 l0_0.length c0_0] 24 (0, 0)) (by (with_reducible repeat (first | refine blk_drewN ?_ _ | refine blk_drew ?_ | refine blk_alloc ?_ _)); exact BK204.out) hb); have n2_ := Aside0.mk (below_step (by repeat (first | (with_reducible first | exact HB.out | apply below_alloc | apply pw_below_drewN | apply below_drew1 | refine below_set ?_ GE204.out) | exact HB.out)) hb); clear BK204; clear HB; have HO208 := n0_; have BK204 := n1_; have HB := n2_; clear n0_ n1_ n2_; (try clear hb); (try clear hb2); (try clear hk); (try clear hi); (try clear ho0); obtain ⟨Ao18, co18, eo18⟩ := Kd.R_slice HO208.out; subst eo18) | ((with_reducible refine gate_callee (f := 5) rfl ?_); refine goesL_ (some 25) rfl rfl Try.func5 (by kernel_rfl) rfl #[.agg #[.slice Ao18 t206.length co18], .int .i64 a1] rfl (by (try simp only [List.map_toArray, List.map_cons, List.map_nil]); first | done | rfl | (simp only [List.length_drop, List.length_take]; rfl)) ?_; (with_reducible refine (spec_RemoveKey.calls k _ _ t206 a1 t209 t212 _ ?side1 ?side2 A9.out).mono ?_); (case side1 => repeat (first | exact (Kd.R_reads' HO208.out).2.2 | (with_reducible refine Kd.C_alloc ?_ _) | (with_reducible refine Kd.C_drewN ?_ _) | (with_reducible refine Kd.C_drew ?_))); (case side2 => exact (Kd.R_reads' HO208.out).2.1); rintro e w19 ⟨v210, rfl, ho0, hb⟩; refine ⟨_, rfl, ?_⟩; have n0_ := Aside0.mk (Kd.R_elder' (by (with_reducible repeat (first | apply Kd.R_alloc | apply Kd.R_drewN | apply Kd.R_drew)); exact HO208.out) (Kd.R_base ho0) hb); have n1_ := Aside0.mk (Kd.R_lower (Kd.R_new' ho0 (Kd.R_lt (by (with_reducible repeat (first | apply Kd.R_alloc | apply Kd.R_drewN | apply Kd.R_drew)); exact HO208.out))) (below_size (by repeat (first | (with_reducible first | exact HB.out | apply below_alloc | apply pw_below_drewN | apply below_drew1 | refine below_set ?_ GE204.out) | exact HB.out)))); have n2_ := Aside0.mk (blk_below (g := gb204) (o := .cells #[.slice A0_0 l0_0.length c0_0] 24 (0, 0)) (by (with_reducible repeat (first | refine blk_drewN ?_ _ | refine blk_drew ?_ | refine blk_alloc ?_ _)); exact BK204.out) hb); have n3_ := Aside0.mk (below_step (by repeat (first | (with_reducible first | exact HB.out | apply below_alloc | apply pw_below_drewN | apply below_drew1 | refine below_set ?_ GE204.out) | exact HB.out)) hb); clear HO208; clear BK204; clear HB; have HO208 := n0_; have HO211 := n1_; have BK204 := n2_; have HB := n3_; clear n0_ n1_ n2_ n3_; (try clear hb); (try clear hb2); (try clear hk); (try clear hi); (try clear ho0)) | ((with_reducible refine gate_dst (N := 6) rfl ?_); refine box_event ?hg (N := 6) ?hd (cs := #[.slice none 0 0]) (t := 26) ?hr ?_; (case hd => rfl); (case hg => rfl); (case hr => first | (go_simp; done) | (go_simp; rfl)); intro gb213 hg w20 hbox hb; have n0_ := Aside0.mk (Kd.R_below (by (with_reducible repeat (first | apply Kd.R_alloc | apply Kd.R_drewN | apply Kd.R_drew)); exact HO208.out) hb); have n1_ := Aside0.mk (Kd.R_below (by (with_reducible repeat (first | apply Kd.R_alloc | apply Kd.R_drewN | apply Kd.R_drew)); exact HO211.out) hb); have n2_ := Aside0.mk (blk_below (g := gb204) (o := .cells #[.slice A0_0 l0_0.length c0_0] 24 (0, 0)) (by (with_reducible repeat (first | refine blk_drewN ?_ _ | refine blk_drew ?_ | refine blk_alloc ?_ _)); exact BK204.out) hb); have n3_ := Aside0.mk (below_step (by repeat (first | (with_reducible first | exact HB.out | apply below_alloc | apply pw_below_drewN | apply below_drew1 | refine below_set ?_ GE204.out) | exact HB.out)) hb); have n4_ := Aside0.mk (hbox); have n5_ := Aside0.mk ((by rw [hg]; exact (below_size (by repeat (first | (with_reducible first | exact HB.out | apply below_alloc | apply pw_below_drewN | apply below_drew1 | refine below_set ?_ GE204.out) | exact HB.out))) : w.heap.size ≤ gb213)); have n6_ := Aside0.mk ((by rw [hg]; exact (below_size (by repeat (first | (with_reducible first | exact HB.out | apply below_alloc | apply pw_below_drewN | apply below_drew1 | refine below_set ?_ GE204.out) | exact HB.out))) : w.heap.size ≤ gb213)); have n7_ := Aside0.mk ((by rw [hg]; exact Nat.ne_of_lt (blk_lt (g := gb204) (o := .cells #[.slice A0_0 l0_0.length c0_0] 24 (0, 0)) (by (with_reducible repeat (first | refine blk_drewN ?_ _ | refine blk_drew ?_ | refine blk_alloc ?_ _)); exact BK204.out)) : gb204 ≠ gb213)); have n8_ := Aside0.mk ((by rw [hg]; exact Nat.ne_of_gt (blk_lt (g := gb204) (o := .cells #[.slice A0_0 l0_0.length c0_0] 24 (0, 0)) (by (with_reducible repeat (first | refine blk_drewN ?_ _ | refine blk_drew ?_ | refine blk_alloc ?_ _)); exact BK204.out)) : gb213 ≠ gb204)); clear HO208; clear HO211; clear BK204; clear HB; have HO208 := n0_; have HO211 := n1_; have BK204 := n2_; have HB := n3_; have BK213 := n4_; have GW213 := n5_; have GE213 := n6_; have NB204_213 := n7_; have NB213_204 := n8_; clear n0_ n1_ n2_ n3_ n4_ n5_ n6_ n7_ n8_; clear hb hbox hg; obtain ⟨Ao21, co21, eo21⟩ := Kd.R_slice HO211.out; subst eo21; have hnb22 := NB213_204.out; have hnc22 := NB204_213.out; have hcz23_0 : w20.cell? ⟨gb213, 0, none⟩ = some (.slice none 0 0) := (blk_cell BK213.out 0).trans rfl; have hfz23_0 := blk_frozen BK213.out 0; have hcz24_0 : w20.cell? ⟨gb204, 0, none⟩ = some (.slice A0_0 l0_0.length c0_0) := (blk_cell BK204.out 0).trans rfl; have hfz24_0 := blk_frozen BK204.out 0) | ((with_reducible refine gate_callee (f := 6) rfl ?_); refine goesL_ (some 29) rfl rfl Try.func6 (by kernel_rfl) rfl #[.agg #[.slice A0_0 l0_0.length c0_0]] rfl (by (try simp only [List.map_toArray, List.map_cons, List.map_nil]); first | done | rfl | (simp only [List.length_drop, List.length_take]; rfl)) ?_; (with_reducible refine (laws_toTable.calls k _ _ l0_0 t214 _ ?side1 ?side2 A10.out).mono ?_); (case side1 => exact Kd.C_below HR0_0.out (by repeat (first | (with_reducible first | exact HB.out | apply below_alloc | apply pw_below_drewN | apply below_drew1 | refine below_set ?_ GE204.out | refine below_set ?_ GE213.out) | exact HB.out))); (case side2 => exact HC0_0.out); rintro e w25 ⟨v215, rfl, ho0, hb⟩; refine ⟨_, rfl, ?_⟩; have n0_ := Aside0.mk (Kd.R_elder' (by (with_reducible repeat (first | apply Kd.R_alloc | apply Kd.R_drewN | apply Kd.R_drew)); exact (Kd.R_mono (Kd.R_far (p := ⟨gb213, 0, none⟩) (Kd.R_types HO208.out BK213.out (by decide)) (fun _ hk => hk.2) (.slice Ao21 t209.length co21)) (fun _ h_ => h_.1))) (Kd.R_base ho0) hb); have n1_ := Aside0.mk (Kd.R_elder' (by (with_reducible repeat (first | apply Kd.R_alloc | apply Kd.R_drewN | apply Kd.R_drew)); exact (Kd.R_mono (Kd.R_far (p := ⟨gb213, 0, none⟩) (Kd.R_types HO211.out BK213.out (by decide)) (fun _ hk => hk.2) (.slice Ao21 t209.length co21)) (fun _ h_ => h_.1))) (Kd.R_base ho0) hb); have n2_ := Aside0.mk (Kd.R_lower (Kd.R_new' (Kd.R_new' ho0 (Kd.R_lt (by (with_reducible repeat (first | apply Kd.R_alloc | apply Kd.R_drewN | apply Kd.R_drew)); exact (Kd.R_mono (Kd.R_far (p := ⟨gb213, 0, none⟩) (Kd.R_types HO208.out BK213.out (by decide)) (fun _ hk => hk.2) (.slice Ao21 t209.length co21)) (fun _ h_ => h_.1))))) (Kd.R_lt (by (with_reducible repeat (first | apply Kd.R_alloc | apply Kd.R_drewN | apply Kd.R_drew)); exact (Kd.R_mono (Kd.R_far (p := ⟨gb213, 0, none⟩) (Kd.R_types HO211.out BK213.out (by decide)) (fun _ hk => hk.2) (.slice Ao21 t209.length co21)) (fun _ h_ => h_.1))))) (below_size (by repeat (first | (with_reducible first | exact HB.out | apply below_alloc | apply pw_below_drewN | apply below_drew1 | refine below_set ?_ GE204.out | refine below_set ?_ GE213.out) | exact HB.out)))); have n3_ := Aside0.mk (blk_below (g := gb204) (o := .cells #[.slice A0_0 l0_0.length c0_0] 24 (0, 0)) (by (with_reducible repeat (first | refine blk_drewN ?_ _ | refine blk_drew ?_ | refine blk_alloc ?_ _)); refine blk_far ?_ NB204_213.out _; (with_reducible repeat (first | refine blk_drewN ?_ _ | refine blk_drew ?_ | refine blk_alloc ?_ _)); exact BK204.out) hb); have n4_ := Aside0.mk (blk_below (g := gb213) (o := .cells #[.slice Ao21 t209.length co21] 26 (0, 0)) (by (with_reducible repeat (first | refine blk_drewN ?_ _ | refine blk_drew ?_ | refine blk_alloc ?_ _)); refine blk_put (cs := #[.slice none 0 0]) ?_ 0 _ rfl; (with_reducible repeat (first | refine blk_drewN ?_ _ | refine blk_drew ?_ | refine blk_alloc ?_ _)); exact BK213.out) hb); have n5_ := Aside0.mk (below_step (by repeat (first | (with_reducible first | exact HB.out | apply below_alloc | apply pw_below_drewN | apply below_drew1 | refine below_set ?_ GE204.out | refine below_set ?_ GE213.out) | exact HB.out)) hb); clear HO208; clear HO211; clear BK204; clear BK213; clear HB; have HO208 := n0_; have HO211 := n1_; have HO216 := n2_; have BK204 := n3_; have BK213 := n4_; have HB := n5_; clear n0_ n1_ n2_ n3_ n4_ n5_; (try clear hb); (try clear hb2); (try clear hk); (try clear hi); (try clear ho0)) | ((with_reducible refine gate_dst (N := 8) rfl ?_); refine box_event ?hg (N := 8) ?hd (cs := #[.slice none 0 0]) (t := 26) ?hr ?_; (case hd => rfl); (case hg => rfl); (case hr => first | (go_simp; done) | (go_simp; rfl)); intro gb217 hg w26 hbox hb; have n0_ := Aside0.mk (Kd.R_below (by (with_reducible repeat (first | apply Kd.R_alloc | apply Kd.R_drewN | apply Kd.R_drew)); exact HO208.out) hb); have n1_ := Aside0.mk (Kd.R_below (by (with_reducible repeat (first | apply Kd.R_alloc | apply Kd.R_drewN | apply Kd.R_drew)); exact HO211.out) hb); have n2_ := Aside0.mk (Kd.R_below (by (with_reducible repeat (first | apply Kd.R_alloc | apply Kd.R_drewN | apply Kd.R_drew)); exact HO216.out) hb); have n3_ := Aside0.mk (blk_below (g := gb204) (o := .cells #[.slice A0_0 l0_0.length c0_0] 24 (0, 0)) (by (with_reducible repeat (first | refine blk_drewN ?_ _ | refine blk_drew ?_ | refine blk_alloc ?_ _)); exact BK204.out) hb); have n4_ := Aside0.mk (blk_below (g := gb213) (o := .cells #[.slice Ao21 t209.length co21] 26 (0, 0)) (by (with_reducible repeat (first | refine blk_drewN ?_ _ | refine blk_drew ?_ | refine blk_alloc ?_ _)); exact BK213.out) hb); have n5_ := Aside0.mk (below_step (by repeat (first | (with_reducible first | exact HB.out | apply below_alloc | apply pw_below_drewN | apply below_drew1 | refine below_set ?_ GE204.out | refine below_set ?_ GE213.out) | exact HB.out)) hb); have n6_ := Aside0.mk (hbox); have n7_ := Aside0.mk ((by rw [hg]; exact (below_size (by repeat (first | (with_reducible first | exact HB.out | apply below_alloc | apply pw_below_drewN | apply below_drew1 | refine below_set ?_ GE204.out | refine below_set ?_ GE213.out) | exact HB.out))) : w.heap.size ≤ gb217)); have n8_ := Aside0.mk ((by rw [hg]; exact (below_size (by repeat (first | (with_reducible first | exact HB.out | apply below_alloc | apply pw_below_drewN | apply below_drew1 | refine below_set ?_ GE204.out | refine below_set ?_ GE213.out) | exact HB.out))) : w.heap.size ≤ gb217)); have n9_ := Aside0.mk ((by rw [hg]; exact Nat.ne_of_lt (blk_lt (g := gb204) (o := .cells #[.slice A0_0 l0_0.length c0_0] 24 (0, 0)) (by (with_reducible repeat (first | refine blk_drewN ?_ _ | refine blk_drew ?_ | refine blk_alloc ?_ _)); exact BK204.out)) : gb204 ≠ gb217)); have n10_ := Aside0.mk ((by rw [hg]; exact Nat.ne_of_gt (blk_lt (g := gb204) (o := .cells #[.slice A0_0 l0_0.length c0_0] 24 (0, 0)) (by (with_reducible repeat (first | refine blk_drewN ?_ _ | refine blk_drew ?_ | refine blk_alloc ?_ _)); exact BK204.out)) : gb217 ≠ gb204)); have n11_ := Aside0.mk ((by rw [hg]; exact Nat.ne_of_lt (blk_lt (g := gb213) (o := .cells #[.slice Ao21 t209.length co21] 26 (0, 0)) (by (with_reducible repeat (first | refine blk_drewN ?_ _ | refine blk_drew ?_ | refine blk_alloc ?_ _)); exact BK213.out)) : gb213 ≠ gb217)); have n12_ := Aside0.mk ((by rw [hg]; exact Nat.ne_of_gt (blk_lt (g := gb213) (o := .cells #[.slice Ao21 t209.length co21] 26 (0, 0)) (by (with_reducible repeat (first | refine blk_drewN ?_ _ | refine blk_drew ?_ | refine blk_alloc ?_ _)); exact BK213.out)) : gb217 ≠ gb213)); clear HO208; clear HO211; clear HO216; clear BK204; clear BK213; clear HB; have HO208 := n0_; have HO211 := n1_; have HO216 := n2_; have BK204 := n3_; have BK213 := n4_; have HB := n5_; have BK217 := n6_; have GW217 := n7_; have GE217 := n8_; have NB204_217 := n9_; have NB217_204 := n10_; have NB213_217 := n11_; have NB217_213 := n12_; clear n0_ n1_ n2_ n3_ n4_ n5_ n6_ n7_ n8_ n9_ n10_ n11_ n12_; clear hb hbox hg; obtain ⟨Ao27, co27, eo27⟩ := Kd.R_slice HO216.out; subst eo27; have hnb28 := NB217_204.out; have hnc28 := NB204_217.out; have hnb29 := NB217_213.out; have hnc29 := NB213_217.out; have hcz30_0 : w26.cell? ⟨gb217, 0, none⟩ = some (.slice none 0 0) := (blk_cell BK217.out 0).trans rfl; have hfz30_0 := blk_frozen BK217.out 0) | ((with_reducible refine gate_callee (f := 7) rfl ?_); refine goesL_ (some 33) rfl rfl Try.func7 (by kernel_rfl) rfl #[.agg #[.slice Ao27 t214.length co27], .int .i64 a1] rfl (by (try simp only [List.map_toArray, List.map_cons, List.map_nil]); first | done | rfl | (simp only [List.length_drop, List.length_take]; rfl)) ?_; (with_reducible refine (impl_RemoveKey.calls k _ _ t214 a1 t218 t221 _ ?side1 ?side2 A11.out).mono ?_); (case side1 => refine (Kd.R_reads' (e := 3) (base := w.heap.size) (ok := fun k_ => ((True ∧ some k_ ≠ (.slice Ao18 t206.length co18 : Value).ownBlock) ∧ some k_ ≠ (.slice Ao21 t209.length co21 : Value).ownBlock)) (n := t214.length) (c := co27) ?_).2.2; exact (by (with_reducible repeat (first | apply Kd.R_alloc | apply Kd.R_drewN | apply Kd.R_drew)); exact (Kd.R_mono (Kd.R_far (p := ⟨gb217, 0, none⟩) (Kd.R_types HO216.out BK217.out (by decide)) (fun _ hk => hk.2) (.slice Ao27 t214.length co27)) (fun _ h_ => h_.1)))); (case side2 => exact (Kd.R_reads' HO216.out).2.1); rintro e w31 ⟨v219, rfl, ho0, hb⟩; refine ⟨_, rfl, ?_⟩; have n0_ := Aside0.mk (Kd.R_elder' (by (with_reducible repeat (first | apply Kd.R_alloc | apply Kd.R_drewN | apply Kd.R_drew)); exact (Kd.R_mono (Kd.R_far (p := ⟨gb217, 0, none⟩) (Kd.R_types HO208.out BK217.out (by decide)) (fun _ hk => hk.2) (.slice Ao27 t214.length co27)) (fun _ h_ => h_.1))) (Kd.R_base ho0) hb); have n1_ := Aside0.mk (Kd.R_elder' (by (with_reducible repeat (first | apply Kd.R_alloc | apply Kd.R_drewN | apply Kd.R_drew)); exact (Kd.R_mono (Kd.R_far (p := ⟨gb217, 0, none⟩) (Kd.R_types HO211.out BK217.out (by decide)) (fun _ hk => hk.2) (.slice Ao27 t214.length co27)) (fun _ h_ => h_.1))) (Kd.R_base ho0) hb); have n2_ := Aside0.mk (Kd.R_elder' (by (with_reducible repeat (first | apply Kd.R_alloc | apply Kd.R_drewN | apply Kd.R_drew)); exact (Kd.R_mono (Kd.R_far (p := ⟨gb217, 0, none⟩) (Kd.R_types HO216.out BK217.out (by decide)) (fun _ hk => hk.2) (.slice Ao27 t214.length co27)) (fun _ h_ => h_.1))) (Kd.R_base ho0) hb); have n3_ := Aside0.mk (Kd.R_lower (Kd.R_new' (Kd.R_new' (Kd.R_new' ho0 (Kd.R_lt (by (with_reducible repeat (first | apply Kd.R_alloc | apply Kd.R_drewN | apply Kd.R_drew)); exact (Kd.R_mono (Kd.R_far (p := ⟨gb217, 0, none⟩) (Kd.R_types HO208.out BK217.out (by decide)) (fun _ hk => hk.2) (.slice Ao27 t214.length co27)) (fun _ h_ => h_.1))))) (Kd.R_lt (by (with_reducible repeat (first | apply Kd.R_alloc | apply Kd.R_drewN | apply Kd.R_drew)); exact (Kd.R_mono (Kd.R_far (p := ⟨gb217, 0, none⟩) (Kd.R_types HO211.out BK217.out (by decide)) (fun _ hk => hk.2) (.slice Ao27 t214.length co27)) (fun _ h_ => h_.1))))) (Kd.R_lt (by (with_reducible repeat (first | apply Kd.R_alloc | apply Kd.R_drewN | apply Kd.R_drew)); exact (Kd.R_mono (Kd.R_far (p := ⟨gb217, 0, none⟩) (Kd.R_types HO216.out BK217.out (by decide)) (fun _ hk => hk.2) (.slice Ao27 t214.length co27)) (fun _ h_ => h_.1))))) (below_size (by repeat (first | (with_reducible first | exact HB.out | apply below_alloc | apply pw_below_drewN | apply below_drew1 | refine below_set ?_ GE204.out | refine below_set ?_ GE213.out | refine below_set ?_ GE217.out) | exact HB.out)))); have n4_ := Aside0.mk (blk_below (g := gb204) (o := .cells #[.slice A0_0 l0_0.length c0_0] 24 (0, 0)) (by (with_reducible repeat (first | refine blk_drewN ?_ _ | refine blk_drew ?_ | refine blk_alloc ?_ _)); refine blk_far ?_ NB204_217.out _; (with_reducible repeat (first | refine blk_drewN ?_ _ | refine blk_drew ?_ | refine blk_alloc ?_ _)); exact BK204.out) hb); have n5_ := Aside0.mk (blk_below (g := gb213) (o := .cells #[.slice Ao21 t209.length co21] 26 (0, 0)) (by (with_reducible repeat (first | refine blk_drewN ?_ _ | refine blk_drew ?_ | refine blk_alloc ?_ _)); refine blk_far ?_ NB213_217.out _; (with_reducible repeat (first | refine blk_drewN ?_ _ | refine blk_drew ?_ | refine blk_alloc ?_ _)); exact BK213.out) hb); have n6_ := Aside0.mk (blk_below (g := gb217) (o := .cells #[.slice Ao27 t214.length co27] 26 (0, 0)) (by (with_reducible repeat (first | refine blk_drewN ?_ _ | refine blk_drew ?_ | refine blk_alloc ?_ _)); refine blk_put (cs := #[.slice none 0 0]) ?_ 0 _ rfl; (with_reducible repeat (first | refine blk_drewN ?_ _ | refine blk_drew ?_ | refine blk_alloc ?_ _)); exact BK217.out) hb); have n7_ := Aside0.mk (below_step (by repeat (first | (with_reducible first | exact HB.out | apply below_alloc | apply pw_below_drewN | apply below_drew1 | refine below_set ?_ GE204.out | refine below_set ?_ GE213.out | refine below_set ?_ GE217.out) | exact HB.out)) hb); clear HO208; clear HO211; clear HO216; clear BK204; clear BK213; clear BK217; clear HB; have HO208 := n0_; have HO211 := n1_; have HO216 := n2_; have HO220 := n3_; have BK204 := n4_; have BK213 := n5_; have BK217 := n6_; have HB := n7_; clear n0_ n1_ n2_ n3_ n4_ n5_ n6_ n7_; (try clear hb); (try clear hb2); (try clear hk); (try clear hi); (try clear ho0)) | ((with_reducible refine gate_dst (N := 9) rfl ?_); refine box_event ?hg (N := 9) ?hd (cs := #[.slice none 0 0]) (t := 26) ?hr ?_; (case hd => rfl); (case hg => rfl); (case hr => first | (go_simp; done) | (go_simp; rfl)); intro gb222 hg w32 hbox hb; have n0_ := Aside0.mk (Kd.R_below (by (with_reducible repeat (first | apply Kd.R_alloc | apply Kd.R_drewN | apply Kd.R_drew)); exact HO208.out) hb); have n1_ := Aside0.mk (Kd.R_below (by (with_reducible repeat (first | apply Kd.R_alloc | apply Kd.R_drewN | apply Kd.R_drew)); exact HO211.out) hb); have n2_ := Aside0.mk (Kd.R_below (by (with_reducible repeat (first | apply Kd.R_alloc | apply Kd.R_drewN | apply Kd.R_drew)); exact HO216.out) hb); have n3_ := Aside0.mk (Kd.R_below (by (with_reducible repeat (first | apply Kd.R_alloc | apply Kd.R_drewN | apply Kd.R_drew)); exact HO220.out) hb); have n4_ := Aside0.mk (blk_below (g := gb204) (o := .cells #[.slice A0_0 l0_0.length c0_0] 24 (0, 0)) (by (with_reducible repeat (first | refine blk_drewN ?_ _ | refine blk_drew ?_ | refine blk_alloc ?_ _)); exact BK204.out) hb); have n5_ := Aside0.mk (blk_below (g := gb213) (o := .cells #[.slice Ao21 t209.length co21] 26 (0, 0)) (by (with_reducible repeat (first | refine blk_drewN ?_ _ | refine blk_drew ?_ | refine blk_alloc ?_ _)); exact BK213.out) hb); have n6_ := Aside0.mk (blk_below (g := gb217) (o := .cells #[.slice Ao27 t214.length co27] 26 (0, 0)) (by (with_reducible repeat (first | refine blk_drewN ?_ _ | refine blk_drew ?_ | refine blk_alloc ?_ _)); exact BK217.out) hb); have n7_ := Aside0.mk (below_step (by repeat (first | (with_reducible first | exact HB.out | apply below_alloc | apply pw_below_drewN | apply below_drew1 | refine below_set ?_ GE204.out | refine below_set ?_ GE213.out | refine below_set ?_ GE217.out) | exact HB.out)) hb); have n8_ := Aside0.mk (hbox); have n9_ := Aside0.mk ((by rw [hg]; exact (below_size (by repeat (first | (with_reducible first | exact HB.out | apply below_alloc | apply pw_below_drewN | apply below_drew1 | refine below_set ?_ GE204.out | refine below_set ?_ GE213.out | refine below_set ?_ GE217.out) | exact HB.out))) : w.heap.size ≤ gb222)); have n10_ := Aside0.mk ((by rw [hg]; exact (below_size (by repeat (first | (with_reducible first | exact HB.out | apply below_alloc | apply pw_below_drewN | apply below_drew1 | refine below_set ?_ GE204.out | refine below_set ?_ GE213.out | refine below_set ?_ GE217.out) | exact HB.out))) : w.heap.size ≤ gb222)); have n11_ := Aside0.mk ((by rw [hg]; exact Nat.ne_of_lt (blk_lt (g := gb204) (o := .cells #[.slice A0_0 l0_0.length c0_0] 24 (0, 0)) (by (with_reducible repeat (first | refine blk_drewN ?_ _ | refine blk_drew ?_ | refine blk_alloc ?_ _)); exact BK204.out)) : gb204 ≠ gb222)); have n12_ := Aside0.mk ((by rw [hg]; exact Nat.ne_of_gt (blk_lt (g := gb204) (o := .cells #[.slice A0_0 l0_0.length c0_0] 24 (0, 0)) (by (with_reducible repeat (first | refine blk_drewN ?_ _ | refine blk_drew ?_ | refine blk_alloc ?_ _)); exact BK204.out)) : gb222 ≠ gb204)); have n13_ := Aside0.mk ((by rw [hg]; exact Nat.ne_of_lt (blk_lt (g := gb213) (o := .cells #[.slice Ao21 t209.length co21] 26 (0, 0)) (by (with_reducible repeat (first | refine blk_drewN ?_ _ | refine blk_drew ?_ | refine blk_alloc ?_ _)); exact BK213.out)) : gb213 ≠ gb222)); have n14_ := Aside0.mk ((by rw [hg]; exact Nat.ne_of_gt (blk_lt (g := gb213) (o := .cells #[.slice Ao21 t209.length co21] 26 (0, 0)) (by (with_reducible repeat (first | refine blk_drewN ?_ _ | refine blk_drew ?_ | refine blk_alloc ?_ _)); exact BK213.out)) : gb222 ≠ gb213)); have n15_ := Aside0.mk ((by rw [hg]; exact Nat.ne_of_lt (blk_lt (g := gb217) (o := .cells #[.slice Ao27 t214.length co27] 26 (0, 0)) (by (with_reducible repeat (first | refine blk_drewN ?_ _ | refine blk_drew ?_ | refine blk_alloc ?_ _)); exact BK217.out)) : gb217 ≠ gb222)); have n16_ := Aside0.mk ((by rw [hg]; exact Nat.ne_of_gt (blk_lt (g := gb217) (o := .cells #[.slice Ao27 t214.length co27] 26 (0, 0)) (by (with_reducible repeat (first | refine blk_drewN ?_ _ | refine blk_drew ?_ | refine blk_alloc ?_ _)); exact BK217.out)) : gb222 ≠ gb217)); clear HO208; clear HO211; clear HO216; clear HO220; clear BK204; clear BK213; clear BK217; clear HB; have HO208 := n0_; have HO211 := n1_; have HO216 := n2_; have HO220 := n3_; have BK204 := n4_; have BK213 := n5_; have BK217 := n6_; have HB := n7_; have BK222 := n8_; have GW222 := n9_; have GE222 := n10_; have NB204_222 := n11_; have NB222_204 := n12_; have NB213_222 := n13_; have NB222_213 := n14_; have NB217_222 := n15_; have NB222_217 := n16_; clear n0_ n1_ n2_ n3_ n4_ n5_ n6_ n7_ n8_ n9_ n10_ n11_ n12_ n13_ n14_ n15_ n16_; clear hb hbox hg; obtain ⟨Ao33, co33, eo33⟩ := Kd.R_slice HO220.out; subst eo33; have hnb34 := NB222_204.out; have hnc34 := NB204_222.out; have hnb35 := NB222_213.out; have hnc35 := NB213_222.out; have hnb36 := NB222_217.out; have hnc36 := NB217_222.out; have hcz37_0 : w32.cell? ⟨gb222, 0, none⟩ = some (.slice none 0 0) := (blk_cell BK222.out 0).trans rfl; have hfz37_0 := blk_frozen BK222.out 0))
    (try simp only [Act.put, List.setIfInBounds_toArray, List.set_cons_zero, List.set_cons_succ])
    go_cut [44] (fun v44 wc => ∃ (kq : Nat) (x44_11 : Bool), v44 = .bool x44_11 ∧ Aside0 (laws_FnExactRemoveKey.j0 kq a1 t212 t221 x44_11 l0_0 t209 t214 t218 = some r) ∧ Aside0 (kq ≤ k) ∧ Aside0 (Kd.R (Kd.int .i64) 3 wc w.heap.size (fun k_ => some k_ ≠ ((.slice Ao27 t214.length co27) : Value).ownBlock ∧ some k_ ≠ ((.slice Ao33 t218.length co33) : Value).ownBlock) (.slice Ao21 t209.length co21) t209) ∧ Aside0 (Kd.R (Kd.int .i64) 3 wc w.heap.size (fun k_ => some k_ ≠ ((.slice Ao21 t209.length co21) : Value).ownBlock ∧ some k_ ≠ ((.slice Ao33 t218.length co33) : Value).ownBlock) (.slice Ao27 t214.length co27) t214) ∧ Aside0 (Kd.R (Kd.int .i64) 3 wc w.heap.size (fun k_ => some k_ ≠ ((.slice Ao21 t209.length co21) : Value).ownBlock ∧ some k_ ≠ ((.slice Ao27 t214.length co27) : Value).ownBlock) (.slice Ao33 t218.length co33) t218) ∧ Aside0 (wc.heap[gb204]? = some (.cells #[(.slice A0_0 l0_0.length c0_0)] 24 (0, 0))) ∧ Aside0 (wc.heap[gb213]? = some (.cells #[(.slice Ao21 t209.length co21)] 26 (0, 0))) ∧ Aside0 (wc.heap[gb217]? = some (.cells #[(.slice Ao27 t214.length co27)] 26 (0, 0))) ∧ Aside0 (wc.heap[gb222]? = some (.cells #[(.slice Ao33 t218.length co33)] 26 (0, 0))) ∧ Aside0 (Below w.heap.size w wc))
    case first =>
      have H := HC12.out
      clear HC12
      replace H := Option.bind_eq_some_iff.mp H
      obtain ⟨t223, A380, H⟩ := H
      replace H : (if t223 = true then (laws_FnExactRemoveKey.j0 k a1 t212 t221 (t221 != t212) l0_0 t209 t214 t218) else (laws_FnExactRemoveKey.j0 k a1 t212 t221 true l0_0 t209 t214 t218)) = some r := H
      have A38 := Aside0.mk A380
      clear A380
      by_cases c39 : t223 = true
      · subst c39
        have H1 : (laws_FnExactRemoveKey.j0 k a1 t212 t221 (t221 != t212) l0_0 t209 t214 t218) = some r := by rw [if_pos rfl] at H; exact H
        clear H
        have H := H1
        clear H1
        have H' := Aside0.mk H
        clear H
        have hnb40 := NB222_204.out
        have hnc40 := NB204_222.out
        have hnb41 := NB222_213.out
        have hnc41 := NB213_222.out
        have hnb42 := NB222_217.out
        have hnc42 := NB217_222.out
        have hcz43_0 : w32.cell? ⟨gb222, 0, none⟩ = some (.slice none 0 0) := (blk_cell BK222.out 0).trans rfl
        have hfz43_0 := blk_frozen BK222.out 0
        have hnb44 := NB213_204.out
        have hnc44 := NB204_213.out
        have hnb45 := NB213_217.out
        have hnc45 := NB217_213.out
        have hcz46_0 : w32.cell? ⟨gb213, 0, none⟩ = some (.slice Ao21 t209.length co21) := (blk_cell BK213.out 0).trans rfl
        have hfz46_0 := blk_frozen BK213.out 0
        go_wp2_with (first | ((with_reducible refine gate_callee (f := 8) rfl ?_); refine goesL_ (some 38) rfl rfl Try.func8 (by kernel_rfl) rfl #[.agg #[.slice Ao33 t218.length co33], .agg #[.slice Ao21 t209.length co21]] rfl (by (try simp only [List.map_toArray, List.map_cons, List.map_nil]); first | done | rfl | (simp only [List.length_drop, List.length_take]; rfl)) ?_; (with_reducible refine (laws_eqTable.calls k _ _ t218 _ _ t209 true _ ?side1 ?side2 ?side3 ?side4 A38.out).mono ?_); (case side1 => refine (Kd.R_reads' (e := 3) (base := w.heap.size) (ok := fun k_ => (((True ∧ some k_ ≠ (.slice Ao18 t206.length co18 : Value).ownBlock) ∧ some k_ ≠ (.slice Ao21 t209.length co21 : Value).ownBlock) ∧ some k_ ≠ (.slice Ao27 t214.length co27 : Value).ownBlock)) (n := t218.length) (c := co33) ?_).2.2; exact (by (with_reducible repeat (first | apply Kd.R_alloc | apply Kd.R_drewN | apply Kd.R_drew)); exact (Kd.R_mono (Kd.R_far (p := ⟨gb222, 0, none⟩) (Kd.R_types HO220.out BK222.out (by decide)) (fun _ hk => hk.2) (.slice Ao33 t218.length co33)) (fun _ h_ => h_.1)))); (case side2 => exact (Kd.R_reads' HO220.out).2.1); (case side3 => refine (Kd.R_reads' (e := 3) (base := w.heap.size) (ok := fun k_ => (((True ∧ some k_ ≠ (.slice Ao18 t206.length co18 : Value).ownBlock) ∧ some k_ ≠ (.slice Ao27 t214.length co27 : Value).ownBlock) ∧ some k_ ≠ (.slice Ao33 t218.length co33 : Value).ownBlock)) (n := t209.length) (c := co21) ?_).2.2; exact (by (with_reducible repeat (first | apply Kd.R_alloc | apply Kd.R_drewN | apply Kd.R_drew)); exact (Kd.R_mono (Kd.R_far (p := ⟨gb222, 0, none⟩) (Kd.R_types HO211.out BK222.out (by decide)) (fun _ hk => hk.2) (.slice Ao33 t218.length co33)) (fun _ h_ => h_.1)))); (case side4 => exact (Kd.R_reads' HO211.out).2.1); rintro e w47 ⟨rfl, hb⟩; refine ⟨_, rfl, ?_⟩; have n0_ := Aside0.mk (Kd.R_below (by (with_reducible repeat (first | apply Kd.R_alloc | apply Kd.R_drewN | apply Kd.R_drew)); exact (Kd.R_mono (Kd.R_far (p := ⟨gb222, 0, none⟩) (Kd.R_types HO208.out BK222.out (by decide)) (fun _ hk => hk.2) (.slice Ao33 t218.length co33)) (fun _ h_ => h_.1))) hb); have n1_ := Aside0.mk (Kd.R_below (by (with_reducible repeat (first | apply Kd.R_alloc | apply Kd.R_drewN | apply Kd.R_drew)); exact (Kd.R_mono (Kd.R_far (p := ⟨gb222, 0, none⟩) (Kd.R_types HO211.out BK222.out (by decide)) (fun _ hk => hk.2) (.slice Ao33 t218.length co33)) (fun _ h_ => h_.1))) hb); have n2_ := Aside0.mk (Kd.R_below (by (with_reducible repeat (first | apply Kd.R_alloc | apply Kd.R_drewN | apply Kd.R_drew)); exact (Kd.R_mono (Kd.R_far (p := ⟨gb222, 0, none⟩) (Kd.R_types HO216.out BK222.out (by decide)) (fun _ hk => hk.2) (.slice Ao33 t218.length co33)) (fun _ h_ => h_.1))) hb); have n3_ := Aside0.mk (Kd.R_below (by (with_reducible repeat (first | apply Kd.R_alloc | apply Kd.R_drewN | apply Kd.R_drew)); exact (Kd.R_mono (Kd.R_far (p := ⟨gb222, 0, none⟩) (Kd.R_types HO220.out BK222.out (by decide)) (fun _ hk => hk.2) (.slice Ao33 t218.length co33)) (fun _ h_ => h_.1))) hb); have n4_ := Aside0.mk (blk_below (g := gb204) (o := .cells #[.slice A0_0 l0_0.length c0_0] 24 (0, 0)) (by (with_reducible repeat (first | refine blk_drewN ?_ _ | refine blk_drew ?_ | refine blk_alloc ?_ _)); refine blk_far ?_ NB204_222.out _; (with_reducible repeat (first | refine blk_drewN ?_ _ | refine blk_drew ?_ | refine blk_alloc ?_ _)); exact BK204.out) hb); have n5_ := Aside0.mk (blk_below (g := gb213) (o := .cells #[.slice Ao21 t209.length co21] 26 (0, 0)) (by (with_reducible repeat (first | refine blk_drewN ?_ _ | refine blk_drew ?_ | refine blk_alloc ?_ _)); refine blk_far ?_ NB213_222.out _; (with_reducible repeat (first | refine blk_drewN ?_ _ | refine blk_drew ?_ | refine blk_alloc ?_ _)); exact BK213.out) hb); have n6_ := Aside0.mk (blk_below (g := gb217) (o := .cells #[.slice Ao27 t214.length co27] 26 (0, 0)) (by (with_reducible repeat (first | refine blk_drewN ?_ _ | refine blk_drew ?_ | refine blk_alloc ?_ _)); refine blk_far ?_ NB217_222.out _; (with_reducible repeat (first | refine blk_drewN ?_ _ | refine blk_drew ?_ | refine blk_alloc ?_ _)); exact BK217.out) hb); have n7_ := Aside0.mk (blk_below (g := gb222) (o := .cells #[.slice Ao33 t218.length co33] 26 (0, 0)) (by (with_reducible repeat (first | refine blk_drewN ?_ _ | refine blk_drew ?_ | refine blk_alloc ?_ _)); refine blk_put (cs := #[.slice none 0 0]) ?_ 0 _ rfl; (with_reducible repeat (first | refine blk_drewN ?_ _ | refine blk_drew ?_ | refine blk_alloc ?_ _)); exact BK222.out) hb); have n8_ := Aside0.mk (below_step (by repeat (first | (with_reducible first | exact HB.out | apply below_alloc | apply pw_below_drewN | apply below_drew1 | refine below_set ?_ GE204.out | refine below_set ?_ GE213.out | refine below_set ?_ GE217.out | refine below_set ?_ GE222.out) | exact HB.out)) hb); clear HO208; clear HO211; clear HO216; clear HO220; clear BK204; clear BK213; clear BK217; clear BK222; clear HB; have HO208 := n0_; have HO211 := n1_; have HO216 := n2_; have HO220 := n3_; have BK204 := n4_; have BK213 := n5_; have BK217 := n6_; have BK222 := n7_; have HB := n8_; clear n0_ n1_ n2_ n3_ n4_ n5_ n6_ n7_ n8_; (try clear hb); (try clear hb2); (try clear hk); (try clear hi)))
        go_meet
        case rel => exact ⟨_, ((t221 != t212)), (by first | rfl | (simp; done) | (simp [*]; done)), H', ⟨by first | omega | exact Nat.le_refl _⟩, ⟨by (with_reducible repeat (first | apply Kd.R_alloc | apply Kd.R_drewN | apply Kd.R_drew)); exact Kd.R_mono HO211.out (fun _ hk => ⟨hk.1.2, hk.2⟩)⟩, ⟨by (with_reducible repeat (first | apply Kd.R_alloc | apply Kd.R_drewN | apply Kd.R_drew)); exact Kd.R_mono HO216.out (fun _ hk => ⟨hk.1.2, hk.2⟩)⟩, ⟨by (with_reducible repeat (first | apply Kd.R_alloc | apply Kd.R_drewN | apply Kd.R_drew)); exact Kd.R_mono HO220.out (fun _ hk => ⟨hk.1.2, hk.2⟩)⟩, ⟨by (with_reducible repeat (first | refine blk_drewN ?_ _ | refine blk_drew ?_ | refine blk_alloc ?_ _)); exact BK204.out⟩, ⟨by (with_reducible repeat (first | refine blk_drewN ?_ _ | refine blk_drew ?_ | refine blk_alloc ?_ _)); exact BK213.out⟩, ⟨by (with_reducible repeat (first | refine blk_drewN ?_ _ | refine blk_drew ?_ | refine blk_alloc ?_ _)); exact BK217.out⟩, ⟨by (with_reducible repeat (first | refine blk_drewN ?_ _ | refine blk_drew ?_ | refine blk_alloc ?_ _)); exact BK222.out⟩, ⟨by repeat (first | (with_reducible first | exact HB.out | apply below_alloc | apply pw_below_drewN | apply below_drew1 | refine below_set ?_ GE204.out | refine below_set ?_ GE213.out | refine below_set ?_ GE217.out | refine below_set ?_ GE222.out) | exact HB.out)⟩⟩
      · replace c39 := Bool.eq_false_iff.mpr c39
        subst c39
        have H1 : (laws_FnExactRemoveKey.j0 k a1 t212 t221 true l0_0 t209 t214 t218) = some r := by rw [if_neg (show ¬ (false = true) by decide)] at H; exact H
        clear H
        have H := H1
        clear H1
        have H' := Aside0.mk H
        clear H
        have hnb48 := NB222_204.out
        have hnc48 := NB204_222.out
        have hnb49 := NB222_213.out
        have hnc49 := NB213_222.out
        have hnb50 := NB222_217.out
        have hnc50 := NB217_222.out
        have hcz51_0 : w32.cell? ⟨gb222, 0, none⟩ = some (.slice none 0 0) := (blk_cell BK222.out 0).trans rfl
        have hfz51_0 := blk_frozen BK222.out 0
        have hnb52 := NB213_204.out
        have hnc52 := NB204_213.out
        have hnb53 := NB213_217.out
        have hnc53 := NB217_213.out
        have hcz54_0 : w32.cell? ⟨gb213, 0, none⟩ = some (.slice Ao21 t209.length co21) := (blk_cell BK213.out 0).trans rfl
        have hfz54_0 := blk_frozen BK213.out 0
        go_wp2_with (first | ((with_reducible refine gate_callee (f := 8) rfl ?_); refine goesL_ (some 38) rfl rfl Try.func8 (by kernel_rfl) rfl #[.agg #[.slice Ao33 t218.length co33], .agg #[.slice Ao21 t209.length co21]] rfl (by (try simp only [List.map_toArray, List.map_cons, List.map_nil]); first | done | rfl | (simp only [List.length_drop, List.length_take]; rfl)) ?_; (with_reducible refine (laws_eqTable.calls k _ _ t218 _ _ t209 false _ ?side1 ?side2 ?side3 ?side4 A38.out).mono ?_); (case side1 => refine (Kd.R_reads' (e := 3) (base := w.heap.size) (ok := fun k_ => (((True ∧ some k_ ≠ (.slice Ao18 t206.length co18 : Value).ownBlock) ∧ some k_ ≠ (.slice Ao21 t209.length co21 : Value).ownBlock) ∧ some k_ ≠ (.slice Ao27 t214.length co27 : Value).ownBlock)) (n := t218.length) (c := co33) ?_).2.2; exact (by (with_reducible repeat (first | apply Kd.R_alloc | apply Kd.R_drewN | apply Kd.R_drew)); exact (Kd.R_mono (Kd.R_far (p := ⟨gb222, 0, none⟩) (Kd.R_types HO220.out BK222.out (by decide)) (fun _ hk => hk.2) (.slice Ao33 t218.length co33)) (fun _ h_ => h_.1)))); (case side2 => exact (Kd.R_reads' HO220.out).2.1); (case side3 => refine (Kd.R_reads' (e := 3) (base := w.heap.size) (ok := fun k_ => (((True ∧ some k_ ≠ (.slice Ao18 t206.length co18 : Value).ownBlock) ∧ some k_ ≠ (.slice Ao27 t214.length co27 : Value).ownBlock) ∧ some k_ ≠ (.slice Ao33 t218.length co33 : Value).ownBlock)) (n := t209.length) (c := co21) ?_).2.2; exact (by (with_reducible repeat (first | apply Kd.R_alloc | apply Kd.R_drewN | apply Kd.R_drew)); exact (Kd.R_mono (Kd.R_far (p := ⟨gb222, 0, none⟩) (Kd.R_types HO211.out BK222.out (by decide)) (fun _ hk => hk.2) (.slice Ao33 t218.length co33)) (fun _ h_ => h_.1)))); (case side4 => exact (Kd.R_reads' HO211.out).2.1); rintro e w55 ⟨rfl, hb⟩; refine ⟨_, rfl, ?_⟩; have n0_ := Aside0.mk (Kd.R_below (by (with_reducible repeat (first | apply Kd.R_alloc | apply Kd.R_drewN | apply Kd.R_drew)); exact (Kd.R_mono (Kd.R_far (p := ⟨gb222, 0, none⟩) (Kd.R_types HO208.out BK222.out (by decide)) (fun _ hk => hk.2) (.slice Ao33 t218.length co33)) (fun _ h_ => h_.1))) hb); have n1_ := Aside0.mk (Kd.R_below (by (with_reducible repeat (first | apply Kd.R_alloc | apply Kd.R_drewN | apply Kd.R_drew)); exact (Kd.R_mono (Kd.R_far (p := ⟨gb222, 0, none⟩) (Kd.R_types HO211.out BK222.out (by decide)) (fun _ hk => hk.2) (.slice Ao33 t218.length co33)) (fun _ h_ => h_.1))) hb); have n2_ := Aside0.mk (Kd.R_below (by (with_reducible repeat (first | apply Kd.R_alloc | apply Kd.R_drewN | apply Kd.R_drew)); exact (Kd.R_mono (Kd.R_far (p := ⟨gb222, 0, none⟩) (Kd.R_types HO216.out BK222.out (by decide)) (fun _ hk => hk.2) (.slice Ao33 t218.length co33)) (fun _ h_ => h_.1))) hb); have n3_ := Aside0.mk (Kd.R_below (by (with_reducible repeat (first | apply Kd.R_alloc | apply Kd.R_drewN | apply Kd.R_drew)); exact (Kd.R_mono (Kd.R_far (p := ⟨gb222, 0, none⟩) (Kd.R_types HO220.out BK222.out (by decide)) (fun _ hk => hk.2) (.slice Ao33 t218.length co33)) (fun _ h_ => h_.1))) hb); have n4_ := Aside0.mk (blk_below (g := gb204) (o := .cells #[.slice A0_0 l0_0.length c0_0] 24 (0, 0)) (by (with_reducible repeat (first | refine blk_drewN ?_ _ | refine blk_drew ?_ | refine blk_alloc ?_ _)); refine blk_far ?_ NB204_222.out _; (with_reducible repeat (first | refine blk_drewN ?_ _ | refine blk_drew ?_ | refine blk_alloc ?_ _)); exact BK204.out) hb); have n5_ := Aside0.mk (blk_below (g := gb213) (o := .cells #[.slice Ao21 t209.length co21] 26 (0, 0)) (by (with_reducible repeat (first | refine blk_drewN ?_ _ | refine blk_drew ?_ | refine blk_alloc ?_ _)); refine blk_far ?_ NB213_222.out _; (with_reducible repeat (first | refine blk_drewN ?_ _ | refine blk_drew ?_ | refine blk_alloc ?_ _)); exact BK213.out) hb); have n6_ := Aside0.mk (blk_below (g := gb217) (o := .cells #[.slice Ao27 t214.length co27] 26 (0, 0)) (by (with_reducible repeat (first | refine blk_drewN ?_ _ | refine blk_drew ?_ | refine blk_alloc ?_ _)); refine blk_far ?_ NB217_222.out _; (with_reducible repeat (first | refine blk_drewN ?_ _ | refine blk_drew ?_ | refine blk_alloc ?_ _)); exact BK217.out) hb); have n7_ := Aside0.mk (blk_below (g := gb222) (o := .cells #[.slice Ao33 t218.length co33] 26 (0, 0)) (by (with_reducible repeat (first | refine blk_drewN ?_ _ | refine blk_drew ?_ | refine blk_alloc ?_ _)); refine blk_put (cs := #[.slice none 0 0]) ?_ 0 _ rfl; (with_reducible repeat (first | refine blk_drewN ?_ _ | refine blk_drew ?_ | refine blk_alloc ?_ _)); exact BK222.out) hb); have n8_ := Aside0.mk (below_step (by repeat (first | (with_reducible first | exact HB.out | apply below_alloc | apply pw_below_drewN | apply below_drew1 | refine below_set ?_ GE204.out | refine below_set ?_ GE213.out | refine below_set ?_ GE217.out | refine below_set ?_ GE222.out) | exact HB.out)) hb); clear HO208; clear HO211; clear HO216; clear HO220; clear BK204; clear BK213; clear BK217; clear BK222; clear HB; have HO208 := n0_; have HO211 := n1_; have HO216 := n2_; have HO220 := n3_; have BK204 := n4_; have BK213 := n5_; have BK217 := n6_; have BK222 := n7_; have HB := n8_; clear n0_ n1_ n2_ n3_ n4_ n5_ n6_ n7_ n8_; (try clear hb); (try clear hb2); (try clear hk); (try clear hi)))
        go_meet
        case rel => exact ⟨_, (true), (by first | rfl | (simp; done) | (simp [*]; done)), H', ⟨by first | omega | exact Nat.le_refl _⟩, ⟨by (with_reducible repeat (first | apply Kd.R_alloc | apply Kd.R_drewN | apply Kd.R_drew)); exact Kd.R_mono HO211.out (fun _ hk => ⟨hk.1.2, hk.2⟩)⟩, ⟨by (with_reducible repeat (first | apply Kd.R_alloc | apply Kd.R_drewN | apply Kd.R_drew)); exact Kd.R_mono HO216.out (fun _ hk => ⟨hk.1.2, hk.2⟩)⟩, ⟨by (with_reducible repeat (first | apply Kd.R_alloc | apply Kd.R_drewN | apply Kd.R_drew)); exact Kd.R_mono HO220.out (fun _ hk => ⟨hk.1.2, hk.2⟩)⟩, ⟨by (with_reducible repeat (first | refine blk_drewN ?_ _ | refine blk_drew ?_ | refine blk_alloc ?_ _)); exact BK204.out⟩, ⟨by (with_reducible repeat (first | refine blk_drewN ?_ _ | refine blk_drew ?_ | refine blk_alloc ?_ _)); exact BK213.out⟩, ⟨by (with_reducible repeat (first | refine blk_drewN ?_ _ | refine blk_drew ?_ | refine blk_alloc ?_ _)); exact BK217.out⟩, ⟨by (with_reducible repeat (first | refine blk_drewN ?_ _ | refine blk_drew ?_ | refine blk_alloc ?_ _)); exact BK222.out⟩, ⟨by repeat (first | (with_reducible first | exact HB.out | apply below_alloc | apply pw_below_drewN | apply below_drew1 | refine below_set ?_ GE204.out | refine below_set ?_ GE213.out | refine below_set ?_ GE217.out | refine below_set ?_ GE222.out) | exact HB.out)⟩⟩
    case rest =>
      clear HC12
      try clear c2
      try clear p2
      try clear c3
      try clear c4
      try clear c4b0
      try clear c5
      try clear c6
      try clear c7
      try clear c8
      try clear c22
      try clear c28
      try clear c29
      try clear c34
      try clear c35
      try clear c36
      try clear c39
      try clear c40
      try clear c41
      try clear c42
      try clear c44
      try clear c45
      try clear c48
      try clear c49
      try clear c50
      try clear c52
      try clear c53
      try clear hcz14_0
      try clear hcz16_0
      try clear hcz23_0
      try clear hcz24_0
      try clear hcz30_0
      try clear hcz37_0
      try clear hcz43_0
      try clear hcz46_0
      try clear hcz51_0
      try clear hcz54_0
      try clear hcz6_0
      try clear hfz14_0
      try clear hfz16_0
      try clear hfz23_0
      try clear hfz24_0
      try clear hfz30_0
      try clear hfz37_0
      try clear hfz43_0
      try clear hfz46_0
      try clear hfz51_0
      try clear hfz54_0
      try clear hfz6_0
      obtain ⟨kq, x44_11, rfl, HA, HJ11, HO_214000, HO_218000, HO_223000, BK204, BK213, BK217, BK222, HB⟩ := hcut
      cases kq with
      | zero => exact absurd HA.out (by simp [laws_FnExactRemoveKey.j0])
      | succ kj11 =>
        have H := HA.out
        clear HA
        simp only [laws_FnExactRemoveKey.j0] at H
        by_cases c56 : x44_11 = true
        · subst c56
          have H1 : (some false) = some r := by rw [if_pos rfl] at H; exact H
          clear H
          have H := H1
          clear H1
          obtain rfl := Option.some.inj H
          go_wp2
          go_ret
          exact ⟨by first | rfl | (simp [errW_none, errW_some] <;> rfl) | (simp [*, errW_none, errW_some] <;> rfl), by repeat (first | (with_reducible first | exact HB.out | apply below_alloc | apply pw_below_drewN | apply below_drew1 | refine below_set ?_ GE204.out | refine below_set ?_ GE213.out | refine below_set ?_ GE217.out | refine below_set ?_ GE222.out) | exact HB.out)⟩
        · replace c56 := Bool.eq_false_iff.mpr c56
          subst c56
          have H1 : ((laws_toTable.f kj11 l0_0).bind fun t224 => ((laws_eqTable.f kj11 t214 t224).bind fun t227 => (if t227 = true then ((laws_markTable.f kj11 t214 1).bind fun bt228 => (if bt228.1 < 0 then (laws_FnExactRemoveKey.j1 kj11 a1 t212 true l0_0 t209 t218) else ((laws_eqTable.f kj11 t218 t209).bind fun t230 => (if t230 = true then (laws_FnExactRemoveKey.j1 kj11 a1 t212 (t221 != t212) l0_0 t209 t218) else (laws_FnExactRemoveKey.j1 kj11 a1 t212 true l0_0 t209 t218))))) else (some false)))) = some r := by rw [if_neg (show ¬ (false = true) by decide)] at H; exact H
          clear H
          have H := H1
          clear H1
          replace H := Option.bind_eq_some_iff.mp H
          obtain ⟨t224, A570, H⟩ := H
          replace H : ((laws_eqTable.f kj11 t214 t224).bind fun t227 => (if t227 = true then ((laws_markTable.f kj11 t214 1).bind fun bt228 => (if bt228.1 < 0 then (laws_FnExactRemoveKey.j1 kj11 a1 t212 true l0_0 t209 t218) else ((laws_eqTable.f kj11 t218 t209).bind fun t230 => (if t230 = true then (laws_FnExactRemoveKey.j1 kj11 a1 t212 (t221 != t212) l0_0 t209 t218) else (laws_FnExactRemoveKey.j1 kj11 a1 t212 true l0_0 t209 t218))))) else (some false))) = some r := H
          have A57 := Aside0.mk A570
          clear A570
          replace H := Option.bind_eq_some_iff.mp H
          obtain ⟨t227, A580, H⟩ := H
          replace H : (if t227 = true then ((laws_markTable.f kj11 t214 1).bind fun bt228 => (if bt228.1 < 0 then (laws_FnExactRemoveKey.j1 kj11 a1 t212 true l0_0 t209 t218) else ((laws_eqTable.f kj11 t218 t209).bind fun t230 => (if t230 = true then (laws_FnExactRemoveKey.j1 kj11 a1 t212 (t221 != t212) l0_0 t209 t218) else (laws_FnExactRemoveKey.j1 kj11 a1 t212 true l0_0 t209 t218))))) else (some false)) = some r := H
          have A58 := Aside0.mk A580
          clear A580
          by_cases c59 : t227 = true
          · subst c59
            have H1 : ((laws_markTable.f kj11 t214 1).bind fun bt228 => (if bt228.1 < 0 then (laws_FnExactRemoveKey.j1 kj11 a1 t212 true l0_0 t209 t218) else ((laws_eqTable.f kj11 t218 t209).bind fun t230 => (if t230 = true then (laws_FnExactRemoveKey.j1 kj11 a1 t212 (t221 != t212) l0_0 t209 t218) else (laws_FnExactRemoveKey.j1 kj11 a1 t212 true l0_0 t209 t218))))) = some r := by rw [if_pos rfl] at H; exact H
            clear H
            have H := H1
            clear H1
            replace H := Option.bind_eq_some_iff.mp H
            obtain ⟨⟨t228, t229⟩, A600, H⟩ := H
            replace H : (if t228 < 0 then (laws_FnExactRemoveKey.j1 kj11 a1 t212 true l0_0 t209 t218) else ((laws_eqTable.f kj11 t218 t209).bind fun t230 => (if t230 = true then (laws_FnExactRemoveKey.j1 kj11 a1 t212 (t221 != t212) l0_0 t209 t218) else (laws_FnExactRemoveKey.j1 kj11 a1 t212 true l0_0 t209 t218)))) = some r := H
            have A60 := Aside0.mk A600
            clear A600
            have HC61 := Aside0.mk H
            clear H
            try go_wp2
            have n0_ := Aside0.mk (Kd.R_drew HO_214000.out)
            have n1_ := Aside0.mk (Kd.R_drew HO_218000.out)
            have n2_ := Aside0.mk (Kd.R_drew HO_223000.out)
            have n3_ := Aside0.mk (blk_drew BK204.out)
            have n4_ := Aside0.mk (blk_drew BK213.out)
            have n5_ := Aside0.mk (blk_drew BK217.out)
            have n6_ := Aside0.mk (blk_drew BK222.out)
            have n7_ := Aside0.mk (below_drew1 HB.out)
            clear HO_214000
            clear HO_218000
            clear HO_223000
            clear BK204
            clear BK213
            clear BK217
            clear BK222
            clear HB
            have HO_214000 := n0_
            have HO_218000 := n1_
            have HO_223000 := n2_
            have BK204 := n3_
            have BK213 := n4_
            have BK217 := n5_
            have BK222 := n6_
            have HB := n7_
            clear n0_ n1_ n2_ n3_ n4_ n5_ n6_ n7_
            refine start_ (n := 5) (S := fun w' => w'.cell? ⟨gb217, 0, none⟩ = some (.slice Ao27 t214.length co27) ∧ w'.cell? ⟨gb204, 0, none⟩ = some (.slice A0_0 l0_0.length c0_0)) (ds := []) #[false, false, false, false, false] (by kernel_rfl) rfl rfl ⟨(blk_cell BK217.out 0).trans rfl, (blk_cell BK204.out 0).trans rfl⟩ (fun hHeld => ?_)
            generalize wc.drew = w62 at HO_214000 HO_218000 HO_223000 BK204 BK213 BK217 BK222 HB hHeld ⊢
            refine take_ (i := 0) (N := some 45) (v := ?_) (a' := ?_) #[true, false, false, false, false] rfl rfl (by kernel_rfl) (fun _ _ _ h => h) (Or.inl ⟨by rfl, ?_⟩) hHeld ?_ ?_
            rotate_left
            · rintro w' ⟨s0, s1⟩
              go_simp
              with_reducible rfl
            rotate_left
            · simp only [Act.put, List.setIfInBounds_toArray, List.set_cons_zero, List.set_cons_succ, i64_w, i32_w]
              rfl
            refine take_ (i := 1) (N := some 46) (v := ?_) (a' := ?_) #[true, true, false, false, false] rfl rfl (by kernel_rfl) (fun _ _ _ h => h) (Or.inl ⟨by rfl, ?_⟩) hHeld ?_ ?_
            rotate_left
            · rintro w' ⟨s0, s1⟩
              go_simp
              with_reducible rfl
            rotate_left
            · simp only [Act.put, List.setIfInBounds_toArray, List.set_cons_zero, List.set_cons_succ, i64_w, i32_w]
              rfl
            refine one_ (i := 2) (N := some 47) #[true, true, true, false, false] rfl rfl (by kernel_rfl) (by decide) (fun K hK => ?_)
            refine goes_ Try.func6 (by kernel_rfl) rfl #[.agg #[.slice A0_0 l0_0.length c0_0]] (by rfl) rfl rfl (by (try simp only [List.map_toArray, List.map_cons, List.map_nil]); first | done | rfl | (simp only [List.length_drop, List.length_take]; rfl)) ?_
            with_reducible refine (laws_toTable.calls kj11 _ _ l0_0 t224 _ ?side1 ?side2 A57.out).mono ?_
            (case side1 => repeat (first | exact (Kd.C_below HR0_0.out HB.out) | (with_reducible refine Kd.C_alloc ?_ _) | (with_reducible refine Kd.C_drewN ?_ _) | (with_reducible refine Kd.C_drew ?_)))
            (case side2 => exact HC0_0.out)
            rintro e w63 ⟨v225, rfl, ho0, hb⟩
            refine ⟨_, rfl, ?_⟩
            have n0_ := Aside0.mk (Kd.R_elder' (by (with_reducible repeat (first | apply Kd.R_alloc | apply Kd.R_drewN | apply Kd.R_drew)); exact HO_214000.out) (Kd.R_base ho0) hb)
            have n1_ := Aside0.mk (Kd.R_elder' (by (with_reducible repeat (first | apply Kd.R_alloc | apply Kd.R_drewN | apply Kd.R_drew)); exact HO_218000.out) (Kd.R_base ho0) hb)
            have n2_ := Aside0.mk (Kd.R_elder' (by (with_reducible repeat (first | apply Kd.R_alloc | apply Kd.R_drewN | apply Kd.R_drew)); exact HO_223000.out) (Kd.R_base ho0) hb)
            have n3_ := Aside0.mk (Kd.R_lower (Kd.R_new' (Kd.R_new' (Kd.R_new' ho0 (Kd.R_lt (by (with_reducible repeat (first | apply Kd.R_alloc | apply Kd.R_drewN | apply Kd.R_drew)); exact HO_214000.out))) (Kd.R_lt (by (with_reducible repeat (first | apply Kd.R_alloc | apply Kd.R_drewN | apply Kd.R_drew)); exact HO_218000.out))) (Kd.R_lt (by (with_reducible repeat (first | apply Kd.R_alloc | apply Kd.R_drewN | apply Kd.R_drew)); exact HO_223000.out))) (below_size (by repeat (first | (with_reducible first | exact HB.out | apply below_alloc | apply pw_below_drewN | apply below_drew1 | refine below_set ?_ GE204.out | refine below_set ?_ GE213.out | refine below_set ?_ GE217.out | refine below_set ?_ GE222.out) | exact HB.out))))
            have n4_ := Aside0.mk (blk_below (g := gb204) (o := .cells #[.slice A0_0 l0_0.length c0_0] 24 (0, 0)) (by (with_reducible repeat (first | refine blk_drewN ?_ _ | refine blk_drew ?_ | refine blk_alloc ?_ _)); exact BK204.out) hb)
            have n5_ := Aside0.mk (blk_below (g := gb213) (o := .cells #[.slice Ao21 t209.length co21] 26 (0, 0)) (by (with_reducible repeat (first | refine blk_drewN ?_ _ | refine blk_drew ?_ | refine blk_alloc ?_ _)); exact BK213.out) hb)
            have n6_ := Aside0.mk (blk_below (g := gb217) (o := .cells #[.slice Ao27 t214.length co27] 26 (0, 0)) (by (with_reducible repeat (first | refine blk_drewN ?_ _ | refine blk_drew ?_ | refine blk_alloc ?_ _)); exact BK217.out) hb)
            have n7_ := Aside0.mk (blk_below (g := gb222) (o := .cells #[.slice Ao33 t218.length co33] 26 (0, 0)) (by (with_reducible repeat (first | refine blk_drewN ?_ _ | refine blk_drew ?_ | refine blk_alloc ?_ _)); exact BK222.out) hb)
            have n8_ := Aside0.mk (below_step (by repeat (first | (with_reducible first | exact HB.out | apply below_alloc | apply pw_below_drewN | apply below_drew1 | refine below_set ?_ GE204.out | refine below_set ?_ GE213.out | refine below_set ?_ GE217.out | refine below_set ?_ GE222.out) | exact HB.out)) hb)
            clear HO_214000
            clear HO_218000
            clear HO_223000
            clear BK204
            clear BK213
            clear BK217
            clear BK222
            clear HB
            have HO_214000 := n0_
            have HO_218000 := n1_
            have HO_223000 := n2_
            have HO226 := n3_
            have BK204 := n4_
            have BK213 := n5_
            have BK217 := n6_
            have BK222 := n7_
            have HB := n8_
            clear n0_ n1_ n2_ n3_ n4_ n5_ n6_ n7_ n8_
            (try clear hb)
            (try clear hb2)
            (try clear hk)
            (try clear hi)
            (try clear ho0)
            obtain ⟨Ao64, co64, eo64⟩ := Kd.R_slice HO226.out
            (first | subst eo64 | (injection eo64 with f1_ f2_ f3_; have f4_ := f1_.symm; have f5_ := f3_.symm; clear f1_ f2_ f3_; subst f4_; subst f5_))
            refine hK.out _ _ ⟨(blk_cell BK217.out 0).trans rfl, (blk_cell BK204.out 0).trans rfl⟩ (fun hHeld => ?_)
            clear hK K
            refine norm_ (a' := ?_) ?_ ?_
            rotate_left
            · show Act.put _ (some 47) _ = _
              simp only [Act.put, List.setIfInBounds_toArray, List.set_cons_zero, List.set_cons_succ, i64_w, i32_w]
              rfl
            refine one_ (i := 3) (N := some 48) #[true, true, true, true, false] rfl rfl (by kernel_rfl) (by decide) (fun K hK => ?_)
            refine goes_ Try.func8 (by kernel_rfl) rfl #[.agg #[.slice Ao27 t214.length co27], .agg #[.slice Ao64 t224.length co64]] (by rfl) rfl rfl (by (try simp only [List.map_toArray, List.map_cons, List.map_nil]); first | done | rfl | (simp only [List.length_drop, List.length_take]; rfl)) ?_
            with_reducible refine (laws_eqTable.calls kj11 _ _ t214 _ _ t224 true _ ?side1 ?side2 ?side3 ?side4 A58.out).mono ?_
            (case side1 => repeat (first | exact (Kd.R_reads' HO_218000.out).2.2 | (with_reducible refine Kd.C_alloc ?_ _) | (with_reducible refine Kd.C_drewN ?_ _) | (with_reducible refine Kd.C_drew ?_)))
            (case side2 => exact (Kd.R_reads' HO_218000.out).2.1)
            (case side3 => repeat (first | exact (Kd.R_reads' HO226.out).2.2 | (with_reducible refine Kd.C_alloc ?_ _) | (with_reducible refine Kd.C_drewN ?_ _) | (with_reducible refine Kd.C_drew ?_)))
            (case side4 => exact (Kd.R_reads' HO226.out).2.1)
            rintro e w65 ⟨rfl, hb⟩
            refine ⟨_, rfl, ?_⟩
            have n0_ := Aside0.mk (Kd.R_below (by (with_reducible repeat (first | apply Kd.R_alloc | apply Kd.R_drewN | apply Kd.R_drew)); exact HO_214000.out) hb)
            have n1_ := Aside0.mk (Kd.R_below (by (with_reducible repeat (first | apply Kd.R_alloc | apply Kd.R_drewN | apply Kd.R_drew)); exact HO_218000.out) hb)
            have n2_ := Aside0.mk (Kd.R_below (by (with_reducible repeat (first | apply Kd.R_alloc | apply Kd.R_drewN | apply Kd.R_drew)); exact HO_223000.out) hb)
            have n3_ := Aside0.mk (Kd.R_below (by (with_reducible repeat (first | apply Kd.R_alloc | apply Kd.R_drewN | apply Kd.R_drew)); exact HO226.out) hb)
            have n4_ := Aside0.mk (blk_below (g := gb204) (o := .cells #[.slice A0_0 l0_0.length c0_0] 24 (0, 0)) (by (with_reducible repeat (first | refine blk_drewN ?_ _ | refine blk_drew ?_ | refine blk_alloc ?_ _)); exact BK204.out) hb)
            have n5_ := Aside0.mk (blk_below (g := gb213) (o := .cells #[.slice Ao21 t209.length co21] 26 (0, 0)) (by (with_reducible repeat (first | refine blk_drewN ?_ _ | refine blk_drew ?_ | refine blk_alloc ?_ _)); exact BK213.out) hb)
            have n6_ := Aside0.mk (blk_below (g := gb217) (o := .cells #[.slice Ao27 t214.length co27] 26 (0, 0)) (by (with_reducible repeat (first | refine blk_drewN ?_ _ | refine blk_drew ?_ | refine blk_alloc ?_ _)); exact BK217.out) hb)
            have n7_ := Aside0.mk (blk_below (g := gb222) (o := .cells #[.slice Ao33 t218.length co33] 26 (0, 0)) (by (with_reducible repeat (first | refine blk_drewN ?_ _ | refine blk_drew ?_ | refine blk_alloc ?_ _)); exact BK222.out) hb)
            have n8_ := Aside0.mk (below_step (by repeat (first | (with_reducible first | exact HB.out | apply below_alloc | apply pw_below_drewN | apply below_drew1 | refine below_set ?_ GE204.out | refine below_set ?_ GE213.out | refine below_set ?_ GE217.out | refine below_set ?_ GE222.out) | exact HB.out)) hb)
            clear HO_214000
            clear HO_218000
            clear HO_223000
            clear HO226
            clear BK204
            clear BK213
            clear BK217
            clear BK222
            clear HB
            have HO_214000 := n0_
            have HO_218000 := n1_
            have HO_223000 := n2_
            have HO226 := n3_
            have BK204 := n4_
            have BK213 := n5_
            have BK217 := n6_
            have BK222 := n7_
            have HB := n8_
            clear n0_ n1_ n2_ n3_ n4_ n5_ n6_ n7_ n8_
            (try clear hb)
            (try clear hb2)
            (try clear hk)
            (try clear hi)
            refine hK.out _ _ ⟨(blk_cell BK217.out 0).trans rfl, (blk_cell BK204.out 0).trans rfl⟩ (fun hHeld => ?_)
            clear hK K
            refine norm_ (a' := ?_) ?_ ?_
            rotate_left
            · show Act.put _ (some 48) _ = _
              simp only [Act.put, List.setIfInBounds_toArray, List.set_cons_zero, List.set_cons_succ, i64_w, i32_w]
              rfl
            refine pure_ (i := 4) (N := some 49) (v := ?_) (a' := ?_) #[true, true, true, true, true] rfl rfl (by kernel_rfl) (fun _ _ _ h => h) (Or.inl ⟨by rfl, ?_⟩) ?_ ?_
            rotate_left
            · intro w'
              go_simp
              with_reducible rfl
            rotate_left
            · simp only [Act.put, List.setIfInBounds_toArray, List.set_cons_zero, List.set_cons_succ, i64_w, i32_w]
              rfl
            refine done_ (by kernel_rfl) ?_
            have hnb66 := NB217_204.out
            have hnc66 := NB204_217.out
            have hnb67 := NB217_213.out
            have hnc67 := NB213_217.out
            have hnb68 := NB217_222.out
            have hnc68 := NB222_217.out
            have hcz69_0 : w65.cell? ⟨gb217, 0, none⟩ = some (.slice Ao27 t214.length co27) := (blk_cell BK217.out 0).trans rfl
            have hfz69_0 := blk_frozen BK217.out 0
            go_upto_region 14 with (first | ((with_reducible refine gate_callee (f := 9) rfl ?_); refine goesL_ (some 52) rfl rfl Try.func9 (by kernel_rfl) rfl #[.agg #[.slice Ao27 t214.length co27], .int .i64 1] rfl (by (try simp only [List.map_toArray, List.map_cons, List.map_nil]); first | done | rfl | (simp only [List.length_drop, List.length_take]; rfl)) ?_; (with_reducible refine (laws_markTable.calls kj11 (fun k_ => some k_ = (.slice Ao27 t214.length co27 : Value).ownBlock) (.slice Ao27 t214.length co27) t214 1 t228 t229 w _ ?side1 ?side2 A60.out).mono ?_); (case side1 => repeat (first | (with_reducible first | exact HB.out | apply below_alloc | apply pw_below_drewN | apply below_drew1 | refine below_set ?_ GE204.out | refine below_set ?_ GE213.out | refine below_set ?_ GE217.out | refine below_set ?_ GE222.out) | exact HB.out)); (case side2 => exact Kd.R_tight rfl HO_218000.out); rintro e w70 ⟨rfl, hy0, hb, hkp⟩; refine ⟨_, rfl, ?_⟩; have n0_ := Aside0.mk (Kd.R_mono (ok' := fun k_ => some k_ ≠ (.slice Ao27 t214.length co27 : Value).ownBlock ∧ some k_ ≠ (.slice Ao33 t218.length co33 : Value).ownBlock ∧ some k_ ≠ (.slice Ao64 t224.length co64 : Value).ownBlock) (Kd.R_keptB (HO_214000.out) hkp (fun k_ hk_ hs_ => (hk_.1.1) hs_)) (fun k_ hk_ => ⟨hk_.1.1.1, hk_.1.1.2, hk_.1.2⟩)); have n1_ := Aside0.mk (Kd.R_reok rfl hy0 (fun k_ e_ => HO_218000.out.1 k_ e_)); have n2_ := Aside0.mk (Kd.R_mono (ok' := fun k_ => some k_ ≠ (.slice Ao21 t209.length co21 : Value).ownBlock ∧ some k_ ≠ (.slice Ao27 t214.length co27 : Value).ownBlock ∧ some k_ ≠ (.slice Ao64 t224.length co64 : Value).ownBlock) (Kd.R_keptB (HO_223000.out) hkp (fun k_ hk_ hs_ => (hk_.1.2) hs_)) (fun k_ hk_ => ⟨hk_.1.1.1, hk_.1.1.2, hk_.1.2⟩)); have n3_ := Aside0.mk (blk_kept (by (with_reducible repeat (first | refine blk_drewN ?_ _ | refine blk_drew ?_ | refine blk_alloc ?_ _)); exact BK204.out) hkp (fun hs_ => (fun e_ => (Kd.R_ne HO_218000.out BK204.out (by decide)) e_) hs_)); have n4_ := Aside0.mk (blk_kept (by (with_reducible repeat (first | refine blk_drewN ?_ _ | refine blk_drew ?_ | refine blk_alloc ?_ _)); exact BK213.out) hkp (fun hs_ => (fun e_ => (Kd.R_ne HO_218000.out BK213.out (by decide)) e_) hs_)); have n5_ := Aside0.mk (blk_kept (by (with_reducible repeat (first | refine blk_drewN ?_ _ | refine blk_drew ?_ | refine blk_alloc ?_ _)); exact BK217.out) hkp (fun hs_ => (fun e_ => (Kd.R_ne HO_218000.out BK217.out (by decide)) e_) hs_)); have n6_ := Aside0.mk (blk_kept (by (with_reducible repeat (first | refine blk_drewN ?_ _ | refine blk_drew ?_ | refine blk_alloc ?_ _)); exact BK222.out) hkp (fun hs_ => (fun e_ => (Kd.R_ne HO_218000.out BK222.out (by decide)) e_) hs_)); have n7_ := Aside0.mk (Kd.R_mono (ok' := fun k_ => some k_ ≠ (.slice Ao21 t209.length co21 : Value).ownBlock ∧ some k_ ≠ (.slice Ao27 t214.length co27 : Value).ownBlock ∧ some k_ ≠ (.slice Ao33 t218.length co33 : Value).ownBlock) (Kd.R_keptB (HO226.out) hkp (fun k_ hk_ hs_ => (hk_.1.2) hs_)) (fun k_ hk_ => ⟨hk_.1.1.1.2, hk_.1.1.2, hk_.1.2⟩)); have n8_ := Aside0.mk (hb); clear HO_214000; clear HO_218000; clear HO_223000; clear BK204; clear BK213; clear BK217; clear BK222; clear HO226; clear HB; have HO_214000 := n0_; have HO_218000 := n1_; have HO_223000 := n2_; have BK204 := n3_; have BK213 := n4_; have BK217 := n5_; have BK222 := n6_; have HO226 := n7_; have HB := n8_; clear n0_ n1_ n2_ n3_ n4_ n5_ n6_ n7_ n8_; (try clear hb); (try clear hkp); (try clear hy0)))
            (try simp only [Act.put, List.setIfInBounds_toArray, List.set_cons_zero, List.set_cons_succ])
            go_cut [65] (fun v65 wc => ∃ (kq : Nat) (x65_60 : Bool), v65 = .bool x65_60 ∧ Aside0 (laws_FnExactRemoveKey.j1 kq a1 t212 x65_60 l0_0 t209 t218 = some r) ∧ Aside0 (kq ≤ kj11) ∧ Aside0 (Kd.R (Kd.int .i64) 3 wc w.heap.size (fun k_ => some k_ ≠ ((.slice Ao27 t214.length co27) : Value).ownBlock ∧ some k_ ≠ ((.slice Ao33 t218.length co33) : Value).ownBlock) (.slice Ao21 t209.length co21) t209) ∧ Aside0 (Kd.R (Kd.int .i64) 3 wc w.heap.size (fun k_ => some k_ ≠ ((.slice Ao21 t209.length co21) : Value).ownBlock ∧ some k_ ≠ ((.slice Ao33 t218.length co33) : Value).ownBlock) (.slice Ao27 t214.length co27) t229) ∧ Aside0 (Kd.R (Kd.int .i64) 3 wc w.heap.size (fun k_ => some k_ ≠ ((.slice Ao21 t209.length co21) : Value).ownBlock ∧ some k_ ≠ ((.slice Ao27 t214.length co27) : Value).ownBlock) (.slice Ao33 t218.length co33) t218) ∧ Aside0 (wc.heap[gb204]? = some (.cells #[(.slice A0_0 l0_0.length c0_0)] 24 (0, 0))) ∧ Aside0 (wc.heap[gb213]? = some (.cells #[(.slice Ao21 t209.length co21)] 26 (0, 0))) ∧ Aside0 (wc.heap[gb217]? = some (.cells #[(.slice Ao27 t214.length co27)] 26 (0, 0))) ∧ Aside0 (wc.heap[gb222]? = some (.cells #[(.slice Ao33 t218.length co33)] 26 (0, 0))) ∧ Aside0 (Below w.heap.size w wc))
            case first =>
              have H := HC61.out
              clear HC61
              by_cases c71 : t228 < 0
              · rw [if_pos c71] at H
                have c71b0 : decide (t228 < 0) = true := decide_eq_true c71
                clear c71
                (first | rw [c71b0] | (simp only [i64_w, i32_w]; rw [c71b0]) | skip)
                have H' := Aside0.mk H
                clear H
                go_wp2
                go_meet
                case rel => exact ⟨_, (true), (by first | rfl | (simp; done) | (simp [*]; done)), H', ⟨by have := HJ11.out; first | omega | exact Nat.le_refl _⟩, ⟨by (with_reducible repeat (first | apply Kd.R_alloc | apply Kd.R_drewN | apply Kd.R_drew)); exact Kd.R_mono HO_214000.out (fun _ hk => ⟨hk.1, hk.2.1⟩)⟩, ⟨by (with_reducible repeat (first | apply Kd.R_alloc | apply Kd.R_drewN | apply Kd.R_drew)); exact Kd.R_mono HO_218000.out (fun _ hk => ⟨hk.1.1, hk.1.2⟩)⟩, ⟨by (with_reducible repeat (first | apply Kd.R_alloc | apply Kd.R_drewN | apply Kd.R_drew)); exact Kd.R_mono HO_223000.out (fun _ hk => ⟨hk.1, hk.2.1⟩)⟩, ⟨by (with_reducible repeat (first | refine blk_drewN ?_ _ | refine blk_drew ?_ | refine blk_alloc ?_ _)); exact BK204.out⟩, ⟨by (with_reducible repeat (first | refine blk_drewN ?_ _ | refine blk_drew ?_ | refine blk_alloc ?_ _)); exact BK213.out⟩, ⟨by (with_reducible repeat (first | refine blk_drewN ?_ _ | refine blk_drew ?_ | refine blk_alloc ?_ _)); exact BK217.out⟩, ⟨by (with_reducible repeat (first | refine blk_drewN ?_ _ | refine blk_drew ?_ | refine blk_alloc ?_ _)); exact BK222.out⟩, ⟨by repeat (first | (with_reducible first | exact HB.out | apply below_alloc | apply pw_below_drewN | apply below_drew1 | refine below_set ?_ GE204.out | refine below_set ?_ GE213.out | refine below_set ?_ GE217.out | refine below_set ?_ GE222.out) | exact HB.out)⟩⟩
              · rw [if_neg c71] at H
                have c71b0 : decide (t228 < 0) = false := decide_eq_false c71
                clear c71
                (first | rw [c71b0] | (simp only [i64_w, i32_w]; rw [c71b0]) | skip)
                replace H := Option.bind_eq_some_iff.mp H
                obtain ⟨t230, A720, H⟩ := H
                replace H : (if t230 = true then (laws_FnExactRemoveKey.j1 kj11 a1 t212 (t221 != t212) l0_0 t209 t218) else (laws_FnExactRemoveKey.j1 kj11 a1 t212 true l0_0 t209 t218)) = some r := H
                have A72 := Aside0.mk A720
                clear A720
                by_cases c73 : t230 = true
                · subst c73
                  have H1 : (laws_FnExactRemoveKey.j1 kj11 a1 t212 (t221 != t212) l0_0 t209 t218) = some r := by rw [if_pos rfl] at H; exact H
                  clear H
                  have H := H1
                  clear H1
                  have H' := Aside0.mk H
                  clear H
                  have hnb74 := NB222_204.out
                  have hnc74 := NB204_222.out
                  have hnb75 := NB222_213.out
                  have hnc75 := NB213_222.out
                  have hnb76 := NB222_217.out
                  have hnc76 := NB217_222.out
                  have hcz77_0 : w70.cell? ⟨gb222, 0, none⟩ = some (.slice Ao33 t218.length co33) := (blk_cell BK222.out 0).trans rfl
                  have hfz77_0 := blk_frozen BK222.out 0
                  have hnb78 := NB213_204.out
                  have hnc78 := NB204_213.out
                  have hnb79 := NB213_217.out
                  have hnc79 := NB217_213.out
                  have hcz80_0 : w70.cell? ⟨gb213, 0, none⟩ = some (.slice Ao21 t209.length co21) := (blk_cell BK213.out 0).trans rfl
                  have hfz80_0 := blk_frozen BK213.out 0
                  go_wp2_with (first | (go_at_call 8; (with_reducible refine (laws_eqTable.calls kj11 _ _ t218 _ _ t209 true _ ?side1 ?side2 ?side3 ?side4 A72.out).mono ?_); (case side1 => repeat (first | exact (Kd.R_reads' HO_223000.out).2.2 | (with_reducible refine Kd.C_alloc ?_ _) | (with_reducible refine Kd.C_drewN ?_ _) | (with_reducible refine Kd.C_drew ?_))); (case side2 => exact (Kd.R_reads' HO_223000.out).2.1); (case side3 => repeat (first | exact (Kd.R_reads' HO_214000.out).2.2 | (with_reducible refine Kd.C_alloc ?_ _) | (with_reducible refine Kd.C_drewN ?_ _) | (with_reducible refine Kd.C_drew ?_))); (case side4 => exact (Kd.R_reads' HO_214000.out).2.1); rintro e w81 ⟨rfl, hb⟩; have n0_ := Aside0.mk (Kd.R_below (by (with_reducible repeat (first | apply Kd.R_alloc | apply Kd.R_drewN | apply Kd.R_drew)); exact HO_214000.out) hb); have n1_ := Aside0.mk (Kd.R_below (by (with_reducible repeat (first | apply Kd.R_alloc | apply Kd.R_drewN | apply Kd.R_drew)); exact HO_218000.out) hb); have n2_ := Aside0.mk (Kd.R_below (by (with_reducible repeat (first | apply Kd.R_alloc | apply Kd.R_drewN | apply Kd.R_drew)); exact HO_223000.out) hb); have n3_ := Aside0.mk (Kd.R_below (by (with_reducible repeat (first | apply Kd.R_alloc | apply Kd.R_drewN | apply Kd.R_drew)); exact HO226.out) hb); have n4_ := Aside0.mk (blk_below (g := gb204) (o := .cells #[.slice A0_0 l0_0.length c0_0] 24 (0, 0)) (by (with_reducible repeat (first | refine blk_drewN ?_ _ | refine blk_drew ?_ | refine blk_alloc ?_ _)); exact BK204.out) hb); have n5_ := Aside0.mk (blk_below (g := gb213) (o := .cells #[.slice Ao21 t209.length co21] 26 (0, 0)) (by (with_reducible repeat (first | refine blk_drewN ?_ _ | refine blk_drew ?_ | refine blk_alloc ?_ _)); exact BK213.out) hb); have n6_ := Aside0.mk (blk_below (g := gb217) (o := .cells #[.slice Ao27 t214.length co27] 26 (0, 0)) (by (with_reducible repeat (first | refine blk_drewN ?_ _ | refine blk_drew ?_ | refine blk_alloc ?_ _)); exact BK217.out) hb); have n7_ := Aside0.mk (blk_below (g := gb222) (o := .cells #[.slice Ao33 t218.length co33] 26 (0, 0)) (by (with_reducible repeat (first | refine blk_drewN ?_ _ | refine blk_drew ?_ | refine blk_alloc ?_ _)); exact BK222.out) hb); have n8_ := Aside0.mk (below_step (by repeat (first | (with_reducible first | exact HB.out | apply below_alloc | apply pw_below_drewN | apply below_drew1 | refine below_set ?_ GE204.out | refine below_set ?_ GE213.out | refine below_set ?_ GE217.out | refine below_set ?_ GE222.out) | exact HB.out)) hb); clear HO_214000; clear HO_218000; clear HO_223000; clear HO226; clear BK204; clear BK213; clear BK217; clear BK222; clear HB; have HO_214000 := n0_; have HO_218000 := n1_; have HO_223000 := n2_; have HO226 := n3_; have BK204 := n4_; have BK213 := n5_; have BK217 := n6_; have BK222 := n7_; have HB := n8_; clear n0_ n1_ n2_ n3_ n4_ n5_ n6_ n7_ n8_; (try clear hb); (try clear hb2); (try clear hk); (try clear hi)))
                  go_meet
                  case rel => exact ⟨_, ((t221 != t212)), (by first | rfl | (simp; done) | (simp [*]; done)), H', ⟨by have := HJ11.out; first | omega | exact Nat.le_refl _⟩, ⟨by (with_reducible repeat (first | apply Kd.R_alloc | apply Kd.R_drewN | apply Kd.R_drew)); exact Kd.R_mono HO_214000.out (fun _ hk => ⟨hk.1, hk.2.1⟩)⟩, ⟨by (with_reducible repeat (first | apply Kd.R_alloc | apply Kd.R_drewN | apply Kd.R_drew)); exact Kd.R_mono HO_218000.out (fun _ hk => ⟨hk.1.1, hk.1.2⟩)⟩, ⟨by (with_reducible repeat (first | apply Kd.R_alloc | apply Kd.R_drewN | apply Kd.R_drew)); exact Kd.R_mono HO_223000.out (fun _ hk => ⟨hk.1, hk.2.1⟩)⟩, ⟨by (with_reducible repeat (first | refine blk_drewN ?_ _ | refine blk_drew ?_ | refine blk_alloc ?_ _)); exact BK204.out⟩, ⟨by (with_reducible repeat (first | refine blk_drewN ?_ _ | refine blk_drew ?_ | refine blk_alloc ?_ _)); exact BK213.out⟩, ⟨by (with_reducible repeat (first | refine blk_drewN ?_ _ | refine blk_drew ?_ | refine blk_alloc ?_ _)); exact BK217.out⟩, ⟨by (with_reducible repeat (first | refine blk_drewN ?_ _ | refine blk_drew ?_ | refine blk_alloc ?_ _)); exact BK222.out⟩, ⟨by repeat (first | (with_reducible first | exact HB.out | apply below_alloc | apply pw_below_drewN | apply below_drew1 | refine below_set ?_ GE204.out | refine below_set ?_ GE213.out | refine below_set ?_ GE217.out | refine below_set ?_ GE222.out) | exact HB.out)⟩⟩
                · replace c73 := Bool.eq_false_iff.mpr c73
                  subst c73
                  have H1 : (laws_FnExactRemoveKey.j1 kj11 a1 t212 true l0_0 t209 t218) = some r := by rw [if_neg (show ¬ (false = true) by decide)] at H; exact H
                  clear H
                  have H := H1
                  clear H1
                  have H' := Aside0.mk H
                  clear H
                  have hnb82 := NB222_204.out
                  have hnc82 := NB204_222.out
                  have hnb83 := NB222_213.out
                  have hnc83 := NB213_222.out
                  have hnb84 := NB222_217.out
                  have hnc84 := NB217_222.out
                  have hcz85_0 : w70.cell? ⟨gb222, 0, none⟩ = some (.slice Ao33 t218.length co33) := (blk_cell BK222.out 0).trans rfl
                  have hfz85_0 := blk_frozen BK222.out 0
                  have hnb86 := NB213_204.out
                  have hnc86 := NB204_213.out
                  have hnb87 := NB213_217.out
                  have hnc87 := NB217_213.out
                  have hcz88_0 : w70.cell? ⟨gb213, 0, none⟩ = some (.slice Ao21 t209.length co21) := (blk_cell BK213.out 0).trans rfl
                  have hfz88_0 := blk_frozen BK213.out 0
                  go_wp2_with (first | (go_at_call 8; (with_reducible refine (laws_eqTable.calls kj11 _ _ t218 _ _ t209 false _ ?side1 ?side2 ?side3 ?side4 A72.out).mono ?_); (case side1 => repeat (first | exact (Kd.R_reads' HO_223000.out).2.2 | (with_reducible refine Kd.C_alloc ?_ _) | (with_reducible refine Kd.C_drewN ?_ _) | (with_reducible refine Kd.C_drew ?_))); (case side2 => exact (Kd.R_reads' HO_223000.out).2.1); (case side3 => repeat (first | exact (Kd.R_reads' HO_214000.out).2.2 | (with_reducible refine Kd.C_alloc ?_ _) | (with_reducible refine Kd.C_drewN ?_ _) | (with_reducible refine Kd.C_drew ?_))); (case side4 => exact (Kd.R_reads' HO_214000.out).2.1); rintro e w89 ⟨rfl, hb⟩; have n0_ := Aside0.mk (Kd.R_below (by (with_reducible repeat (first | apply Kd.R_alloc | apply Kd.R_drewN | apply Kd.R_drew)); exact HO_214000.out) hb); have n1_ := Aside0.mk (Kd.R_below (by (with_reducible repeat (first | apply Kd.R_alloc | apply Kd.R_drewN | apply Kd.R_drew)); exact HO_218000.out) hb); have n2_ := Aside0.mk (Kd.R_below (by (with_reducible repeat (first | apply Kd.R_alloc | apply Kd.R_drewN | apply Kd.R_drew)); exact HO_223000.out) hb); have n3_ := Aside0.mk (Kd.R_below (by (with_reducible repeat (first | apply Kd.R_alloc | apply Kd.R_drewN | apply Kd.R_drew)); exact HO226.out) hb); have n4_ := Aside0.mk (blk_below (g := gb204) (o := .cells #[.slice A0_0 l0_0.length c0_0] 24 (0, 0)) (by (with_reducible repeat (first | refine blk_drewN ?_ _ | refine blk_drew ?_ | refine blk_alloc ?_ _)); exact BK204.out) hb); have n5_ := Aside0.mk (blk_below (g := gb213) (o := .cells #[.slice Ao21 t209.length co21] 26 (0, 0)) (by (with_reducible repeat (first | refine blk_drewN ?_ _ | refine blk_drew ?_ | refine blk_alloc ?_ _)); exact BK213.out) hb); have n6_ := Aside0.mk (blk_below (g := gb217) (o := .cells #[.slice Ao27 t214.length co27] 26 (0, 0)) (by (with_reducible repeat (first | refine blk_drewN ?_ _ | refine blk_drew ?_ | refine blk_alloc ?_ _)); exact BK217.out) hb); have n7_ := Aside0.mk (blk_below (g := gb222) (o := .cells #[.slice Ao33 t218.length co33] 26 (0, 0)) (by (with_reducible repeat (first | refine blk_drewN ?_ _ | refine blk_drew ?_ | refine blk_alloc ?_ _)); exact BK222.out) hb); have n8_ := Aside0.mk (below_step (by repeat (first | (with_reducible first | exact HB.out | apply below_alloc | apply pw_below_drewN | apply below_drew1 | refine below_set ?_ GE204.out | refine below_set ?_ GE213.out | refine below_set ?_ GE217.out | refine below_set ?_ GE222.out) | exact HB.out)) hb); clear HO_214000; clear HO_218000; clear HO_223000; clear HO226; clear BK204; clear BK213; clear BK217; clear BK222; clear HB; have HO_214000 := n0_; have HO_218000 := n1_; have HO_223000 := n2_; have HO226 := n3_; have BK204 := n4_; have BK213 := n5_; have BK217 := n6_; have BK222 := n7_; have HB := n8_; clear n0_ n1_ n2_ n3_ n4_ n5_ n6_ n7_ n8_; (try clear hb); (try clear hb2); (try clear hk); (try clear hi)))
                  go_meet
                  case rel => exact ⟨_, (true), (by first | rfl | (simp; done) | (simp [*]; done)), H', ⟨by have := HJ11.out; first | omega | exact Nat.le_refl _⟩, ⟨by (with_reducible repeat (first | apply Kd.R_alloc | apply Kd.R_drewN | apply Kd.R_drew)); exact Kd.R_mono HO_214000.out (fun _ hk => ⟨hk.1, hk.2.1⟩)⟩, ⟨by (with_reducible repeat (first | apply Kd.R_alloc | apply Kd.R_drewN | apply Kd.R_drew)); exact Kd.R_mono HO_218000.out (fun _ hk => ⟨hk.1.1, hk.1.2⟩)⟩, ⟨by (with_reducible repeat (first | apply Kd.R_alloc | apply Kd.R_drewN | apply Kd.R_drew)); exact Kd.R_mono HO_223000.out (fun _ hk => ⟨hk.1, hk.2.1⟩)⟩, ⟨by (with_reducible repeat (first | refine blk_drewN ?_ _ | refine blk_drew ?_ | refine blk_alloc ?_ _)); exact BK204.out⟩, ⟨by (with_reducible repeat (first | refine blk_drewN ?_ _ | refine blk_drew ?_ | refine blk_alloc ?_ _)); exact BK213.out⟩, ⟨by (with_reducible repeat (first | refine blk_drewN ?_ _ | refine blk_drew ?_ | refine blk_alloc ?_ _)); exact BK217.out⟩, ⟨by (with_reducible repeat (first | refine blk_drewN ?_ _ | refine blk_drew ?_ | refine blk_alloc ?_ _)); exact BK222.out⟩, ⟨by repeat (first | (with_reducible first | exact HB.out | apply below_alloc | apply pw_below_drewN | apply below_drew1 | refine below_set ?_ GE204.out | refine below_set ?_ GE213.out | refine below_set ?_ GE217.out | refine below_set ?_ GE222.out) | exact HB.out)⟩⟩
            case rest =>
              clear HC61
              try clear c2
              try clear p2
              try clear c3
              try clear c4
              try clear c4b0
              try clear c5
              try clear c6
              try clear c7
              try clear c8
              try clear c9
              try clear c22
              try clear c28
              try clear c29
              try clear c34
              try clear c35
              try clear c36
              try clear c39
              try clear c40
              try clear c41
              try clear c42
              try clear c44
              try clear c45
              try clear c48
              try clear c49
              try clear c50
              try clear c52
              try clear c53
              try clear c56
              try clear c59
              try clear c66
              try clear c67
              try clear c68
              try clear c71
              try clear c71b0
              try clear c73
              try clear c74
              try clear c75
              try clear c76
              try clear c78
              try clear c79
              try clear c82
              try clear c83
              try clear c84
              try clear c86
              try clear c87
              try clear hcz14_0
              try clear hcz16_0
              try clear hcz23_0
              try clear hcz24_0
              try clear hcz30_0
              try clear hcz37_0
              try clear hcz43_0
              try clear hcz46_0
              try clear hcz51_0
              try clear hcz54_0
              try clear hcz69_0
              try clear hcz6_0
              try clear hcz77_0
              try clear hcz80_0
              try clear hcz85_0
              try clear hcz88_0
              try clear hfz14_0
              try clear hfz16_0
              try clear hfz23_0
              try clear hfz24_0
              try clear hfz30_0
              try clear hfz37_0
              try clear hfz43_0
              try clear hfz46_0
              try clear hfz51_0
              try clear hfz54_0
              try clear hfz69_0
              try clear hfz6_0
              try clear hfz77_0
              try clear hfz80_0
              try clear hfz85_0
              try clear hfz88_0
              try clear p2
              obtain ⟨kq, x65_60, rfl, HA, HJ60, HO_214000, HO_218000, HO_223000, BK204, BK213, BK217, BK222, HB⟩ := hcut
              have hl218000_60 := (Kd.R_reads' HO_218000.out).1
              rw [hl218000_60] at HO_218000
              (try simp only [hl218000_60])
              (try simp only [hl218000_60] at BK204)
              (try simp only [hl218000_60] at BK213)
              (try simp only [hl218000_60] at BK217)
              (try simp only [hl218000_60] at BK222)
              (try simp only [hl218000_60] at HO_214000)
              (try simp only [hl218000_60] at HO_223000)
              cases kq with
              | zero => exact absurd HA.out (by simp [laws_FnExactRemoveKey.j1])
              | succ kj60 =>
                have H := HA.out
                clear HA
                simp only [laws_FnExactRemoveKey.j1] at H
                by_cases c90 : x65_60 = true
                · subst c90
                  have H1 : (some false) = some r := by rw [if_pos rfl] at H; exact H
                  clear H
                  have H := H1
                  clear H1
                  obtain rfl := Option.some.inj H
                  go_wp2
                  go_ret
                  exact ⟨by first | rfl | (simp [errW_none, errW_some] <;> rfl) | (simp [*, errW_none, errW_some] <;> rfl), by repeat (first | (with_reducible first | exact HB.out | apply below_alloc | apply pw_below_drewN | apply below_drew1 | refine below_set ?_ GE204.out | refine below_set ?_ GE213.out | refine below_set ?_ GE217.out | refine below_set ?_ GE222.out) | exact HB.out)⟩
                · replace c90 := Bool.eq_false_iff.mpr c90
                  subst c90
                  have H1 : ((laws_markTable.f kj60 t218 1).bind fun bt231 => ((laws_heldTable.f kj60 bt231.2 1).bind fun t233 => (if t233 < 0 then (some false) else (if t233 = bt231.1 then ((laws_toTable.f kj60 l0_0).bind fun t234 => ((impl_RemoveKey.f kj60 t234 a1).bind fun bt237 => ((laws_eqTable.f kj60 bt237.1 t209).bind fun t242 => (if t242 = true then (laws_FnExactRemoveKey.j2 kj60 bt231.1 (bt237.2 != t212) bt231.2) else (laws_FnExactRemoveKey.j2 kj60 bt231.1 true bt231.2))))) else (some false))))) = some r := by rw [if_neg (show ¬ (false = true) by decide)] at H; exact H
                  clear H
                  have H := H1
                  clear H1
                  replace H := Option.bind_eq_some_iff.mp H
                  obtain ⟨⟨t231, t232⟩, A910, H⟩ := H
                  replace H : ((laws_heldTable.f kj60 t232 1).bind fun t233 => (if t233 < 0 then (some false) else (if t233 = t231 then ((laws_toTable.f kj60 l0_0).bind fun t234 => ((impl_RemoveKey.f kj60 t234 a1).bind fun bt237 => ((laws_eqTable.f kj60 bt237.1 t209).bind fun t242 => (if t242 = true then (laws_FnExactRemoveKey.j2 kj60 t231 (bt237.2 != t212) t232) else (laws_FnExactRemoveKey.j2 kj60 t231 true t232))))) else (some false)))) = some r := H
                  have A91 := Aside0.mk A910
                  clear A910
                  replace H := Option.bind_eq_some_iff.mp H
                  obtain ⟨t233, A920, H⟩ := H
                  replace H : (if t233 < 0 then (some false) else (if t233 = t231 then ((laws_toTable.f kj60 l0_0).bind fun t234 => ((impl_RemoveKey.f kj60 t234 a1).bind fun bt237 => ((laws_eqTable.f kj60 bt237.1 t209).bind fun t242 => (if t242 = true then (laws_FnExactRemoveKey.j2 kj60 t231 (bt237.2 != t212) t232) else (laws_FnExactRemoveKey.j2 kj60 t231 true t232))))) else (some false))) = some r := H
                  have A92 := Aside0.mk A920
                  clear A920
                  by_cases c93 : t233 < 0
                  · rw [if_pos c93] at H
                    have c93b0 : decide (t233 < 0) = true := decide_eq_true c93
                    clear c93
                    obtain rfl := Option.some.inj H
                    have hnb94 := NB222_204.out
                    have hnc94 := NB204_222.out
                    have hnb95 := NB222_213.out
                    have hnc95 := NB213_222.out
                    have hnb96 := NB222_217.out
                    have hnc96 := NB217_222.out
                    have hcz97_0 : wc.cell? ⟨gb222, 0, none⟩ = some (.slice Ao33 t218.length co33) := (blk_cell BK222.out 0).trans rfl
                    have hfz97_0 := blk_frozen BK222.out 0
                    go_wp2_with (first | ((with_reducible refine gate_callee (f := 9) rfl ?_); refine goesL_ (some 68) rfl rfl Try.func9 (by kernel_rfl) rfl #[.agg #[.slice Ao33 t218.length co33], .int .i64 1] rfl (by (try simp only [List.map_toArray, List.map_cons, List.map_nil]); first | done | rfl | (simp only [List.length_drop, List.length_take]; rfl)) ?_; (with_reducible refine (laws_markTable.calls kj60 (fun k_ => some k_ = (.slice Ao33 t218.length co33 : Value).ownBlock) (.slice Ao33 t218.length co33) t218 1 t231 t232 w _ ?side1 ?side2 A91.out).mono ?_); (case side1 => repeat (first | (with_reducible first | exact HB.out | apply below_alloc | apply pw_below_drewN | apply below_drew1 | refine below_set ?_ GE204.out | refine below_set ?_ GE213.out | refine below_set ?_ GE217.out | refine below_set ?_ GE222.out) | exact HB.out)); (case side2 => exact Kd.R_tight rfl HO_223000.out); rintro e w98 ⟨rfl, hy0, hb, hkp⟩; refine ⟨_, rfl, ?_⟩; have n0_ := Aside0.mk (Kd.R_mono (ok' := fun k_ => some k_ ≠ (.slice Ao27 t229.length co27 : Value).ownBlock ∧ some k_ ≠ (.slice Ao33 t218.length co33 : Value).ownBlock) (Kd.R_keptB (HO_214000.out) hkp (fun k_ hk_ hs_ => (hk_.2) hs_)) (fun k_ hk_ => ⟨hk_.1.1, hk_.1.2⟩)); have n1_ := Aside0.mk (Kd.R_mono (ok' := fun k_ => some k_ ≠ (.slice Ao21 t209.length co21 : Value).ownBlock ∧ some k_ ≠ (.slice Ao33 t218.length co33 : Value).ownBlock) (Kd.R_keptB (HO_218000.out) hkp (fun k_ hk_ hs_ => (hk_.2) hs_)) (fun k_ hk_ => ⟨hk_.1.1, hk_.1.2⟩)); have n2_ := Aside0.mk (Kd.R_reok rfl hy0 (fun k_ e_ => HO_223000.out.1 k_ e_)); have n3_ := Aside0.mk (blk_kept (by (with_reducible repeat (first | refine blk_drewN ?_ _ | refine blk_drew ?_ | refine blk_alloc ?_ _)); exact BK204.out) hkp (fun hs_ => (fun e_ => (Kd.R_ne HO_223000.out BK204.out (by decide)) e_) hs_)); have n4_ := Aside0.mk (blk_kept (by (with_reducible repeat (first | refine blk_drewN ?_ _ | refine blk_drew ?_ | refine blk_alloc ?_ _)); exact BK213.out) hkp (fun hs_ => (fun e_ => (Kd.R_ne HO_223000.out BK213.out (by decide)) e_) hs_)); have n5_ := Aside0.mk (blk_kept (by (with_reducible repeat (first | refine blk_drewN ?_ _ | refine blk_drew ?_ | refine blk_alloc ?_ _)); exact BK217.out) hkp (fun hs_ => (fun e_ => (Kd.R_ne HO_223000.out BK217.out (by decide)) e_) hs_)); have n6_ := Aside0.mk (blk_kept (by (with_reducible repeat (first | refine blk_drewN ?_ _ | refine blk_drew ?_ | refine blk_alloc ?_ _)); exact BK222.out) hkp (fun hs_ => (fun e_ => (Kd.R_ne HO_223000.out BK222.out (by decide)) e_) hs_)); have n7_ := Aside0.mk (hb); clear HO_214000; clear HO_218000; clear HO_223000; clear BK204; clear BK213; clear BK217; clear BK222; clear HB; have HO_214000 := n0_; have HO_218000 := n1_; have HO_223000 := n2_; have BK204 := n3_; have BK213 := n4_; have BK217 := n5_; have BK222 := n6_; have HB := n7_; clear n0_ n1_ n2_ n3_ n4_ n5_ n6_ n7_; (try clear hb); (try clear hkp); (try clear hy0); have hcz99_0 : w98.cell? ⟨gb222, 0, none⟩ = some (.slice Ao33 t218.length co33) := (blk_cell BK222.out 0).trans rfl; have hfz99_0 := blk_frozen BK222.out 0) | ((with_reducible refine gate_callee (f := 10) rfl ?_); refine goesL_ (some 71) rfl rfl Try.func10 (by kernel_rfl) rfl #[.agg #[.slice Ao33 t232.length co33], .int .i64 1] rfl (by (try simp only [List.map_toArray, List.map_cons, List.map_nil]); first | done | (rw [show t232.length = t218.length from (Kd.R_reads' HO_223000.out).1.symm] <;> rfl) | rfl | (simp only [List.length_drop, List.length_take]; rfl)) ?_; (with_reducible refine (laws_heldTable.calls kj60 _ _ t232 1 t233 _ ?side1 ?side2 A92.out).mono ?_); (case side1 => repeat (first | exact (Kd.R_reads' HO_223000.out).2.2 | (with_reducible refine Kd.C_alloc ?_ _) | (with_reducible refine Kd.C_drewN ?_ _) | (with_reducible refine Kd.C_drew ?_))); (case side2 => rw [show t232.length = t218.length from (Kd.R_reads' HO_223000.out).1.symm]; exact (Kd.R_reads' HO_223000.out).2.1); rintro e w100 ⟨rfl, hb⟩; refine ⟨_, rfl, ?_⟩; have n0_ := Aside0.mk (Kd.R_below (by (with_reducible repeat (first | apply Kd.R_alloc | apply Kd.R_drewN | apply Kd.R_drew)); exact HO_214000.out) hb); have n1_ := Aside0.mk (Kd.R_below (by (with_reducible repeat (first | apply Kd.R_alloc | apply Kd.R_drewN | apply Kd.R_drew)); exact HO_218000.out) hb); have n2_ := Aside0.mk (Kd.R_below (by (with_reducible repeat (first | apply Kd.R_alloc | apply Kd.R_drewN | apply Kd.R_drew)); exact HO_223000.out) hb); have n3_ := Aside0.mk (blk_below (g := gb204) (o := .cells #[.slice A0_0 l0_0.length c0_0] 24 (0, 0)) (by (with_reducible repeat (first | refine blk_drewN ?_ _ | refine blk_drew ?_ | refine blk_alloc ?_ _)); exact BK204.out) hb); have n4_ := Aside0.mk (blk_below (g := gb213) (o := .cells #[.slice Ao21 t209.length co21] 26 (0, 0)) (by (with_reducible repeat (first | refine blk_drewN ?_ _ | refine blk_drew ?_ | refine blk_alloc ?_ _)); exact BK213.out) hb); have n5_ := Aside0.mk (blk_below (g := gb217) (o := .cells #[.slice Ao27 t229.length co27] 26 (0, 0)) (by (with_reducible repeat (first | refine blk_drewN ?_ _ | refine blk_drew ?_ | refine blk_alloc ?_ _)); exact BK217.out) hb); have n6_ := Aside0.mk (blk_below (g := gb222) (o := .cells #[.slice Ao33 t218.length co33] 26 (0, 0)) (by (with_reducible repeat (first | refine blk_drewN ?_ _ | refine blk_drew ?_ | refine blk_alloc ?_ _)); exact BK222.out) hb); have n7_ := Aside0.mk (below_step (by repeat (first | (with_reducible first | exact HB.out | apply below_alloc | apply pw_below_drewN | apply below_drew1 | refine below_set ?_ GE204.out | refine below_set ?_ GE213.out | refine below_set ?_ GE217.out | refine below_set ?_ GE222.out) | exact HB.out)) hb); clear HO_214000; clear HO_218000; clear HO_223000; clear BK204; clear BK213; clear BK217; clear BK222; clear HB; have HO_214000 := n0_; have HO_218000 := n1_; have HO_223000 := n2_; have BK204 := n3_; have BK213 := n4_; have BK217 := n5_; have BK222 := n6_; have HB := n7_; clear n0_ n1_ n2_ n3_ n4_ n5_ n6_ n7_; (try clear hb); (try clear hb2); (try clear hk); (try clear hi)))
                    go_ret
                    exact ⟨by first | rfl | (simp [errW_none, errW_some] <;> rfl) | (simp [*, errW_none, errW_some] <;> rfl), by repeat (first | (with_reducible first | exact HB.out | apply below_alloc | apply pw_below_drewN | apply below_drew1 | refine below_set ?_ GE204.out | refine below_set ?_ GE213.out | refine below_set ?_ GE217.out | refine below_set ?_ GE222.out) | exact HB.out)⟩
                  · rw [if_neg c93] at H
                    have c93b0 : decide (t233 < 0) = false := decide_eq_false c93
                    clear c93
                    by_cases c101 : t233 = t231
                    · rw [if_pos c101] at H
                      have c101b0 : (t233 == t231) = true := beq_iff_eq.mpr c101
                      have c101b1 : (t233 != t231) = false := bne_eq_false_iff_eq.mpr c101
                      clear c101
                      replace H := Option.bind_eq_some_iff.mp H
                      obtain ⟨t234, A1020, H⟩ := H
                      replace H : ((impl_RemoveKey.f kj60 t234 a1).bind fun bt237 => ((laws_eqTable.f kj60 bt237.1 t209).bind fun t242 => (if t242 = true then (laws_FnExactRemoveKey.j2 kj60 t231 (bt237.2 != t212) t232) else (laws_FnExactRemoveKey.j2 kj60 t231 true t232)))) = some r := H
                      have A102 := Aside0.mk A1020
                      clear A1020
                      replace H := Option.bind_eq_some_iff.mp H
                      obtain ⟨⟨t237, t240⟩, A1030, H⟩ := H
                      replace H : ((laws_eqTable.f kj60 t237 t209).bind fun t242 => (if t242 = true then (laws_FnExactRemoveKey.j2 kj60 t231 (t240 != t212) t232) else (laws_FnExactRemoveKey.j2 kj60 t231 true t232))) = some r := H
                      have A103 := Aside0.mk A1030
                      clear A1030
                      have HC104 := Aside0.mk H
                      clear H
                      have hnb105 := NB222_204.out
                      have hnc105 := NB204_222.out
                      have hnb106 := NB222_213.out
                      have hnc106 := NB213_222.out
                      have hnb107 := NB222_217.out
                      have hnc107 := NB217_222.out
                      have hcz108_0 : wc.cell? ⟨gb222, 0, none⟩ = some (.slice Ao33 t218.length co33) := (blk_cell BK222.out 0).trans rfl
                      have hfz108_0 := blk_frozen BK222.out 0
                      go_upto_region 25 with (first | ((with_reducible refine gate_callee (f := 9) rfl ?_); refine goesL_ (some 68) rfl rfl Try.func9 (by kernel_rfl) rfl #[.agg #[.slice Ao33 t218.length co33], .int .i64 1] rfl (by (try simp only [List.map_toArray, List.map_cons, List.map_nil]); first | done | rfl | (simp only [List.length_drop, List.length_take]; rfl)) ?_; (with_reducible refine (laws_markTable.calls kj60 (fun k_ => some k_ = (.slice Ao33 t218.length co33 : Value).ownBlock) (.slice Ao33 t218.length co33) t218 1 t231 t232 w _ ?side1 ?side2 A91.out).mono ?_); (case side1 => repeat (first | (with_reducible first | exact HB.out | apply below_alloc | apply pw_below_drewN | apply below_drew1 | refine below_set ?_ GE204.out | refine below_set ?_ GE213.out | refine below_set ?_ GE217.out | refine below_set ?_ GE222.out) | exact HB.out)); (case side2 => exact Kd.R_tight rfl HO_223000.out); rintro e w109 ⟨rfl, hy0, hb, hkp⟩; refine ⟨_, rfl, ?_⟩; have n0_ := Aside0.mk (Kd.R_mono (ok' := fun k_ => some k_ ≠ (.slice Ao27 t229.length co27 : Value).ownBlock ∧ some k_ ≠ (.slice Ao33 t218.length co33 : Value).ownBlock) (Kd.R_keptB (HO_214000.out) hkp (fun k_ hk_ hs_ => (hk_.2) hs_)) (fun k_ hk_ => ⟨hk_.1.1, hk_.1.2⟩)); have n1_ := Aside0.mk (Kd.R_mono (ok' := fun k_ => some k_ ≠ (.slice Ao21 t209.length co21 : Value).ownBlock ∧ some k_ ≠ (.slice Ao33 t218.length co33 : Value).ownBlock) (Kd.R_keptB (HO_218000.out) hkp (fun k_ hk_ hs_ => (hk_.2) hs_)) (fun k_ hk_ => ⟨hk_.1.1, hk_.1.2⟩)); have n2_ := Aside0.mk (Kd.R_reok rfl hy0 (fun k_ e_ => HO_223000.out.1 k_ e_)); have n3_ := Aside0.mk (blk_kept (by (with_reducible repeat (first | refine blk_drewN ?_ _ | refine blk_drew ?_ | refine blk_alloc ?_ _)); exact BK204.out) hkp (fun hs_ => (fun e_ => (Kd.R_ne HO_223000.out BK204.out (by decide)) e_) hs_)); have n4_ := Aside0.mk (blk_kept (by (with_reducible repeat (first | refine blk_drewN ?_ _ | refine blk_drew ?_ | refine blk_alloc ?_ _)); exact BK213.out) hkp (fun hs_ => (fun e_ => (Kd.R_ne HO_223000.out BK213.out (by decide)) e_) hs_)); have n5_ := Aside0.mk (blk_kept (by (with_reducible repeat (first | refine blk_drewN ?_ _ | refine blk_drew ?_ | refine blk_alloc ?_ _)); exact BK217.out) hkp (fun hs_ => (fun e_ => (Kd.R_ne HO_223000.out BK217.out (by decide)) e_) hs_)); have n6_ := Aside0.mk (blk_kept (by (with_reducible repeat (first | refine blk_drewN ?_ _ | refine blk_drew ?_ | refine blk_alloc ?_ _)); exact BK222.out) hkp (fun hs_ => (fun e_ => (Kd.R_ne HO_223000.out BK222.out (by decide)) e_) hs_)); have n7_ := Aside0.mk (hb); clear HO_214000; clear HO_218000; clear HO_223000; clear BK204; clear BK213; clear BK217; clear BK222; clear HB; have HO_214000 := n0_; have HO_218000 := n1_; have HO_223000 := n2_; have BK204 := n3_; have BK213 := n4_; have BK217 := n5_; have BK222 := n6_; have HB := n7_; clear n0_ n1_ n2_ n3_ n4_ n5_ n6_ n7_; (try clear hb); (try clear hkp); (try clear hy0); have hcz110_0 : w109.cell? ⟨gb222, 0, none⟩ = some (.slice Ao33 t218.length co33) := (blk_cell BK222.out 0).trans rfl; have hfz110_0 := blk_frozen BK222.out 0) | ((with_reducible refine gate_callee (f := 10) rfl ?_); refine goesL_ (some 71) rfl rfl Try.func10 (by kernel_rfl) rfl #[.agg #[.slice Ao33 t232.length co33], .int .i64 1] rfl (by (try simp only [List.map_toArray, List.map_cons, List.map_nil]); first | done | (rw [show t232.length = t218.length from (Kd.R_reads' HO_223000.out).1.symm] <;> rfl) | rfl | (simp only [List.length_drop, List.length_take]; rfl)) ?_; (with_reducible refine (laws_heldTable.calls kj60 _ _ t232 1 t233 _ ?side1 ?side2 A92.out).mono ?_); (case side1 => repeat (first | exact (Kd.R_reads' HO_223000.out).2.2 | (with_reducible refine Kd.C_alloc ?_ _) | (with_reducible refine Kd.C_drewN ?_ _) | (with_reducible refine Kd.C_drew ?_))); (case side2 => rw [show t232.length = t218.length from (Kd.R_reads' HO_223000.out).1.symm]; exact (Kd.R_reads' HO_223000.out).2.1); rintro e w111 ⟨rfl, hb⟩; refine ⟨_, rfl, ?_⟩; have n0_ := Aside0.mk (Kd.R_below (by (with_reducible repeat (first | apply Kd.R_alloc | apply Kd.R_drewN | apply Kd.R_drew)); exact HO_214000.out) hb); have n1_ := Aside0.mk (Kd.R_below (by (with_reducible repeat (first | apply Kd.R_alloc | apply Kd.R_drewN | apply Kd.R_drew)); exact HO_218000.out) hb); have n2_ := Aside0.mk (Kd.R_below (by (with_reducible repeat (first | apply Kd.R_alloc | apply Kd.R_drewN | apply Kd.R_drew)); exact HO_223000.out) hb); have n3_ := Aside0.mk (blk_below (g := gb204) (o := .cells #[.slice A0_0 l0_0.length c0_0] 24 (0, 0)) (by (with_reducible repeat (first | refine blk_drewN ?_ _ | refine blk_drew ?_ | refine blk_alloc ?_ _)); exact BK204.out) hb); have n4_ := Aside0.mk (blk_below (g := gb213) (o := .cells #[.slice Ao21 t209.length co21] 26 (0, 0)) (by (with_reducible repeat (first | refine blk_drewN ?_ _ | refine blk_drew ?_ | refine blk_alloc ?_ _)); exact BK213.out) hb); have n5_ := Aside0.mk (blk_below (g := gb217) (o := .cells #[.slice Ao27 t229.length co27] 26 (0, 0)) (by (with_reducible repeat (first | refine blk_drewN ?_ _ | refine blk_drew ?_ | refine blk_alloc ?_ _)); exact BK217.out) hb); have n6_ := Aside0.mk (blk_below (g := gb222) (o := .cells #[.slice Ao33 t218.length co33] 26 (0, 0)) (by (with_reducible repeat (first | refine blk_drewN ?_ _ | refine blk_drew ?_ | refine blk_alloc ?_ _)); exact BK222.out) hb); have n7_ := Aside0.mk (below_step (by repeat (first | (with_reducible first | exact HB.out | apply below_alloc | apply pw_below_drewN | apply below_drew1 | refine below_set ?_ GE204.out | refine below_set ?_ GE213.out | refine below_set ?_ GE217.out | refine below_set ?_ GE222.out) | exact HB.out)) hb); clear HO_214000; clear HO_218000; clear HO_223000; clear BK204; clear BK213; clear BK217; clear BK222; clear HB; have HO_214000 := n0_; have HO_218000 := n1_; have HO_223000 := n2_; have BK204 := n3_; have BK213 := n4_; have BK217 := n5_; have BK222 := n6_; have HB := n7_; clear n0_ n1_ n2_ n3_ n4_ n5_ n6_ n7_; (try clear hb); (try clear hb2); (try clear hk); (try clear hi); have hnb112 := NB204_213.out; have hnc112 := NB213_204.out; have hnb113 := NB204_217.out; have hnc113 := NB217_204.out; have hcz114_0 : w111.cell? ⟨gb204, 0, none⟩ = some (.slice A0_0 l0_0.length c0_0) := (blk_cell BK204.out 0).trans rfl; have hfz114_0 := blk_frozen BK204.out 0) | ((with_reducible refine gate_callee (f := 6) rfl ?_); refine goesL_ (some 79) rfl rfl Try.func6 (by kernel_rfl) rfl #[.agg #[.slice A0_0 l0_0.length c0_0]] rfl (by (try simp only [List.map_toArray, List.map_cons, List.map_nil]); first | done | rfl | (simp only [List.length_drop, List.length_take]; rfl)) ?_; (with_reducible refine (laws_toTable.calls kj60 _ _ l0_0 t234 _ ?side1 ?side2 A102.out).mono ?_); (case side1 => repeat (first | exact (Kd.C_below HR0_0.out HB.out) | (with_reducible refine Kd.C_alloc ?_ _) | (with_reducible refine Kd.C_drewN ?_ _) | (with_reducible refine Kd.C_drew ?_))); (case side2 => exact HC0_0.out); rintro e w115 ⟨v235, rfl, ho0, hb⟩; refine ⟨_, rfl, ?_⟩; have n0_ := Aside0.mk (Kd.R_elder' (by (with_reducible repeat (first | apply Kd.R_alloc | apply Kd.R_drewN | apply Kd.R_drew)); exact HO_214000.out) (Kd.R_base ho0) hb); have n1_ := Aside0.mk (Kd.R_elder' (by (with_reducible repeat (first | apply Kd.R_alloc | apply Kd.R_drewN | apply Kd.R_drew)); exact HO_218000.out) (Kd.R_base ho0) hb); have n2_ := Aside0.mk (Kd.R_elder' (by (with_reducible repeat (first | apply Kd.R_alloc | apply Kd.R_drewN | apply Kd.R_drew)); exact HO_223000.out) (Kd.R_base ho0) hb); have n3_ := Aside0.mk (Kd.R_lower (Kd.R_new' (Kd.R_new' (Kd.R_new' ho0 (Kd.R_lt (by (with_reducible repeat (first | apply Kd.R_alloc | apply Kd.R_drewN | apply Kd.R_drew)); exact HO_214000.out))) (Kd.R_lt (by (with_reducible repeat (first | apply Kd.R_alloc | apply Kd.R_drewN | apply Kd.R_drew)); exact HO_218000.out))) (Kd.R_lt (by (with_reducible repeat (first | apply Kd.R_alloc | apply Kd.R_drewN | apply Kd.R_drew)); exact HO_223000.out))) (below_size (by repeat (first | (with_reducible first | exact HB.out | apply below_alloc | apply pw_below_drewN | apply below_drew1 | refine below_set ?_ GE204.out | refine below_set ?_ GE213.out | refine below_set ?_ GE217.out | refine below_set ?_ GE222.out) | exact HB.out)))); have n4_ := Aside0.mk (blk_below (g := gb204) (o := .cells #[.slice A0_0 l0_0.length c0_0] 24 (0, 0)) (by (with_reducible repeat (first | refine blk_drewN ?_ _ | refine blk_drew ?_ | refine blk_alloc ?_ _)); exact BK204.out) hb); have n5_ := Aside0.mk (blk_below (g := gb213) (o := .cells #[.slice Ao21 t209.length co21] 26 (0, 0)) (by (with_reducible repeat (first | refine blk_drewN ?_ _ | refine blk_drew ?_ | refine blk_alloc ?_ _)); exact BK213.out) hb); have n6_ := Aside0.mk (blk_below (g := gb217) (o := .cells #[.slice Ao27 t229.length co27] 26 (0, 0)) (by (with_reducible repeat (first | refine blk_drewN ?_ _ | refine blk_drew ?_ | refine blk_alloc ?_ _)); exact BK217.out) hb); have n7_ := Aside0.mk (blk_below (g := gb222) (o := .cells #[.slice Ao33 t218.length co33] 26 (0, 0)) (by (with_reducible repeat (first | refine blk_drewN ?_ _ | refine blk_drew ?_ | refine blk_alloc ?_ _)); exact BK222.out) hb); have n8_ := Aside0.mk (below_step (by repeat (first | (with_reducible first | exact HB.out | apply below_alloc | apply pw_below_drewN | apply below_drew1 | refine below_set ?_ GE204.out | refine below_set ?_ GE213.out | refine below_set ?_ GE217.out | refine below_set ?_ GE222.out) | exact HB.out)) hb); clear HO_214000; clear HO_218000; clear HO_223000; clear BK204; clear BK213; clear BK217; clear BK222; clear HB; have HO_214000 := n0_; have HO_218000 := n1_; have HO_223000 := n2_; have HO236 := n3_; have BK204 := n4_; have BK213 := n5_; have BK217 := n6_; have BK222 := n7_; have HB := n8_; clear n0_ n1_ n2_ n3_ n4_ n5_ n6_ n7_ n8_; (try clear hb); (try clear hb2); (try clear hk); (try clear hi); (try clear ho0); obtain ⟨Ao116, co116, eo116⟩ := Kd.R_slice HO236.out; subst eo116) | ((with_reducible refine gate_callee (f := 7) rfl ?_); refine goesL_ (some 81) rfl rfl Try.func7 (by kernel_rfl) rfl #[.agg #[.slice Ao116 t234.length co116], .int .i64 a1] rfl (by (try simp only [List.map_toArray, List.map_cons, List.map_nil]); first | done | rfl | (simp only [List.length_drop, List.length_take]; rfl)) ?_; (with_reducible refine (impl_RemoveKey.calls kj60 _ _ t234 a1 t237 t240 _ ?side1 ?side2 A103.out).mono ?_); (case side1 => repeat (first | exact (Kd.R_reads' HO236.out).2.2 | (with_reducible refine Kd.C_alloc ?_ _) | (with_reducible refine Kd.C_drewN ?_ _) | (with_reducible refine Kd.C_drew ?_))); (case side2 => exact (Kd.R_reads' HO236.out).2.1); rintro e w117 ⟨v238, rfl, ho0, hb⟩; refine ⟨_, rfl, ?_⟩; have n0_ := Aside0.mk (Kd.R_elder' (by (with_reducible repeat (first | apply Kd.R_alloc | apply Kd.R_drewN | apply Kd.R_drew)); exact HO_214000.out) (Kd.R_base ho0) hb); have n1_ := Aside0.mk (Kd.R_elder' (by (with_reducible repeat (first | apply Kd.R_alloc | apply Kd.R_drewN | apply Kd.R_drew)); exact HO_218000.out) (Kd.R_base ho0) hb); have n2_ := Aside0.mk (Kd.R_elder' (by (with_reducible repeat (first | apply Kd.R_alloc | apply Kd.R_drewN | apply Kd.R_drew)); exact HO_223000.out) (Kd.R_base ho0) hb); have n3_ := Aside0.mk (Kd.R_elder' (by (with_reducible repeat (first | apply Kd.R_alloc | apply Kd.R_drewN | apply Kd.R_drew)); exact HO236.out) (Kd.R_base ho0) hb); have n4_ := Aside0.mk (Kd.R_lower (Kd.R_new' (Kd.R_new' (Kd.R_new' (Kd.R_new' ho0 (Kd.R_lt (by (with_reducible repeat (first | apply Kd.R_alloc | apply Kd.R_drewN | apply Kd.R_drew)); exact HO_214000.out))) (Kd.R_lt (by (with_reducible repeat (first | apply Kd.R_alloc | apply Kd.R_drewN | apply Kd.R_drew)); exact HO_218000.out))) (Kd.R_lt (by (with_reducible repeat (first | apply Kd.R_alloc | apply Kd.R_drewN | apply Kd.R_drew)); exact HO_223000.out))) (Kd.R_lt (by (with_reducible repeat (first | apply Kd.R_alloc | apply Kd.R_drewN | apply Kd.R_drew)); exact HO236.out))) (below_size (by repeat (first | (with_reducible first | exact HB.out | apply below_alloc | apply pw_below_drewN | apply below_drew1 | refine below_set ?_ GE204.out | refine below_set ?_ GE213.out | refine below_set ?_ GE217.out | refine below_set ?_ GE222.out) | exact HB.out)))); have n5_ := Aside0.mk (blk_below (g := gb204) (o := .cells #[.slice A0_0 l0_0.length c0_0] 24 (0, 0)) (by (with_reducible repeat (first | refine blk_drewN ?_ _ | refine blk_drew ?_ | refine blk_alloc ?_ _)); exact BK204.out) hb); have n6_ := Aside0.mk (blk_below (g := gb213) (o := .cells #[.slice Ao21 t209.length co21] 26 (0, 0)) (by (with_reducible repeat (first | refine blk_drewN ?_ _ | refine blk_drew ?_ | refine blk_alloc ?_ _)); exact BK213.out) hb); have n7_ := Aside0.mk (blk_below (g := gb217) (o := .cells #[.slice Ao27 t229.length co27] 26 (0, 0)) (by (with_reducible repeat (first | refine blk_drewN ?_ _ | refine blk_drew ?_ | refine blk_alloc ?_ _)); exact BK217.out) hb); have n8_ := Aside0.mk (blk_below (g := gb222) (o := .cells #[.slice Ao33 t218.length co33] 26 (0, 0)) (by (with_reducible repeat (first | refine blk_drewN ?_ _ | refine blk_drew ?_ | refine blk_alloc ?_ _)); exact BK222.out) hb); have n9_ := Aside0.mk (below_step (by repeat (first | (with_reducible first | exact HB.out | apply below_alloc | apply pw_below_drewN | apply below_drew1 | refine below_set ?_ GE204.out | refine below_set ?_ GE213.out | refine below_set ?_ GE217.out | refine below_set ?_ GE222.out) | exact HB.out)) hb); clear HO_214000; clear HO_218000; clear HO_223000; clear HO236; clear BK204; clear BK213; clear BK217; clear BK222; clear HB; have HO_214000 := n0_; have HO_218000 := n1_; have HO_223000 := n2_; have HO236 := n3_; have HO239 := n4_; have BK204 := n5_; have BK213 := n6_; have BK217 := n7_; have BK222 := n8_; have HB := n9_; clear n0_ n1_ n2_ n3_ n4_ n5_ n6_ n7_ n8_ n9_; (try clear hb); (try clear hb2); (try clear hk); (try clear hi); (try clear ho0)) | ((with_reducible refine gate_dst (N := 14) rfl ?_); refine box_event ?hg (N := 14) ?hd (cs := #[.slice none 0 0]) (t := 26) ?hr ?_; (case hd => rfl); (case hg => rfl); (case hr => first | (go_simp; done) | (go_simp; rfl)); intro gb241 hg w118 hbox hb; have n0_ := Aside0.mk (Kd.R_below (by (with_reducible repeat (first | apply Kd.R_alloc | apply Kd.R_drewN | apply Kd.R_drew)); exact HO_214000.out) hb); have n1_ := Aside0.mk (Kd.R_below (by (with_reducible repeat (first | apply Kd.R_alloc | apply Kd.R_drewN | apply Kd.R_drew)); exact HO_218000.out) hb); have n2_ := Aside0.mk (Kd.R_below (by (with_reducible repeat (first | apply Kd.R_alloc | apply Kd.R_drewN | apply Kd.R_drew)); exact HO_223000.out) hb); have n3_ := Aside0.mk (Kd.R_below (by (with_reducible repeat (first | apply Kd.R_alloc | apply Kd.R_drewN | apply Kd.R_drew)); exact HO236.out) hb); have n4_ := Aside0.mk (Kd.R_below (by (with_reducible repeat (first | apply Kd.R_alloc | apply Kd.R_drewN | apply Kd.R_drew)); exact HO239.out) hb); have n5_ := Aside0.mk (blk_below (g := gb204) (o := .cells #[.slice A0_0 l0_0.length c0_0] 24 (0, 0)) (by (with_reducible repeat (first | refine blk_drewN ?_ _ | refine blk_drew ?_ | refine blk_alloc ?_ _)); exact BK204.out) hb); have n6_ := Aside0.mk (blk_below (g := gb213) (o := .cells #[.slice Ao21 t209.length co21] 26 (0, 0)) (by (with_reducible repeat (first | refine blk_drewN ?_ _ | refine blk_drew ?_ | refine blk_alloc ?_ _)); exact BK213.out) hb); have n7_ := Aside0.mk (blk_below (g := gb217) (o := .cells #[.slice Ao27 t229.length co27] 26 (0, 0)) (by (with_reducible repeat (first | refine blk_drewN ?_ _ | refine blk_drew ?_ | refine blk_alloc ?_ _)); exact BK217.out) hb); have n8_ := Aside0.mk (blk_below (g := gb222) (o := .cells #[.slice Ao33 t218.length co33] 26 (0, 0)) (by (with_reducible repeat (first | refine blk_drewN ?_ _ | refine blk_drew ?_ | refine blk_alloc ?_ _)); exact BK222.out) hb); have n9_ := Aside0.mk (below_step (by repeat (first | (with_reducible first | exact HB.out | apply below_alloc | apply pw_below_drewN | apply below_drew1 | refine below_set ?_ GE204.out | refine below_set ?_ GE213.out | refine below_set ?_ GE217.out | refine below_set ?_ GE222.out) | exact HB.out)) hb); have n10_ := Aside0.mk (hbox); have n11_ := Aside0.mk ((by rw [hg]; exact (below_size (by repeat (first | (with_reducible first | exact HB.out | apply below_alloc | apply pw_below_drewN | apply below_drew1 | refine below_set ?_ GE204.out | refine below_set ?_ GE213.out | refine below_set ?_ GE217.out | refine below_set ?_ GE222.out) | exact HB.out))) : w.heap.size ≤ gb241)); have n12_ := Aside0.mk ((by rw [hg]; exact (below_size (by repeat (first | (with_reducible first | exact HB.out | apply below_alloc | apply pw_below_drewN | apply below_drew1 | refine below_set ?_ GE204.out | refine below_set ?_ GE213.out | refine below_set ?_ GE217.out | refine below_set ?_ GE222.out) | exact HB.out))) : w.heap.size ≤ gb241)); have n13_ := Aside0.mk ((by rw [hg]; exact Nat.ne_of_lt (blk_lt (g := gb204) (o := .cells #[.slice A0_0 l0_0.length c0_0] 24 (0, 0)) (by (with_reducible repeat (first | refine blk_drewN ?_ _ | refine blk_drew ?_ | refine blk_alloc ?_ _)); exact BK204.out)) : gb204 ≠ gb241)); have n14_ := Aside0.mk ((by rw [hg]; exact Nat.ne_of_gt (blk_lt (g := gb204) (o := .cells #[.slice A0_0 l0_0.length c0_0] 24 (0, 0)) (by (with_reducible repeat (first | refine blk_drewN ?_ _ | refine blk_drew ?_ | refine blk_alloc ?_ _)); exact BK204.out)) : gb241 ≠ gb204)); have n15_ := Aside0.mk ((by rw [hg]; exact Nat.ne_of_lt (blk_lt (g := gb213) (o := .cells #[.slice Ao21 t209.length co21] 26 (0, 0)) (by (with_reducible repeat (first | refine blk_drewN ?_ _ | refine blk_drew ?_ | refine blk_alloc ?_ _)); exact BK213.out)) : gb213 ≠ gb241)); have n16_ := Aside0.mk ((by rw [hg]; exact Nat.ne_of_gt (blk_lt (g := gb213) (o := .cells #[.slice Ao21 t209.length co21] 26 (0, 0)) (by (with_reducible repeat (first | refine blk_drewN ?_ _ | refine blk_drew ?_ | refine blk_alloc ?_ _)); exact BK213.out)) : gb241 ≠ gb213)); have n17_ := Aside0.mk ((by rw [hg]; exact Nat.ne_of_lt (blk_lt (g := gb217) (o := .cells #[.slice Ao27 t229.length co27] 26 (0, 0)) (by (with_reducible repeat (first | refine blk_drewN ?_ _ | refine blk_drew ?_ | refine blk_alloc ?_ _)); exact BK217.out)) : gb217 ≠ gb241)); have n18_ := Aside0.mk ((by rw [hg]; exact Nat.ne_of_gt (blk_lt (g := gb217) (o := .cells #[.slice Ao27 t229.length co27] 26 (0, 0)) (by (with_reducible repeat (first | refine blk_drewN ?_ _ | refine blk_drew ?_ | refine blk_alloc ?_ _)); exact BK217.out)) : gb241 ≠ gb217)); have n19_ := Aside0.mk ((by rw [hg]; exact Nat.ne_of_lt (blk_lt (g := gb222) (o := .cells #[.slice Ao33 t218.length co33] 26 (0, 0)) (by (with_reducible repeat (first | refine blk_drewN ?_ _ | refine blk_drew ?_ | refine blk_alloc ?_ _)); exact BK222.out)) : gb222 ≠ gb241)); have n20_ := Aside0.mk ((by rw [hg]; exact Nat.ne_of_gt (blk_lt (g := gb222) (o := .cells #[.slice Ao33 t218.length co33] 26 (0, 0)) (by (with_reducible repeat (first | refine blk_drewN ?_ _ | refine blk_drew ?_ | refine blk_alloc ?_ _)); exact BK222.out)) : gb241 ≠ gb222)); clear HO_214000; clear HO_218000; clear HO_223000; clear HO236; clear HO239; clear BK204; clear BK213; clear BK217; clear BK222; clear HB; have HO_214000 := n0_; have HO_218000 := n1_; have HO_223000 := n2_; have HO236 := n3_; have HO239 := n4_; have BK204 := n5_; have BK213 := n6_; have BK217 := n7_; have BK222 := n8_; have HB := n9_; have BK241 := n10_; have GW241 := n11_; have GE241 := n12_; have NB204_241 := n13_; have NB241_204 := n14_; have NB213_241 := n15_; have NB241_213 := n16_; have NB217_241 := n17_; have NB241_217 := n18_; have NB222_241 := n19_; have NB241_222 := n20_; clear n0_ n1_ n2_ n3_ n4_ n5_ n6_ n7_ n8_ n9_ n10_ n11_ n12_ n13_ n14_ n15_ n16_ n17_ n18_ n19_ n20_; clear hb hbox hg; obtain ⟨Ao119, co119, eo119⟩ := Kd.R_slice HO239.out; subst eo119; have hnb120 := NB241_204.out; have hnc120 := NB204_241.out; have hnb121 := NB241_213.out; have hnc121 := NB213_241.out; have hnb122 := NB241_217.out; have hnc122 := NB217_241.out; have hnb123 := NB241_222.out; have hnc123 := NB222_241.out; have hcz124_0 : w118.cell? ⟨gb241, 0, none⟩ = some (.slice none 0 0) := (blk_cell BK241.out 0).trans rfl; have hfz124_0 := blk_frozen BK241.out 0))
                      (try simp only [Act.put, List.setIfInBounds_toArray, List.set_cons_zero, List.set_cons_succ])
                      go_cut [92] (fun v92 wc => ∃ (kq : Nat) (x92_103 : Bool), v92 = .bool x92_103 ∧ Aside0 (laws_FnExactRemoveKey.j2 kq t231 x92_103 t232 = some r) ∧ Aside0 (kq ≤ kj60) ∧ Aside0 (Kd.R (Kd.int .i64) 3 wc w.heap.size (fun k_ => some k_ ≠ ((.slice Ao27 t229.length co27) : Value).ownBlock ∧ some k_ ≠ ((.slice Ao33 t218.length co33) : Value).ownBlock ∧ some k_ ≠ ((.slice Ao119 t237.length co119) : Value).ownBlock) (.slice Ao21 t209.length co21) t209) ∧ Aside0 (Kd.R (Kd.int .i64) 3 wc w.heap.size (fun k_ => some k_ ≠ ((.slice Ao21 t209.length co21) : Value).ownBlock ∧ some k_ ≠ ((.slice Ao33 t218.length co33) : Value).ownBlock ∧ some k_ ≠ ((.slice Ao119 t237.length co119) : Value).ownBlock) (.slice Ao27 t229.length co27) t229) ∧ Aside0 (Kd.R (Kd.int .i64) 3 wc w.heap.size (fun k_ => some k_ ≠ ((.slice Ao21 t209.length co21) : Value).ownBlock ∧ some k_ ≠ ((.slice Ao27 t229.length co27) : Value).ownBlock ∧ some k_ ≠ ((.slice Ao119 t237.length co119) : Value).ownBlock) (.slice Ao33 t218.length co33) t232) ∧ Aside0 (Kd.R (Kd.int .i64) 3 wc w.heap.size (fun k_ => some k_ ≠ ((.slice Ao21 t209.length co21) : Value).ownBlock ∧ some k_ ≠ ((.slice Ao27 t229.length co27) : Value).ownBlock ∧ some k_ ≠ ((.slice Ao33 t218.length co33) : Value).ownBlock) (.slice Ao119 t237.length co119) t237) ∧ Aside0 (wc.heap[gb204]? = some (.cells #[(.slice A0_0 l0_0.length c0_0)] 24 (0, 0))) ∧ Aside0 (wc.heap[gb213]? = some (.cells #[(.slice Ao21 t209.length co21)] 26 (0, 0))) ∧ Aside0 (wc.heap[gb217]? = some (.cells #[(.slice Ao27 t229.length co27)] 26 (0, 0))) ∧ Aside0 (wc.heap[gb222]? = some (.cells #[(.slice Ao33 t218.length co33)] 26 (0, 0))) ∧ Aside0 (wc.heap[gb241]? = some (.cells #[(.slice Ao119 t237.length co119)] 26 (0, 0))) ∧ Aside0 (Below w.heap.size w wc))
                      case first =>
                        have H := HC104.out
                        clear HC104
                        replace H := Option.bind_eq_some_iff.mp H
                        obtain ⟨t242, A1250, H⟩ := H
                        replace H : (if t242 = true then (laws_FnExactRemoveKey.j2 kj60 t231 (t240 != t212) t232) else (laws_FnExactRemoveKey.j2 kj60 t231 true t232)) = some r := H
                        have A125 := Aside0.mk A1250
                        clear A1250
                        by_cases c126 : t242 = true
                        · subst c126
                          have H1 : (laws_FnExactRemoveKey.j2 kj60 t231 (t240 != t212) t232) = some r := by rw [if_pos rfl] at H; exact H
                          clear H
                          have H := H1
                          clear H1
                          have H' := Aside0.mk H
                          clear H
                          have hnb127 := NB241_204.out
                          have hnc127 := NB204_241.out
                          have hnb128 := NB241_213.out
                          have hnc128 := NB213_241.out
                          have hnb129 := NB241_217.out
                          have hnc129 := NB217_241.out
                          have hnb130 := NB241_222.out
                          have hnc130 := NB222_241.out
                          have hcz131_0 : w118.cell? ⟨gb241, 0, none⟩ = some (.slice none 0 0) := (blk_cell BK241.out 0).trans rfl
                          have hfz131_0 := blk_frozen BK241.out 0
                          have hnb132 := NB213_204.out
                          have hnc132 := NB204_213.out
                          have hnb133 := NB213_217.out
                          have hnc133 := NB217_213.out
                          have hnb134 := NB213_222.out
                          have hnc134 := NB222_213.out
                          have hcz135_0 : w118.cell? ⟨gb213, 0, none⟩ = some (.slice Ao21 t209.length co21) := (blk_cell BK213.out 0).trans rfl
                          have hfz135_0 := blk_frozen BK213.out 0
                          go_wp2_with (first | ((with_reducible refine gate_callee (f := 8) rfl ?_); refine goesL_ (some 86) rfl rfl Try.func8 (by kernel_rfl) rfl #[.agg #[.slice Ao119 t237.length co119], .agg #[.slice Ao21 t209.length co21]] rfl (by (try simp only [List.map_toArray, List.map_cons, List.map_nil]); first | done | rfl | (simp only [List.length_drop, List.length_take]; rfl)) ?_; (with_reducible refine (laws_eqTable.calls kj60 _ _ t237 _ _ t209 true _ ?side1 ?side2 ?side3 ?side4 A125.out).mono ?_); (case side1 => refine (Kd.R_reads' (e := 3) (base := w.heap.size) (ok := fun k_ => ((((True ∧ some k_ ≠ (.slice Ao21 t209.length co21 : Value).ownBlock) ∧ some k_ ≠ (.slice Ao27 t229.length co27 : Value).ownBlock) ∧ some k_ ≠ (.slice Ao33 t218.length co33 : Value).ownBlock) ∧ some k_ ≠ (.slice Ao116 t234.length co116 : Value).ownBlock)) (n := t237.length) (c := co119) ?_).2.2; exact (by (with_reducible repeat (first | apply Kd.R_alloc | apply Kd.R_drewN | apply Kd.R_drew)); exact (Kd.R_mono (Kd.R_far (p := ⟨gb241, 0, none⟩) (Kd.R_types HO239.out BK241.out (by decide)) (fun _ hk => hk.2) (.slice Ao119 t237.length co119)) (fun _ h_ => h_.1)))); (case side2 => exact (Kd.R_reads' HO239.out).2.1); (case side3 => refine (Kd.R_reads' (e := 3) (base := w.heap.size) (ok := fun k_ => (((some k_ ≠ (.slice Ao27 t229.length co27 : Value).ownBlock ∧ some k_ ≠ (.slice Ao33 t218.length co33 : Value).ownBlock) ∧ some k_ ≠ (.slice Ao116 t234.length co116 : Value).ownBlock) ∧ some k_ ≠ (.slice Ao119 t237.length co119 : Value).ownBlock)) (n := t209.length) (c := co21) ?_).2.2; exact (by (with_reducible repeat (first | apply Kd.R_alloc | apply Kd.R_drewN | apply Kd.R_drew)); exact (Kd.R_mono (Kd.R_far (p := ⟨gb241, 0, none⟩) (Kd.R_types HO_214000.out BK241.out (by decide)) (fun _ hk => hk.2) (.slice Ao119 t237.length co119)) (fun _ h_ => h_.1)))); (case side4 => exact (Kd.R_reads' HO_214000.out).2.1); rintro e w136 ⟨rfl, hb⟩; refine ⟨_, rfl, ?_⟩; have n0_ := Aside0.mk (Kd.R_below (by (with_reducible repeat (first | apply Kd.R_alloc | apply Kd.R_drewN | apply Kd.R_drew)); exact (Kd.R_mono (Kd.R_far (p := ⟨gb241, 0, none⟩) (Kd.R_types HO_214000.out BK241.out (by decide)) (fun _ hk => hk.2) (.slice Ao119 t237.length co119)) (fun _ h_ => h_.1))) hb); have n1_ := Aside0.mk (Kd.R_below (by (with_reducible repeat (first | apply Kd.R_alloc | apply Kd.R_drewN | apply Kd.R_drew)); exact (Kd.R_mono (Kd.R_far (p := ⟨gb241, 0, none⟩) (Kd.R_types HO_218000.out BK241.out (by decide)) (fun _ hk => hk.2) (.slice Ao119 t237.length co119)) (fun _ h_ => h_.1))) hb); have n2_ := Aside0.mk (Kd.R_below (by (with_reducible repeat (first | apply Kd.R_alloc | apply Kd.R_drewN | apply Kd.R_drew)); exact (Kd.R_mono (Kd.R_far (p := ⟨gb241, 0, none⟩) (Kd.R_types HO_223000.out BK241.out (by decide)) (fun _ hk => hk.2) (.slice Ao119 t237.length co119)) (fun _ h_ => h_.1))) hb); have n3_ := Aside0.mk (Kd.R_below (by (with_reducible repeat (first | apply Kd.R_alloc | apply Kd.R_drewN | apply Kd.R_drew)); exact (Kd.R_mono (Kd.R_far (p := ⟨gb241, 0, none⟩) (Kd.R_types HO236.out BK241.out (by decide)) (fun _ hk => hk.2) (.slice Ao119 t237.length co119)) (fun _ h_ => h_.1))) hb); have n4_ := Aside0.mk (Kd.R_below (by (with_reducible repeat (first | apply Kd.R_alloc | apply Kd.R_drewN | apply Kd.R_drew)); exact (Kd.R_mono (Kd.R_far (p := ⟨gb241, 0, none⟩) (Kd.R_types HO239.out BK241.out (by decide)) (fun _ hk => hk.2) (.slice Ao119 t237.length co119)) (fun _ h_ => h_.1))) hb); have n5_ := Aside0.mk (blk_below (g := gb204) (o := .cells #[.slice A0_0 l0_0.length c0_0] 24 (0, 0)) (by (with_reducible repeat (first | refine blk_drewN ?_ _ | refine blk_drew ?_ | refine blk_alloc ?_ _)); refine blk_far ?_ NB204_241.out _; (with_reducible repeat (first | refine blk_drewN ?_ _ | refine blk_drew ?_ | refine blk_alloc ?_ _)); exact BK204.out) hb); have n6_ := Aside0.mk (blk_below (g := gb213) (o := .cells #[.slice Ao21 t209.length co21] 26 (0, 0)) (by (with_reducible repeat (first | refine blk_drewN ?_ _ | refine blk_drew ?_ | refine blk_alloc ?_ _)); refine blk_far ?_ NB213_241.out _; (with_reducible repeat (first | refine blk_drewN ?_ _ | refine blk_drew ?_ | refine blk_alloc ?_ _)); exact BK213.out) hb); have n7_ := Aside0.mk (blk_below (g := gb217) (o := .cells #[.slice Ao27 t229.length co27] 26 (0, 0)) (by (with_reducible repeat (first | refine blk_drewN ?_ _ | refine blk_drew ?_ | refine blk_alloc ?_ _)); refine blk_far ?_ NB217_241.out _; (with_reducible repeat (first | refine blk_drewN ?_ _ | refine blk_drew ?_ | refine blk_alloc ?_ _)); exact BK217.out) hb); have n8_ := Aside0.mk (blk_below (g := gb222) (o := .cells #[.slice Ao33 t218.length co33] 26 (0, 0)) (by (with_reducible repeat (first | refine blk_drewN ?_ _ | refine blk_drew ?_ | refine blk_alloc ?_ _)); refine blk_far ?_ NB222_241.out _; (with_reducible repeat (first | refine blk_drewN ?_ _ | refine blk_drew ?_ | refine blk_alloc ?_ _)); exact BK222.out) hb); have n9_ := Aside0.mk (blk_below (g := gb241) (o := .cells #[.slice Ao119 t237.length co119] 26 (0, 0)) (by (with_reducible repeat (first | refine blk_drewN ?_ _ | refine blk_drew ?_ | refine blk_alloc ?_ _)); refine blk_put (cs := #[.slice none 0 0]) ?_ 0 _ rfl; (with_reducible repeat (first | refine blk_drewN ?_ _ | refine blk_drew ?_ | refine blk_alloc ?_ _)); exact BK241.out) hb); have n10_ := Aside0.mk (below_step (by repeat (first | (with_reducible first | exact HB.out | apply below_alloc | apply pw_below_drewN | apply below_drew1 | refine below_set ?_ GE204.out | refine below_set ?_ GE213.out | refine below_set ?_ GE217.out | refine below_set ?_ GE222.out | refine below_set ?_ GE241.out) | exact HB.out)) hb); clear HO_214000; clear HO_218000; clear HO_223000; clear HO236; clear HO239; clear BK204; clear BK213; clear BK217; clear BK222; clear BK241; clear HB; have HO_214000 := n0_; have HO_218000 := n1_; have HO_223000 := n2_; have HO236 := n3_; have HO239 := n4_; have BK204 := n5_; have BK213 := n6_; have BK217 := n7_; have BK222 := n8_; have BK241 := n9_; have HB := n10_; clear n0_ n1_ n2_ n3_ n4_ n5_ n6_ n7_ n8_ n9_ n10_; (try clear hb); (try clear hb2); (try clear hk); (try clear hi)))
                          go_meet
                          case rel => exact ⟨_, ((t240 != t212)), (by first | rfl | (simp; done) | (simp [*]; done)), H', ⟨by have := HJ11.out; have := HJ60.out; first | omega | exact Nat.le_refl _⟩, ⟨by (try simp only [hl218000_60]); (with_reducible repeat (first | apply Kd.R_alloc | apply Kd.R_drewN | apply Kd.R_drew)); exact Kd.R_mono HO_214000.out (fun _ hk => ⟨hk.1.1.1, ⟨hk.1.1.2, hk.2⟩⟩)⟩, ⟨by (try simp only [hl218000_60]); (with_reducible repeat (first | apply Kd.R_alloc | apply Kd.R_drewN | apply Kd.R_drew)); exact Kd.R_mono HO_218000.out (fun _ hk => ⟨hk.1.1.1, ⟨hk.1.1.2, hk.2⟩⟩)⟩, ⟨by (try simp only [hl218000_60]); (with_reducible repeat (first | apply Kd.R_alloc | apply Kd.R_drewN | apply Kd.R_drew)); exact Kd.R_mono HO_223000.out (fun _ hk => ⟨hk.1.1.1, ⟨hk.1.1.2, hk.2⟩⟩)⟩, ⟨by (try simp only [hl218000_60]); (with_reducible repeat (first | apply Kd.R_alloc | apply Kd.R_drewN | apply Kd.R_drew)); exact Kd.R_mono HO239.out (fun _ hk => ⟨hk.1.1.1.2, ⟨hk.1.1.2, hk.1.2⟩⟩)⟩, ⟨by (try simp only [hl218000_60]); (with_reducible repeat (first | refine blk_drewN ?_ _ | refine blk_drew ?_ | refine blk_alloc ?_ _)); exact BK204.out⟩, ⟨by (try simp only [hl218000_60]); (with_reducible repeat (first | refine blk_drewN ?_ _ | refine blk_drew ?_ | refine blk_alloc ?_ _)); exact BK213.out⟩, ⟨by (try simp only [hl218000_60]); (with_reducible repeat (first | refine blk_drewN ?_ _ | refine blk_drew ?_ | refine blk_alloc ?_ _)); exact BK217.out⟩, ⟨by (try simp only [hl218000_60]); (with_reducible repeat (first | refine blk_drewN ?_ _ | refine blk_drew ?_ | refine blk_alloc ?_ _)); exact BK222.out⟩, ⟨by (try simp only [hl218000_60]); (with_reducible repeat (first | refine blk_drewN ?_ _ | refine blk_drew ?_ | refine blk_alloc ?_ _)); exact BK241.out⟩, ⟨by repeat (first | (with_reducible first | exact HB.out | apply below_alloc | apply pw_below_drewN | apply below_drew1 | refine below_set ?_ GE204.out | refine below_set ?_ GE213.out | refine below_set ?_ GE217.out | refine below_set ?_ GE222.out | refine below_set ?_ GE241.out) | exact HB.out)⟩⟩
                        · replace c126 := Bool.eq_false_iff.mpr c126
                          subst c126
                          have H1 : (laws_FnExactRemoveKey.j2 kj60 t231 true t232) = some r := by rw [if_neg (show ¬ (false = true) by decide)] at H; exact H
                          clear H
                          have H := H1
                          clear H1
                          have H' := Aside0.mk H
                          clear H
                          have hnb137 := NB241_204.out
                          have hnc137 := NB204_241.out
                          have hnb138 := NB241_213.out
                          have hnc138 := NB213_241.out
                          have hnb139 := NB241_217.out
                          have hnc139 := NB217_241.out
                          have hnb140 := NB241_222.out
                          have hnc140 := NB222_241.out
                          have hcz141_0 : w118.cell? ⟨gb241, 0, none⟩ = some (.slice none 0 0) := (blk_cell BK241.out 0).trans rfl
                          have hfz141_0 := blk_frozen BK241.out 0
                          have hnb142 := NB213_204.out
                          have hnc142 := NB204_213.out
                          have hnb143 := NB213_217.out
                          have hnc143 := NB217_213.out
                          have hnb144 := NB213_222.out
                          have hnc144 := NB222_213.out
                          have hcz145_0 : w118.cell? ⟨gb213, 0, none⟩ = some (.slice Ao21 t209.length co21) := (blk_cell BK213.out 0).trans rfl
                          have hfz145_0 := blk_frozen BK213.out 0
                          go_wp2_with (first | ((with_reducible refine gate_callee (f := 8) rfl ?_); refine goesL_ (some 86) rfl rfl Try.func8 (by kernel_rfl) rfl #[.agg #[.slice Ao119 t237.length co119], .agg #[.slice Ao21 t209.length co21]] rfl (by (try simp only [List.map_toArray, List.map_cons, List.map_nil]); first | done | rfl | (simp only [List.length_drop, List.length_take]; rfl)) ?_; (with_reducible refine (laws_eqTable.calls kj60 _ _ t237 _ _ t209 false _ ?side1 ?side2 ?side3 ?side4 A125.out).mono ?_); (case side1 => refine (Kd.R_reads' (e := 3) (base := w.heap.size) (ok := fun k_ => ((((True ∧ some k_ ≠ (.slice Ao21 t209.length co21 : Value).ownBlock) ∧ some k_ ≠ (.slice Ao27 t229.length co27 : Value).ownBlock) ∧ some k_ ≠ (.slice Ao33 t218.length co33 : Value).ownBlock) ∧ some k_ ≠ (.slice Ao116 t234.length co116 : Value).ownBlock)) (n := t237.length) (c := co119) ?_).2.2; exact (by (with_reducible repeat (first | apply Kd.R_alloc | apply Kd.R_drewN | apply Kd.R_drew)); exact (Kd.R_mono (Kd.R_far (p := ⟨gb241, 0, none⟩) (Kd.R_types HO239.out BK241.out (by decide)) (fun _ hk => hk.2) (.slice Ao119 t237.length co119)) (fun _ h_ => h_.1)))); (case side2 => exact (Kd.R_reads' HO239.out).2.1); (case side3 => refine (Kd.R_reads' (e := 3) (base := w.heap.size) (ok := fun k_ => (((some k_ ≠ (.slice Ao27 t229.length co27 : Value).ownBlock ∧ some k_ ≠ (.slice Ao33 t218.length co33 : Value).ownBlock) ∧ some k_ ≠ (.slice Ao116 t234.length co116 : Value).ownBlock) ∧ some k_ ≠ (.slice Ao119 t237.length co119 : Value).ownBlock)) (n := t209.length) (c := co21) ?_).2.2; exact (by (with_reducible repeat (first | apply Kd.R_alloc | apply Kd.R_drewN | apply Kd.R_drew)); exact (Kd.R_mono (Kd.R_far (p := ⟨gb241, 0, none⟩) (Kd.R_types HO_214000.out BK241.out (by decide)) (fun _ hk => hk.2) (.slice Ao119 t237.length co119)) (fun _ h_ => h_.1)))); (case side4 => exact (Kd.R_reads' HO_214000.out).2.1); rintro e w146 ⟨rfl, hb⟩; refine ⟨_, rfl, ?_⟩; have n0_ := Aside0.mk (Kd.R_below (by (with_reducible repeat (first | apply Kd.R_alloc | apply Kd.R_drewN | apply Kd.R_drew)); exact (Kd.R_mono (Kd.R_far (p := ⟨gb241, 0, none⟩) (Kd.R_types HO_214000.out BK241.out (by decide)) (fun _ hk => hk.2) (.slice Ao119 t237.length co119)) (fun _ h_ => h_.1))) hb); have n1_ := Aside0.mk (Kd.R_below (by (with_reducible repeat (first | apply Kd.R_alloc | apply Kd.R_drewN | apply Kd.R_drew)); exact (Kd.R_mono (Kd.R_far (p := ⟨gb241, 0, none⟩) (Kd.R_types HO_218000.out BK241.out (by decide)) (fun _ hk => hk.2) (.slice Ao119 t237.length co119)) (fun _ h_ => h_.1))) hb); have n2_ := Aside0.mk (Kd.R_below (by (with_reducible repeat (first | apply Kd.R_alloc | apply Kd.R_drewN | apply Kd.R_drew)); exact (Kd.R_mono (Kd.R_far (p := ⟨gb241, 0, none⟩) (Kd.R_types HO_223000.out BK241.out (by decide)) (fun _ hk => hk.2) (.slice Ao119 t237.length co119)) (fun _ h_ => h_.1))) hb); have n3_ := Aside0.mk (Kd.R_below (by (with_reducible repeat (first | apply Kd.R_alloc | apply Kd.R_drewN | apply Kd.R_drew)); exact (Kd.R_mono (Kd.R_far (p := ⟨gb241, 0, none⟩) (Kd.R_types HO236.out BK241.out (by decide)) (fun _ hk => hk.2) (.slice Ao119 t237.length co119)) (fun _ h_ => h_.1))) hb); have n4_ := Aside0.mk (Kd.R_below (by (with_reducible repeat (first | apply Kd.R_alloc | apply Kd.R_drewN | apply Kd.R_drew)); exact (Kd.R_mono (Kd.R_far (p := ⟨gb241, 0, none⟩) (Kd.R_types HO239.out BK241.out (by decide)) (fun _ hk => hk.2) (.slice Ao119 t237.length co119)) (fun _ h_ => h_.1))) hb); have n5_ := Aside0.mk (blk_below (g := gb204) (o := .cells #[.slice A0_0 l0_0.length c0_0] 24 (0, 0)) (by (with_reducible repeat (first | refine blk_drewN ?_ _ | refine blk_drew ?_ | refine blk_alloc ?_ _)); refine blk_far ?_ NB204_241.out _; (with_reducible repeat (first | refine blk_drewN ?_ _ | refine blk_drew ?_ | refine blk_alloc ?_ _)); exact BK204.out) hb); have n6_ := Aside0.mk (blk_below (g := gb213) (o := .cells #[.slice Ao21 t209.length co21] 26 (0, 0)) (by (with_reducible repeat (first | refine blk_drewN ?_ _ | refine blk_drew ?_ | refine blk_alloc ?_ _)); refine blk_far ?_ NB213_241.out _; (with_reducible repeat (first | refine blk_drewN ?_ _ | refine blk_drew ?_ | refine blk_alloc ?_ _)); exact BK213.out) hb); have n7_ := Aside0.mk (blk_below (g := gb217) (o := .cells #[.slice Ao27 t229.length co27] 26 (0, 0)) (by (with_reducible repeat (first | refine blk_drewN ?_ _ | refine blk_drew ?_ | refine blk_alloc ?_ _)); refine blk_far ?_ NB217_241.out _; (with_reducible repeat (first | refine blk_drewN ?_ _ | refine blk_drew ?_ | refine blk_alloc ?_ _)); exact BK217.out) hb); have n8_ := Aside0.mk (blk_below (g := gb222) (o := .cells #[.slice Ao33 t218.length co33] 26 (0, 0)) (by (with_reducible repeat (first | refine blk_drewN ?_ _ | refine blk_drew ?_ | refine blk_alloc ?_ _)); refine blk_far ?_ NB222_241.out _; (with_reducible repeat (first | refine blk_drewN ?_ _ | refine blk_drew ?_ | refine blk_alloc ?_ _)); exact BK222.out) hb); have n9_ := Aside0.mk (blk_below (g := gb241) (o := .cells #[.slice Ao119 t237.length co119] 26 (0, 0)) (by (with_reducible repeat (first | refine blk_drewN ?_ _ | refine blk_drew ?_ | refine blk_alloc ?_ _)); refine blk_put (cs := #[.slice none 0 0]) ?_ 0 _ rfl; (with_reducible repeat (first | refine blk_drewN ?_ _ | refine blk_drew ?_ | refine blk_alloc ?_ _)); exact BK241.out) hb); have n10_ := Aside0.mk (below_step (by repeat (first | (with_reducible first | exact HB.out | apply below_alloc | apply pw_below_drewN | apply below_drew1 | refine below_set ?_ GE204.out | refine below_set ?_ GE213.out | refine below_set ?_ GE217.out | refine below_set ?_ GE222.out | refine below_set ?_ GE241.out) | exact HB.out)) hb); clear HO_214000; clear HO_218000; clear HO_223000; clear HO236; clear HO239; clear BK204; clear BK213; clear BK217; clear BK222; clear BK241; clear HB; have HO_214000 := n0_; have HO_218000 := n1_; have HO_223000 := n2_; have HO236 := n3_; have HO239 := n4_; have BK204 := n5_; have BK213 := n6_; have BK217 := n7_; have BK222 := n8_; have BK241 := n9_; have HB := n10_; clear n0_ n1_ n2_ n3_ n4_ n5_ n6_ n7_ n8_ n9_ n10_; (try clear hb); (try clear hb2); (try clear hk); (try clear hi)))
                          go_meet
                          case rel => exact ⟨_, (true), (by first | rfl | (simp; done) | (simp [*]; done)), H', ⟨by have := HJ11.out; have := HJ60.out; first | omega | exact Nat.le_refl _⟩, ⟨by (try simp only [hl218000_60]); (with_reducible repeat (first | apply Kd.R_alloc | apply Kd.R_drewN | apply Kd.R_drew)); exact Kd.R_mono HO_214000.out (fun _ hk => ⟨hk.1.1.1, ⟨hk.1.1.2, hk.2⟩⟩)⟩, ⟨by (try simp only [hl218000_60]); (with_reducible repeat (first | apply Kd.R_alloc | apply Kd.R_drewN | apply Kd.R_drew)); exact Kd.R_mono HO_218000.out (fun _ hk => ⟨hk.1.1.1, ⟨hk.1.1.2, hk.2⟩⟩)⟩, ⟨by (try simp only [hl218000_60]); (with_reducible repeat (first | apply Kd.R_alloc | apply Kd.R_drewN | apply Kd.R_drew)); exact Kd.R_mono HO_223000.out (fun _ hk => ⟨hk.1.1.1, ⟨hk.1.1.2, hk.2⟩⟩)⟩, ⟨by (try simp only [hl218000_60]); (with_reducible repeat (first | apply Kd.R_alloc | apply Kd.R_drewN | apply Kd.R_drew)); exact Kd.R_mono HO239.out (fun _ hk => ⟨hk.1.1.1.2, ⟨hk.1.1.2, hk.1.2⟩⟩)⟩, ⟨by (try simp only [hl218000_60]); (with_reducible repeat (first | refine blk_drewN ?_ _ | refine blk_drew ?_ | refine blk_alloc ?_ _)); exact BK204.out⟩, ⟨by (try simp only [hl218000_60]); (with_reducible repeat (first | refine blk_drewN ?_ _ | refine blk_drew ?_ | refine blk_alloc ?_ _)); exact BK213.out⟩, ⟨by (try simp only [hl218000_60]); (with_reducible repeat (first | refine blk_drewN ?_ _ | refine blk_drew ?_ | refine blk_alloc ?_ _)); exact BK217.out⟩, ⟨by (try simp only [hl218000_60]); (with_reducible repeat (first | refine blk_drewN ?_ _ | refine blk_drew ?_ | refine blk_alloc ?_ _)); exact BK222.out⟩, ⟨by (try simp only [hl218000_60]); (with_reducible repeat (first | refine blk_drewN ?_ _ | refine blk_drew ?_ | refine blk_alloc ?_ _)); exact BK241.out⟩, ⟨by repeat (first | (with_reducible first | exact HB.out | apply below_alloc | apply pw_below_drewN | apply below_drew1 | refine below_set ?_ GE204.out | refine below_set ?_ GE213.out | refine below_set ?_ GE217.out | refine below_set ?_ GE222.out | refine below_set ?_ GE241.out) | exact HB.out)⟩⟩
                      case rest =>
                        clear HC104
                        try clear c1
                        try clear c2
                        try clear p2
                        try clear c3
                        try clear c4
                        try clear c4b0
                        try clear c5
                        try clear c6
                        try clear c7
                        try clear c8
                        try clear c9
                        try clear c10
                        try clear c11
                        try clear c12
                        try clear c13
                        try clear c14
                        try clear c22
                        try clear c28
                        try clear c29
                        try clear c34
                        try clear c35
                        try clear c36
                        try clear c39
                        try clear c40
                        try clear c41
                        try clear c42
                        try clear c44
                        try clear c45
                        try clear c48
                        try clear c49
                        try clear c50
                        try clear c52
                        try clear c53
                        try clear c56
                        try clear c59
                        try clear c66
                        try clear c67
                        try clear c68
                        try clear c71
                        try clear c71b0
                        try clear c73
                        try clear c74
                        try clear c75
                        try clear c76
                        try clear c78
                        try clear c79
                        try clear c82
                        try clear c83
                        try clear c84
                        try clear c86
                        try clear c87
                        try clear c90
                        try clear c93
                        try clear c93b0
                        try clear c94
                        try clear c95
                        try clear c96
                        try clear c101
                        try clear c101b0
                        try clear c101b1
                        try clear c105
                        try clear c106
                        try clear c107
                        try clear c112
                        try clear c113
                        try clear c120
                        try clear c121
                        try clear c122
                        try clear c123
                        try clear c126
                        try clear c127
                        try clear c128
                        try clear c129
                        try clear c130
                        try clear c132
                        try clear c133
                        try clear c134
                        try clear c137
                        try clear c138
                        try clear c139
                        try clear c140
                        try clear c142
                        try clear c143
                        try clear c144
                        try clear hcz108_0
                        try clear hcz110_0
                        try clear hcz114_0
                        try clear hcz124_0
                        try clear hcz131_0
                        try clear hcz135_0
                        try clear hcz141_0
                        try clear hcz145_0
                        try clear hcz14_0
                        try clear hcz16_0
                        try clear hcz23_0
                        try clear hcz24_0
                        try clear hcz30_0
                        try clear hcz37_0
                        try clear hcz43_0
                        try clear hcz46_0
                        try clear hcz51_0
                        try clear hcz54_0
                        try clear hcz69_0
                        try clear hcz6_0
                        try clear hcz77_0
                        try clear hcz80_0
                        try clear hcz85_0
                        try clear hcz88_0
                        try clear hcz97_0
                        try clear hcz99_0
                        try clear hfz108_0
                        try clear hfz110_0
                        try clear hfz114_0
                        try clear hfz124_0
                        try clear hfz131_0
                        try clear hfz135_0
                        try clear hfz141_0
                        try clear hfz145_0
                        try clear hfz14_0
                        try clear hfz16_0
                        try clear hfz23_0
                        try clear hfz24_0
                        try clear hfz30_0
                        try clear hfz37_0
                        try clear hfz43_0
                        try clear hfz46_0
                        try clear hfz51_0
                        try clear hfz54_0
                        try clear hfz69_0
                        try clear hfz6_0
                        try clear hfz77_0
                        try clear hfz80_0
                        try clear hfz85_0
                        try clear hfz88_0
                        try clear hfz97_0
                        try clear hfz99_0
                        try clear p2
                        obtain ⟨kq, x92_103, rfl, HA, HJ103, HO_214000, HO_218000, HO_223000, HO_242000, BK204, BK213, BK217, BK222, BK241, HB⟩ := hcut
                        have hl223000_103 := (Kd.R_reads' HO_223000.out).1
                        rw [hl223000_103] at HO_223000
                        (try simp only [hl223000_103])
                        (try simp only [hl223000_103] at BK204)
                        (try simp only [hl223000_103] at BK213)
                        (try simp only [hl223000_103] at BK217)
                        (try simp only [hl223000_103] at BK222)
                        (try simp only [hl223000_103] at BK241)
                        (try simp only [hl223000_103] at HO_214000)
                        (try simp only [hl223000_103] at HO_218000)
                        (try simp only [hl223000_103] at HO_242000)
                        cases kq with
                        | zero => exact absurd HA.out (by simp [laws_FnExactRemoveKey.j2])
                        | succ kj103 =>
                          have H := HA.out
                          clear HA
                          simp only [laws_FnExactRemoveKey.j2] at H
                          by_cases c147 : x92_103 = true
                          · subst c147
                            have H1 : (some false) = some r := by rw [if_pos rfl] at H; exact H
                            clear H
                            have H := H1
                            clear H1
                            obtain rfl := Option.some.inj H
                            go_wp2
                            go_ret
                            exact ⟨by first | rfl | (simp [errW_none, errW_some] <;> rfl) | (simp [*, errW_none, errW_some] <;> rfl), by repeat (first | (with_reducible first | exact HB.out | apply below_alloc | apply pw_below_drewN | apply below_drew1 | refine below_set ?_ GE204.out | refine below_set ?_ GE213.out | refine below_set ?_ GE217.out | refine below_set ?_ GE222.out | refine below_set ?_ GE241.out) | exact HB.out)⟩
                          · replace c147 := Bool.eq_false_iff.mpr c147
                            subst c147
                            have H1 : ((laws_heldTable.f kj103 t232 1).bind fun t243 => (if t243 < 0 then (some false) else (if t243 = t231 then (some true) else (some false)))) = some r := by rw [if_neg (show ¬ (false = true) by decide)] at H; exact H
                            clear H
                            have H := H1
                            clear H1
                            replace H := Option.bind_eq_some_iff.mp H
                            obtain ⟨t243, A1480, H⟩ := H
                            replace H : (if t243 < 0 then (some false) else (if t243 = t231 then (some true) else (some false))) = some r := H
                            have A148 := Aside0.mk A1480
                            clear A1480
                            by_cases c149 : t243 < 0
                            · rw [if_pos c149] at H
                              have c149b0 : decide (t243 < 0) = true := decide_eq_true c149
                              clear c149
                              obtain rfl := Option.some.inj H
                              have hnb150 := NB222_204.out
                              have hnc150 := NB204_222.out
                              have hnb151 := NB222_213.out
                              have hnc151 := NB213_222.out
                              have hnb152 := NB222_217.out
                              have hnc152 := NB217_222.out
                              have hnb153 := NB222_241.out
                              have hnc153 := NB241_222.out
                              have hcz154_0 : wc.cell? ⟨gb222, 0, none⟩ = some (.slice Ao33 t232.length co33) := (blk_cell BK222.out 0).trans rfl
                              have hfz154_0 := blk_frozen BK222.out 0
                              go_wp2_with (first | ((with_reducible refine gate_callee (f := 10) rfl ?_); refine goesL_ (some 95) rfl rfl Try.func10 (by kernel_rfl) rfl #[.agg #[.slice Ao33 t232.length co33], .int .i64 1] rfl (by (try simp only [List.map_toArray, List.map_cons, List.map_nil]); first | done | rfl | (simp only [List.length_drop, List.length_take]; rfl)) ?_; (with_reducible refine (laws_heldTable.calls kj103 _ _ t232 1 t243 _ ?side1 ?side2 A148.out).mono ?_); (case side1 => repeat (first | exact (Kd.R_reads' HO_223000.out).2.2 | (with_reducible refine Kd.C_alloc ?_ _) | (with_reducible refine Kd.C_drewN ?_ _) | (with_reducible refine Kd.C_drew ?_))); (case side2 => exact (Kd.R_reads' HO_223000.out).2.1); rintro e w155 ⟨rfl, hb⟩; refine ⟨_, rfl, ?_⟩; have n0_ := Aside0.mk (Kd.R_below (by (with_reducible repeat (first | apply Kd.R_alloc | apply Kd.R_drewN | apply Kd.R_drew)); exact HO_214000.out) hb); have n1_ := Aside0.mk (Kd.R_below (by (with_reducible repeat (first | apply Kd.R_alloc | apply Kd.R_drewN | apply Kd.R_drew)); exact HO_218000.out) hb); have n2_ := Aside0.mk (Kd.R_below (by (with_reducible repeat (first | apply Kd.R_alloc | apply Kd.R_drewN | apply Kd.R_drew)); exact HO_223000.out) hb); have n3_ := Aside0.mk (Kd.R_below (by (with_reducible repeat (first | apply Kd.R_alloc | apply Kd.R_drewN | apply Kd.R_drew)); exact HO_242000.out) hb); have n4_ := Aside0.mk (blk_below (g := gb204) (o := .cells #[.slice A0_0 l0_0.length c0_0] 24 (0, 0)) (by (with_reducible repeat (first | refine blk_drewN ?_ _ | refine blk_drew ?_ | refine blk_alloc ?_ _)); exact BK204.out) hb); have n5_ := Aside0.mk (blk_below (g := gb213) (o := .cells #[.slice Ao21 t209.length co21] 26 (0, 0)) (by (with_reducible repeat (first | refine blk_drewN ?_ _ | refine blk_drew ?_ | refine blk_alloc ?_ _)); exact BK213.out) hb); have n6_ := Aside0.mk (blk_below (g := gb217) (o := .cells #[.slice Ao27 t229.length co27] 26 (0, 0)) (by (with_reducible repeat (first | refine blk_drewN ?_ _ | refine blk_drew ?_ | refine blk_alloc ?_ _)); exact BK217.out) hb); have n7_ := Aside0.mk (blk_below (g := gb222) (o := .cells #[.slice Ao33 t232.length co33] 26 (0, 0)) (by (with_reducible repeat (first | refine blk_drewN ?_ _ | refine blk_drew ?_ | refine blk_alloc ?_ _)); exact BK222.out) hb); have n8_ := Aside0.mk (blk_below (g := gb241) (o := .cells #[.slice Ao119 t237.length co119] 26 (0, 0)) (by (with_reducible repeat (first | refine blk_drewN ?_ _ | refine blk_drew ?_ | refine blk_alloc ?_ _)); exact BK241.out) hb); have n9_ := Aside0.mk (below_step (by repeat (first | (with_reducible first | exact HB.out | apply below_alloc | apply pw_below_drewN | apply below_drew1 | refine below_set ?_ GE204.out | refine below_set ?_ GE213.out | refine below_set ?_ GE217.out | refine below_set ?_ GE222.out | refine below_set ?_ GE241.out) | exact HB.out)) hb); clear HO_214000; clear HO_218000; clear HO_223000; clear HO_242000; clear BK204; clear BK213; clear BK217; clear BK222; clear BK241; clear HB; have HO_214000 := n0_; have HO_218000 := n1_; have HO_223000 := n2_; have HO_242000 := n3_; have BK204 := n4_; have BK213 := n5_; have BK217 := n6_; have BK222 := n7_; have BK241 := n8_; have HB := n9_; clear n0_ n1_ n2_ n3_ n4_ n5_ n6_ n7_ n8_ n9_; (try clear hb); (try clear hb2); (try clear hk); (try clear hi)))
                              go_ret
                              exact ⟨by first | rfl | (simp [errW_none, errW_some] <;> rfl) | (simp [*, errW_none, errW_some] <;> rfl), by repeat (first | (with_reducible first | exact HB.out | apply below_alloc | apply pw_below_drewN | apply below_drew1 | refine below_set ?_ GE204.out | refine below_set ?_ GE213.out | refine below_set ?_ GE217.out | refine below_set ?_ GE222.out | refine below_set ?_ GE241.out) | exact HB.out)⟩
                            · rw [if_neg c149] at H
                              have c149b0 : decide (t243 < 0) = false := decide_eq_false c149
                              clear c149
                              by_cases c156 : t243 = t231
                              · rw [if_pos c156] at H
                                have c156b0 : (t243 == t231) = true := beq_iff_eq.mpr c156
                                have c156b1 : (t243 != t231) = false := bne_eq_false_iff_eq.mpr c156
                                clear c156
                                obtain rfl := Option.some.inj H
                                have hnb157 := NB222_204.out
                                have hnc157 := NB204_222.out
                                have hnb158 := NB222_213.out
                                have hnc158 := NB213_222.out
                                have hnb159 := NB222_217.out
                                have hnc159 := NB217_222.out
                                have hnb160 := NB222_241.out
                                have hnc160 := NB241_222.out
                                have hcz161_0 : wc.cell? ⟨gb222, 0, none⟩ = some (.slice Ao33 t232.length co33) := (blk_cell BK222.out 0).trans rfl
                                have hfz161_0 := blk_frozen BK222.out 0
                                go_wp2_with (first | ((with_reducible refine gate_callee (f := 10) rfl ?_); refine goesL_ (some 95) rfl rfl Try.func10 (by kernel_rfl) rfl #[.agg #[.slice Ao33 t232.length co33], .int .i64 1] rfl (by (try simp only [List.map_toArray, List.map_cons, List.map_nil]); first | done | rfl | (simp only [List.length_drop, List.length_take]; rfl)) ?_; (with_reducible refine (laws_heldTable.calls kj103 _ _ t232 1 t243 _ ?side1 ?side2 A148.out).mono ?_); (case side1 => repeat (first | exact (Kd.R_reads' HO_223000.out).2.2 | (with_reducible refine Kd.C_alloc ?_ _) | (with_reducible refine Kd.C_drewN ?_ _) | (with_reducible refine Kd.C_drew ?_))); (case side2 => exact (Kd.R_reads' HO_223000.out).2.1); rintro e w162 ⟨rfl, hb⟩; refine ⟨_, rfl, ?_⟩; have n0_ := Aside0.mk (Kd.R_below (by (with_reducible repeat (first | apply Kd.R_alloc | apply Kd.R_drewN | apply Kd.R_drew)); exact HO_214000.out) hb); have n1_ := Aside0.mk (Kd.R_below (by (with_reducible repeat (first | apply Kd.R_alloc | apply Kd.R_drewN | apply Kd.R_drew)); exact HO_218000.out) hb); have n2_ := Aside0.mk (Kd.R_below (by (with_reducible repeat (first | apply Kd.R_alloc | apply Kd.R_drewN | apply Kd.R_drew)); exact HO_223000.out) hb); have n3_ := Aside0.mk (Kd.R_below (by (with_reducible repeat (first | apply Kd.R_alloc | apply Kd.R_drewN | apply Kd.R_drew)); exact HO_242000.out) hb); have n4_ := Aside0.mk (blk_below (g := gb204) (o := .cells #[.slice A0_0 l0_0.length c0_0] 24 (0, 0)) (by (with_reducible repeat (first | refine blk_drewN ?_ _ | refine blk_drew ?_ | refine blk_alloc ?_ _)); exact BK204.out) hb); have n5_ := Aside0.mk (blk_below (g := gb213) (o := .cells #[.slice Ao21 t209.length co21] 26 (0, 0)) (by (with_reducible repeat (first | refine blk_drewN ?_ _ | refine blk_drew ?_ | refine blk_alloc ?_ _)); exact BK213.out) hb); have n6_ := Aside0.mk (blk_below (g := gb217) (o := .cells #[.slice Ao27 t229.length co27] 26 (0, 0)) (by (with_reducible repeat (first | refine blk_drewN ?_ _ | refine blk_drew ?_ | refine blk_alloc ?_ _)); exact BK217.out) hb); have n7_ := Aside0.mk (blk_below (g := gb222) (o := .cells #[.slice Ao33 t232.length co33] 26 (0, 0)) (by (with_reducible repeat (first | refine blk_drewN ?_ _ | refine blk_drew ?_ | refine blk_alloc ?_ _)); exact BK222.out) hb); have n8_ := Aside0.mk (blk_below (g := gb241) (o := .cells #[.slice Ao119 t237.length co119] 26 (0, 0)) (by (with_reducible repeat (first | refine blk_drewN ?_ _ | refine blk_drew ?_ | refine blk_alloc ?_ _)); exact BK241.out) hb); have n9_ := Aside0.mk (below_step (by repeat (first | (with_reducible first | exact HB.out | apply below_alloc | apply pw_below_drewN | apply below_drew1 | refine below_set ?_ GE204.out | refine below_set ?_ GE213.out | refine below_set ?_ GE217.out | refine below_set ?_ GE222.out | refine below_set ?_ GE241.out) | exact HB.out)) hb); clear HO_214000; clear HO_218000; clear HO_223000; clear HO_242000; clear BK204; clear BK213; clear BK217; clear BK222; clear BK241; clear HB; have HO_214000 := n0_; have HO_218000 := n1_; have HO_223000 := n2_; have HO_242000 := n3_; have BK204 := n4_; have BK213 := n5_; have BK217 := n6_; have BK222 := n7_; have BK241 := n8_; have HB := n9_; clear n0_ n1_ n2_ n3_ n4_ n5_ n6_ n7_ n8_ n9_; (try clear hb); (try clear hb2); (try clear hk); (try clear hi)))
                                go_ret
                                exact ⟨by first | rfl | (simp [errW_none, errW_some] <;> rfl) | (simp [*, errW_none, errW_some] <;> rfl), by repeat (first | (with_reducible first | exact HB.out | apply below_alloc | apply pw_below_drewN | apply below_drew1 | refine below_set ?_ GE204.out | refine below_set ?_ GE213.out | refine below_set ?_ GE217.out | refine below_set ?_ GE222.out | refine below_set ?_ GE241.out) | exact HB.out)⟩
                              · rw [if_neg c156] at H
                                have c156b0 : (t243 == t231) = false := beq_eq_false_iff_ne.mpr c156
                                have c156b1 : (t243 != t231) = true := bne_iff_ne.mpr c156
                                obtain rfl := Option.some.inj H
                                have hnb163 := NB222_204.out
                                have hnc163 := NB204_222.out
                                have hnb164 := NB222_213.out
                                have hnc164 := NB213_222.out
                                have hnb165 := NB222_217.out
                                have hnc165 := NB217_222.out
                                have hnb166 := NB222_241.out
                                have hnc166 := NB241_222.out
                                have hcz167_0 : wc.cell? ⟨gb222, 0, none⟩ = some (.slice Ao33 t232.length co33) := (blk_cell BK222.out 0).trans rfl
                                have hfz167_0 := blk_frozen BK222.out 0
                                go_wp2_with (first | ((with_reducible refine gate_callee (f := 10) rfl ?_); refine goesL_ (some 95) rfl rfl Try.func10 (by kernel_rfl) rfl #[.agg #[.slice Ao33 t232.length co33], .int .i64 1] rfl (by (try simp only [List.map_toArray, List.map_cons, List.map_nil]); first | done | rfl | (simp only [List.length_drop, List.length_take]; rfl)) ?_; (with_reducible refine (laws_heldTable.calls kj103 _ _ t232 1 t243 _ ?side1 ?side2 A148.out).mono ?_); (case side1 => repeat (first | exact (Kd.R_reads' HO_223000.out).2.2 | (with_reducible refine Kd.C_alloc ?_ _) | (with_reducible refine Kd.C_drewN ?_ _) | (with_reducible refine Kd.C_drew ?_))); (case side2 => exact (Kd.R_reads' HO_223000.out).2.1); rintro e w168 ⟨rfl, hb⟩; refine ⟨_, rfl, ?_⟩; have n0_ := Aside0.mk (Kd.R_below (by (with_reducible repeat (first | apply Kd.R_alloc | apply Kd.R_drewN | apply Kd.R_drew)); exact HO_214000.out) hb); have n1_ := Aside0.mk (Kd.R_below (by (with_reducible repeat (first | apply Kd.R_alloc | apply Kd.R_drewN | apply Kd.R_drew)); exact HO_218000.out) hb); have n2_ := Aside0.mk (Kd.R_below (by (with_reducible repeat (first | apply Kd.R_alloc | apply Kd.R_drewN | apply Kd.R_drew)); exact HO_223000.out) hb); have n3_ := Aside0.mk (Kd.R_below (by (with_reducible repeat (first | apply Kd.R_alloc | apply Kd.R_drewN | apply Kd.R_drew)); exact HO_242000.out) hb); have n4_ := Aside0.mk (blk_below (g := gb204) (o := .cells #[.slice A0_0 l0_0.length c0_0] 24 (0, 0)) (by (with_reducible repeat (first | refine blk_drewN ?_ _ | refine blk_drew ?_ | refine blk_alloc ?_ _)); exact BK204.out) hb); have n5_ := Aside0.mk (blk_below (g := gb213) (o := .cells #[.slice Ao21 t209.length co21] 26 (0, 0)) (by (with_reducible repeat (first | refine blk_drewN ?_ _ | refine blk_drew ?_ | refine blk_alloc ?_ _)); exact BK213.out) hb); have n6_ := Aside0.mk (blk_below (g := gb217) (o := .cells #[.slice Ao27 t229.length co27] 26 (0, 0)) (by (with_reducible repeat (first | refine blk_drewN ?_ _ | refine blk_drew ?_ | refine blk_alloc ?_ _)); exact BK217.out) hb); have n7_ := Aside0.mk (blk_below (g := gb222) (o := .cells #[.slice Ao33 t232.length co33] 26 (0, 0)) (by (with_reducible repeat (first | refine blk_drewN ?_ _ | refine blk_drew ?_ | refine blk_alloc ?_ _)); exact BK222.out) hb); have n8_ := Aside0.mk (blk_below (g := gb241) (o := .cells #[.slice Ao119 t237.length co119] 26 (0, 0)) (by (with_reducible repeat (first | refine blk_drewN ?_ _ | refine blk_drew ?_ | refine blk_alloc ?_ _)); exact BK241.out) hb); have n9_ := Aside0.mk (below_step (by repeat (first | (with_reducible first | exact HB.out | apply below_alloc | apply pw_below_drewN | apply below_drew1 | refine below_set ?_ GE204.out | refine below_set ?_ GE213.out | refine below_set ?_ GE217.out | refine below_set ?_ GE222.out | refine below_set ?_ GE241.out) | exact HB.out)) hb); clear HO_214000; clear HO_218000; clear HO_223000; clear HO_242000; clear BK204; clear BK213; clear BK217; clear BK222; clear BK241; clear HB; have HO_214000 := n0_; have HO_218000 := n1_; have HO_223000 := n2_; have HO_242000 := n3_; have BK204 := n4_; have BK213 := n5_; have BK217 := n6_; have BK222 := n7_; have BK241 := n8_; have HB := n9_; clear n0_ n1_ n2_ n3_ n4_ n5_ n6_ n7_ n8_ n9_; (try clear hb); (try clear hb2); (try clear hk); (try clear hi)))
                                go_ret
                                exact ⟨by first | rfl | (simp [errW_none, errW_some] <;> rfl) | (simp [*, errW_none, errW_some] <;> rfl), by repeat (first | (with_reducible first | exact HB.out | apply below_alloc | apply pw_below_drewN | apply below_drew1 | refine below_set ?_ GE204.out | refine below_set ?_ GE213.out | refine below_set ?_ GE217.out | refine below_set ?_ GE222.out | refine below_set ?_ GE241.out) | exact HB.out)⟩
                    · rw [if_neg c101] at H
                      have c101b0 : (t233 == t231) = false := beq_eq_false_iff_ne.mpr c101
                      have c101b1 : (t233 != t231) = true := bne_iff_ne.mpr c101
                      obtain rfl := Option.some.inj H
                      have hnb169 := NB222_204.out
                      have hnc169 := NB204_222.out
                      have hnb170 := NB222_213.out
                      have hnc170 := NB213_222.out
                      have hnb171 := NB222_217.out
                      have hnc171 := NB217_222.out
                      have hcz172_0 : wc.cell? ⟨gb222, 0, none⟩ = some (.slice Ao33 t218.length co33) := (blk_cell BK222.out 0).trans rfl
                      have hfz172_0 := blk_frozen BK222.out 0
                      go_wp2_with (first | ((with_reducible refine gate_callee (f := 9) rfl ?_); refine goesL_ (some 68) rfl rfl Try.func9 (by kernel_rfl) rfl #[.agg #[.slice Ao33 t218.length co33], .int .i64 1] rfl (by (try simp only [List.map_toArray, List.map_cons, List.map_nil]); first | done | rfl | (simp only [List.length_drop, List.length_take]; rfl)) ?_; (with_reducible refine (laws_markTable.calls kj60 (fun k_ => some k_ = (.slice Ao33 t218.length co33 : Value).ownBlock) (.slice Ao33 t218.length co33) t218 1 t231 t232 w _ ?side1 ?side2 A91.out).mono ?_); (case side1 => repeat (first | (with_reducible first | exact HB.out | apply below_alloc | apply pw_below_drewN | apply below_drew1 | refine below_set ?_ GE204.out | refine below_set ?_ GE213.out | refine below_set ?_ GE217.out | refine below_set ?_ GE222.out) | exact HB.out)); (case side2 => exact Kd.R_tight rfl HO_223000.out); rintro e w173 ⟨rfl, hy0, hb, hkp⟩; refine ⟨_, rfl, ?_⟩; have n0_ := Aside0.mk (Kd.R_mono (ok' := fun k_ => some k_ ≠ (.slice Ao27 t229.length co27 : Value).ownBlock ∧ some k_ ≠ (.slice Ao33 t218.length co33 : Value).ownBlock) (Kd.R_keptB (HO_214000.out) hkp (fun k_ hk_ hs_ => (hk_.2) hs_)) (fun k_ hk_ => ⟨hk_.1.1, hk_.1.2⟩)); have n1_ := Aside0.mk (Kd.R_mono (ok' := fun k_ => some k_ ≠ (.slice Ao21 t209.length co21 : Value).ownBlock ∧ some k_ ≠ (.slice Ao33 t218.length co33 : Value).ownBlock) (Kd.R_keptB (HO_218000.out) hkp (fun k_ hk_ hs_ => (hk_.2) hs_)) (fun k_ hk_ => ⟨hk_.1.1, hk_.1.2⟩)); have n2_ := Aside0.mk (Kd.R_reok rfl hy0 (fun k_ e_ => HO_223000.out.1 k_ e_)); have n3_ := Aside0.mk (blk_kept (by (with_reducible repeat (first | refine blk_drewN ?_ _ | refine blk_drew ?_ | refine blk_alloc ?_ _)); exact BK204.out) hkp (fun hs_ => (fun e_ => (Kd.R_ne HO_223000.out BK204.out (by decide)) e_) hs_)); have n4_ := Aside0.mk (blk_kept (by (with_reducible repeat (first | refine blk_drewN ?_ _ | refine blk_drew ?_ | refine blk_alloc ?_ _)); exact BK213.out) hkp (fun hs_ => (fun e_ => (Kd.R_ne HO_223000.out BK213.out (by decide)) e_) hs_)); have n5_ := Aside0.mk (blk_kept (by (with_reducible repeat (first | refine blk_drewN ?_ _ | refine blk_drew ?_ | refine blk_alloc ?_ _)); exact BK217.out) hkp (fun hs_ => (fun e_ => (Kd.R_ne HO_223000.out BK217.out (by decide)) e_) hs_)); have n6_ := Aside0.mk (blk_kept (by (with_reducible repeat (first | refine blk_drewN ?_ _ | refine blk_drew ?_ | refine blk_alloc ?_ _)); exact BK222.out) hkp (fun hs_ => (fun e_ => (Kd.R_ne HO_223000.out BK222.out (by decide)) e_) hs_)); have n7_ := Aside0.mk (hb); clear HO_214000; clear HO_218000; clear HO_223000; clear BK204; clear BK213; clear BK217; clear BK222; clear HB; have HO_214000 := n0_; have HO_218000 := n1_; have HO_223000 := n2_; have BK204 := n3_; have BK213 := n4_; have BK217 := n5_; have BK222 := n6_; have HB := n7_; clear n0_ n1_ n2_ n3_ n4_ n5_ n6_ n7_; (try clear hb); (try clear hkp); (try clear hy0); have hcz174_0 : w173.cell? ⟨gb222, 0, none⟩ = some (.slice Ao33 t218.length co33) := (blk_cell BK222.out 0).trans rfl; have hfz174_0 := blk_frozen BK222.out 0) | ((with_reducible refine gate_callee (f := 10) rfl ?_); refine goesL_ (some 71) rfl rfl Try.func10 (by kernel_rfl) rfl #[.agg #[.slice Ao33 t232.length co33], .int .i64 1] rfl (by (try simp only [List.map_toArray, List.map_cons, List.map_nil]); first | done | (rw [show t232.length = t218.length from (Kd.R_reads' HO_223000.out).1.symm] <;> rfl) | rfl | (simp only [List.length_drop, List.length_take]; rfl)) ?_; (with_reducible refine (laws_heldTable.calls kj60 _ _ t232 1 t233 _ ?side1 ?side2 A92.out).mono ?_); (case side1 => repeat (first | exact (Kd.R_reads' HO_223000.out).2.2 | (with_reducible refine Kd.C_alloc ?_ _) | (with_reducible refine Kd.C_drewN ?_ _) | (with_reducible refine Kd.C_drew ?_))); (case side2 => rw [show t232.length = t218.length from (Kd.R_reads' HO_223000.out).1.symm]; exact (Kd.R_reads' HO_223000.out).2.1); rintro e w175 ⟨rfl, hb⟩; refine ⟨_, rfl, ?_⟩; have n0_ := Aside0.mk (Kd.R_below (by (with_reducible repeat (first | apply Kd.R_alloc | apply Kd.R_drewN | apply Kd.R_drew)); exact HO_214000.out) hb); have n1_ := Aside0.mk (Kd.R_below (by (with_reducible repeat (first | apply Kd.R_alloc | apply Kd.R_drewN | apply Kd.R_drew)); exact HO_218000.out) hb); have n2_ := Aside0.mk (Kd.R_below (by (with_reducible repeat (first | apply Kd.R_alloc | apply Kd.R_drewN | apply Kd.R_drew)); exact HO_223000.out) hb); have n3_ := Aside0.mk (blk_below (g := gb204) (o := .cells #[.slice A0_0 l0_0.length c0_0] 24 (0, 0)) (by (with_reducible repeat (first | refine blk_drewN ?_ _ | refine blk_drew ?_ | refine blk_alloc ?_ _)); exact BK204.out) hb); have n4_ := Aside0.mk (blk_below (g := gb213) (o := .cells #[.slice Ao21 t209.length co21] 26 (0, 0)) (by (with_reducible repeat (first | refine blk_drewN ?_ _ | refine blk_drew ?_ | refine blk_alloc ?_ _)); exact BK213.out) hb); have n5_ := Aside0.mk (blk_below (g := gb217) (o := .cells #[.slice Ao27 t229.length co27] 26 (0, 0)) (by (with_reducible repeat (first | refine blk_drewN ?_ _ | refine blk_drew ?_ | refine blk_alloc ?_ _)); exact BK217.out) hb); have n6_ := Aside0.mk (blk_below (g := gb222) (o := .cells #[.slice Ao33 t218.length co33] 26 (0, 0)) (by (with_reducible repeat (first | refine blk_drewN ?_ _ | refine blk_drew ?_ | refine blk_alloc ?_ _)); exact BK222.out) hb); have n7_ := Aside0.mk (below_step (by repeat (first | (with_reducible first | exact HB.out | apply below_alloc | apply pw_below_drewN | apply below_drew1 | refine below_set ?_ GE204.out | refine below_set ?_ GE213.out | refine below_set ?_ GE217.out | refine below_set ?_ GE222.out) | exact HB.out)) hb); clear HO_214000; clear HO_218000; clear HO_223000; clear BK204; clear BK213; clear BK217; clear BK222; clear HB; have HO_214000 := n0_; have HO_218000 := n1_; have HO_223000 := n2_; have BK204 := n3_; have BK213 := n4_; have BK217 := n5_; have BK222 := n6_; have HB := n7_; clear n0_ n1_ n2_ n3_ n4_ n5_ n6_ n7_; (try clear hb); (try clear hb2); (try clear hk); (try clear hi)))
                      go_ret
                      exact ⟨by first | rfl | (simp [errW_none, errW_some] <;> rfl) | (simp [*, errW_none, errW_some] <;> rfl), by repeat (first | (with_reducible first | exact HB.out | apply below_alloc | apply pw_below_drewN | apply below_drew1 | refine below_set ?_ GE204.out | refine below_set ?_ GE213.out | refine below_set ?_ GE217.out | refine below_set ?_ GE222.out) | exact HB.out)⟩
          · replace c59 := Bool.eq_false_iff.mpr c59
            subst c59
            have H1 : (some false) = some r := by rw [if_neg (show ¬ (false = true) by decide)] at H; exact H
            clear H
            have H := H1
            clear H1
            obtain rfl := Option.some.inj H
            try go_wp2
            have n0_ := Aside0.mk (Kd.R_drew HO_214000.out)
            have n1_ := Aside0.mk (Kd.R_drew HO_218000.out)
            have n2_ := Aside0.mk (Kd.R_drew HO_223000.out)
            have n3_ := Aside0.mk (blk_drew BK204.out)
            have n4_ := Aside0.mk (blk_drew BK213.out)
            have n5_ := Aside0.mk (blk_drew BK217.out)
            have n6_ := Aside0.mk (blk_drew BK222.out)
            have n7_ := Aside0.mk (below_drew1 HB.out)
            clear HO_214000
            clear HO_218000
            clear HO_223000
            clear BK204
            clear BK213
            clear BK217
            clear BK222
            clear HB
            have HO_214000 := n0_
            have HO_218000 := n1_
            have HO_223000 := n2_
            have BK204 := n3_
            have BK213 := n4_
            have BK217 := n5_
            have BK222 := n6_
            have HB := n7_
            clear n0_ n1_ n2_ n3_ n4_ n5_ n6_ n7_
            refine start_ (n := 5) (S := fun w' => w'.cell? ⟨gb217, 0, none⟩ = some (.slice Ao27 t214.length co27) ∧ w'.cell? ⟨gb204, 0, none⟩ = some (.slice A0_0 l0_0.length c0_0)) (ds := []) #[false, false, false, false, false] (by kernel_rfl) rfl rfl ⟨(blk_cell BK217.out 0).trans rfl, (blk_cell BK204.out 0).trans rfl⟩ (fun hHeld => ?_)
            generalize wc.drew = w176 at HO_214000 HO_218000 HO_223000 BK204 BK213 BK217 BK222 HB hHeld ⊢
            refine take_ (i := 0) (N := some 45) (v := ?_) (a' := ?_) #[true, false, false, false, false] rfl rfl (by kernel_rfl) (fun _ _ _ h => h) (Or.inl ⟨by rfl, ?_⟩) hHeld ?_ ?_
            rotate_left
            · rintro w' ⟨s0, s1⟩
              go_simp
              with_reducible rfl
            rotate_left
            · simp only [Act.put, List.setIfInBounds_toArray, List.set_cons_zero, List.set_cons_succ, i64_w, i32_w]
              rfl
            refine take_ (i := 1) (N := some 46) (v := ?_) (a' := ?_) #[true, true, false, false, false] rfl rfl (by kernel_rfl) (fun _ _ _ h => h) (Or.inl ⟨by rfl, ?_⟩) hHeld ?_ ?_
            rotate_left
            · rintro w' ⟨s0, s1⟩
              go_simp
              with_reducible rfl
            rotate_left
            · simp only [Act.put, List.setIfInBounds_toArray, List.set_cons_zero, List.set_cons_succ, i64_w, i32_w]
              rfl
            refine one_ (i := 2) (N := some 47) #[true, true, true, false, false] rfl rfl (by kernel_rfl) (by decide) (fun K hK => ?_)
            refine goes_ Try.func6 (by kernel_rfl) rfl #[.agg #[.slice A0_0 l0_0.length c0_0]] (by rfl) rfl rfl (by (try simp only [List.map_toArray, List.map_cons, List.map_nil]); first | done | rfl | (simp only [List.length_drop, List.length_take]; rfl)) ?_
            with_reducible refine (laws_toTable.calls kj11 _ _ l0_0 t224 _ ?side1 ?side2 A57.out).mono ?_
            (case side1 => repeat (first | exact (Kd.C_below HR0_0.out HB.out) | (with_reducible refine Kd.C_alloc ?_ _) | (with_reducible refine Kd.C_drewN ?_ _) | (with_reducible refine Kd.C_drew ?_)))
            (case side2 => exact HC0_0.out)
            rintro e w177 ⟨v225, rfl, ho0, hb⟩
            refine ⟨_, rfl, ?_⟩
            have n0_ := Aside0.mk (Kd.R_elder' (by (with_reducible repeat (first | apply Kd.R_alloc | apply Kd.R_drewN | apply Kd.R_drew)); exact HO_214000.out) (Kd.R_base ho0) hb)
            have n1_ := Aside0.mk (Kd.R_elder' (by (with_reducible repeat (first | apply Kd.R_alloc | apply Kd.R_drewN | apply Kd.R_drew)); exact HO_218000.out) (Kd.R_base ho0) hb)
            have n2_ := Aside0.mk (Kd.R_elder' (by (with_reducible repeat (first | apply Kd.R_alloc | apply Kd.R_drewN | apply Kd.R_drew)); exact HO_223000.out) (Kd.R_base ho0) hb)
            have n3_ := Aside0.mk (Kd.R_lower (Kd.R_new' (Kd.R_new' (Kd.R_new' ho0 (Kd.R_lt (by (with_reducible repeat (first | apply Kd.R_alloc | apply Kd.R_drewN | apply Kd.R_drew)); exact HO_214000.out))) (Kd.R_lt (by (with_reducible repeat (first | apply Kd.R_alloc | apply Kd.R_drewN | apply Kd.R_drew)); exact HO_218000.out))) (Kd.R_lt (by (with_reducible repeat (first | apply Kd.R_alloc | apply Kd.R_drewN | apply Kd.R_drew)); exact HO_223000.out))) (below_size (by repeat (first | (with_reducible first | exact HB.out | apply below_alloc | apply pw_below_drewN | apply below_drew1 | refine below_set ?_ GE204.out | refine below_set ?_ GE213.out | refine below_set ?_ GE217.out | refine below_set ?_ GE222.out) | exact HB.out))))
            have n4_ := Aside0.mk (blk_below (g := gb204) (o := .cells #[.slice A0_0 l0_0.length c0_0] 24 (0, 0)) (by (with_reducible repeat (first | refine blk_drewN ?_ _ | refine blk_drew ?_ | refine blk_alloc ?_ _)); exact BK204.out) hb)
            have n5_ := Aside0.mk (blk_below (g := gb213) (o := .cells #[.slice Ao21 t209.length co21] 26 (0, 0)) (by (with_reducible repeat (first | refine blk_drewN ?_ _ | refine blk_drew ?_ | refine blk_alloc ?_ _)); exact BK213.out) hb)
            have n6_ := Aside0.mk (blk_below (g := gb217) (o := .cells #[.slice Ao27 t214.length co27] 26 (0, 0)) (by (with_reducible repeat (first | refine blk_drewN ?_ _ | refine blk_drew ?_ | refine blk_alloc ?_ _)); exact BK217.out) hb)
            have n7_ := Aside0.mk (blk_below (g := gb222) (o := .cells #[.slice Ao33 t218.length co33] 26 (0, 0)) (by (with_reducible repeat (first | refine blk_drewN ?_ _ | refine blk_drew ?_ | refine blk_alloc ?_ _)); exact BK222.out) hb)
            have n8_ := Aside0.mk (below_step (by repeat (first | (with_reducible first | exact HB.out | apply below_alloc | apply pw_below_drewN | apply below_drew1 | refine below_set ?_ GE204.out | refine below_set ?_ GE213.out | refine below_set ?_ GE217.out | refine below_set ?_ GE222.out) | exact HB.out)) hb)
            clear HO_214000
            clear HO_218000
            clear HO_223000
            clear BK204
            clear BK213
            clear BK217
            clear BK222
            clear HB
            have HO_214000 := n0_
            have HO_218000 := n1_
            have HO_223000 := n2_
            have HO226 := n3_
            have BK204 := n4_
            have BK213 := n5_
            have BK217 := n6_
            have BK222 := n7_
            have HB := n8_
            clear n0_ n1_ n2_ n3_ n4_ n5_ n6_ n7_ n8_
            (try clear hb)
            (try clear hb2)
            (try clear hk)
            (try clear hi)
            (try clear ho0)
            obtain ⟨Ao178, co178, eo178⟩ := Kd.R_slice HO226.out
            (first | subst eo178 | (injection eo178 with f1_ f2_ f3_; have f4_ := f1_.symm; have f5_ := f3_.symm; clear f1_ f2_ f3_; subst f4_; subst f5_))
            refine hK.out _ _ ⟨(blk_cell BK217.out 0).trans rfl, (blk_cell BK204.out 0).trans rfl⟩ (fun hHeld => ?_)
            clear hK K
            refine norm_ (a' := ?_) ?_ ?_
            rotate_left
            · show Act.put _ (some 47) _ = _
              simp only [Act.put, List.setIfInBounds_toArray, List.set_cons_zero, List.set_cons_succ, i64_w, i32_w]
              rfl
            refine one_ (i := 3) (N := some 48) #[true, true, true, true, false] rfl rfl (by kernel_rfl) (by decide) (fun K hK => ?_)
            refine goes_ Try.func8 (by kernel_rfl) rfl #[.agg #[.slice Ao27 t214.length co27], .agg #[.slice Ao178 t224.length co178]] (by rfl) rfl rfl (by (try simp only [List.map_toArray, List.map_cons, List.map_nil]); first | done | rfl | (simp only [List.length_drop, List.length_take]; rfl)) ?_
            with_reducible refine (laws_eqTable.calls kj11 _ _ t214 _ _ t224 false _ ?side1 ?side2 ?side3 ?side4 A58.out).mono ?_
            (case side1 => repeat (first | exact (Kd.R_reads' HO_218000.out).2.2 | (with_reducible refine Kd.C_alloc ?_ _) | (with_reducible refine Kd.C_drewN ?_ _) | (with_reducible refine Kd.C_drew ?_)))
            (case side2 => exact (Kd.R_reads' HO_218000.out).2.1)
            (case side3 => repeat (first | exact (Kd.R_reads' HO226.out).2.2 | (with_reducible refine Kd.C_alloc ?_ _) | (with_reducible refine Kd.C_drewN ?_ _) | (with_reducible refine Kd.C_drew ?_)))
            (case side4 => exact (Kd.R_reads' HO226.out).2.1)
            rintro e w179 ⟨rfl, hb⟩
            refine ⟨_, rfl, ?_⟩
            have n0_ := Aside0.mk (Kd.R_below (by (with_reducible repeat (first | apply Kd.R_alloc | apply Kd.R_drewN | apply Kd.R_drew)); exact HO_214000.out) hb)
            have n1_ := Aside0.mk (Kd.R_below (by (with_reducible repeat (first | apply Kd.R_alloc | apply Kd.R_drewN | apply Kd.R_drew)); exact HO_218000.out) hb)
            have n2_ := Aside0.mk (Kd.R_below (by (with_reducible repeat (first | apply Kd.R_alloc | apply Kd.R_drewN | apply Kd.R_drew)); exact HO_223000.out) hb)
            have n3_ := Aside0.mk (Kd.R_below (by (with_reducible repeat (first | apply Kd.R_alloc | apply Kd.R_drewN | apply Kd.R_drew)); exact HO226.out) hb)
            have n4_ := Aside0.mk (blk_below (g := gb204) (o := .cells #[.slice A0_0 l0_0.length c0_0] 24 (0, 0)) (by (with_reducible repeat (first | refine blk_drewN ?_ _ | refine blk_drew ?_ | refine blk_alloc ?_ _)); exact BK204.out) hb)
            have n5_ := Aside0.mk (blk_below (g := gb213) (o := .cells #[.slice Ao21 t209.length co21] 26 (0, 0)) (by (with_reducible repeat (first | refine blk_drewN ?_ _ | refine blk_drew ?_ | refine blk_alloc ?_ _)); exact BK213.out) hb)
            have n6_ := Aside0.mk (blk_below (g := gb217) (o := .cells #[.slice Ao27 t214.length co27] 26 (0, 0)) (by (with_reducible repeat (first | refine blk_drewN ?_ _ | refine blk_drew ?_ | refine blk_alloc ?_ _)); exact BK217.out) hb)
            have n7_ := Aside0.mk (blk_below (g := gb222) (o := .cells #[.slice Ao33 t218.length co33] 26 (0, 0)) (by (with_reducible repeat (first | refine blk_drewN ?_ _ | refine blk_drew ?_ | refine blk_alloc ?_ _)); exact BK222.out) hb)
            have n8_ := Aside0.mk (below_step (by repeat (first | (with_reducible first | exact HB.out | apply below_alloc | apply pw_below_drewN | apply below_drew1 | refine below_set ?_ GE204.out | refine below_set ?_ GE213.out | refine below_set ?_ GE217.out | refine below_set ?_ GE222.out) | exact HB.out)) hb)
            clear HO_214000
            clear HO_218000
            clear HO_223000
            clear HO226
            clear BK204
            clear BK213
            clear BK217
            clear BK222
            clear HB
            have HO_214000 := n0_
            have HO_218000 := n1_
            have HO_223000 := n2_
            have HO226 := n3_
            have BK204 := n4_
            have BK213 := n5_
            have BK217 := n6_
            have BK222 := n7_
            have HB := n8_
            clear n0_ n1_ n2_ n3_ n4_ n5_ n6_ n7_ n8_
            (try clear hb)
            (try clear hb2)
            (try clear hk)
            (try clear hi)
            refine hK.out _ _ ⟨(blk_cell BK217.out 0).trans rfl, (blk_cell BK204.out 0).trans rfl⟩ (fun hHeld => ?_)
            clear hK K
            refine norm_ (a' := ?_) ?_ ?_
            rotate_left
            · show Act.put _ (some 48) _ = _
              simp only [Act.put, List.setIfInBounds_toArray, List.set_cons_zero, List.set_cons_succ, i64_w, i32_w]
              rfl
            refine pure_ (i := 4) (N := some 49) (v := ?_) (a' := ?_) #[true, true, true, true, true] rfl rfl (by kernel_rfl) (fun _ _ _ h => h) (Or.inl ⟨by rfl, ?_⟩) ?_ ?_
            rotate_left
            · intro w'
              go_simp
              with_reducible rfl
            rotate_left
            · simp only [Act.put, List.setIfInBounds_toArray, List.set_cons_zero, List.set_cons_succ, i64_w, i32_w]
              rfl
            refine done_ (by kernel_rfl) ?_
            try go_wp2
            go_ret
            exact ⟨by first | rfl | (simp [errW_none, errW_some] <;> rfl) | (simp [*, errW_none, errW_some] <;> rfl), by repeat (first | (with_reducible first | exact HB.out | apply below_alloc | apply pw_below_drewN | apply below_drew1 | refine below_set ?_ GE204.out | refine below_set ?_ GE213.out | refine below_set ?_ GE217.out | refine below_set ?_ GE222.out) | exact HB.out)⟩
end Go.Proofs.Ytlphlmbkfgdmgaa.G
namespace Go.Proofs.Ytlphlmbkfgdmgaa.G
open Go.RowKit Go.Proofs.YtlphlmbkfgdmgaaW.PrintWords Go.Proofs.YtlphlmbkfgdmgaaW.PrintLast Go.Proofs.YtlphlmbkfgdmgaaW.PrintMore
set_option linter.unusedVariables false
set_option linter.unusedSimpArgs false
theorem wrap_id {x : Int} (h1 : -9223372036854775808 ≤ x) (h2 : x ≤ 9223372036854775807) : wrap64 x = x := by unfold wrap64; omega
theorem wrap_next {i n : Nat} (h : i < n) (hn : n ≤ 4611686018427387904) : wrap64 ((i : Int) + 1) = ((i + 1 : Nat) : Int) := by rw [wrap_id (by omega) (by omega)]; rfl
theorem succ_of {d k : Nat} (h : d < k) : ∃ m, k = m + 1 := ⟨k - 1, by omega⟩
theorem rd_nat (l : List Int) (i : Nat) : rd l (i : Int) = l.getD i 0 := by unfold rd; rw [Int.toNat_natCast]
theorem take_succ_getD {l : List Int} {i : Nat} (h : i < l.length) : l.take (i + 1) = l.take i ++ [l.getD i 0] := by
  rw [List.take_succ_eq_append_getElem h, List.getD_eq_getElem?_getD, List.getElem?_eq_getElem h]; rfl
theorem drop_getD {l : List Int} {i : Nat} (h : i < l.length) : l.drop i = l.getD i 0 :: l.drop (i + 1) := by
  rw [List.drop_eq_getElem_cons h, List.getD_eq_getElem?_getD, List.getElem?_eq_getElem h]; rfl
theorem Ev.of_all {α : Type} {g : Nat → Option α} {r : α} (K : Nat) (h : ∀ k, K < k → g k = some r) : Ev g r := ⟨K + 1, fun k hk => h k (by omega)⟩
/-- A loop that counts up: its state at each count, what is left behind the last one. -/
theorem Ev.up {σ ρ : Type} (n : Nat) (S : Nat → σ) (L : Nat → σ → Int → Option ρ) (r : ρ)
    (hstep : ∀ i, i < n → Ev (fun k => L k (S (i + 1)) ((i + 1 : Nat) : Int)) r → Ev (fun k => L k (S i) (i : Int)) r)
    (hend : Ev (fun k => L k (S n) (n : Int)) r) : ∀ m, m ≤ n → Ev (fun k => L k (S m) (m : Int)) r := by
  intro m hm
  have key : ∀ d m, m + d = n → Ev (fun k => L k (S m) (m : Int)) r := by
    intro d
    induction d with
    | zero => intro m hd; obtain rfl : m = n := by omega
              exact hend
    | succ d ih => intro m hd; exact hstep m (by omega) (ih (m + 1) (by omega))
  exact key (n - m) m (by omega)
/-- A round that needs no rounds of others. -/
theorem Ev.one {α : Type} {g f : Nat → Option α} {r : α} (k : Ev f r) (h : ∀ k, g (k + 1) = f k) : Ev g r := Ev.step h k
theorem Ev.end_ {α : Type} {g : Nat → Option α} {r : α} (h : ∀ k, g (k + 1) = some r) : Ev g r := Ev.step h (Ev.now r)
theorem toIntS_l0 (x0 : List Int) (hn : x0.length ≤ 4611686018427387904) : ∀ (d k i : Nat) (x3 : List Int), i + d = x0.length → d < k → x3.length = x0.length → x3.take i = x0.take i → laws_toIntS.l0 k x0 x3 i = some x0 := by
  intro d
  induction d with
  | zero =>
    intro k i x3 hd hk hl ht
    obtain ⟨k, rfl⟩ := succ_of hk
    have hi : i = x0.length := by omega
    rw [laws_toIntS.l0, if_neg (by omega)]
    rw [hi, List.take_of_length_le (by omega), List.take_of_length_le (by omega)] at ht
    rw [ht]
  | succ d ih =>
    intro k i x3 hd hk hl ht
    obtain ⟨k, rfl⟩ := succ_of hk
    rw [laws_toIntS.l0, if_pos (by omega), if_pos (by omega), if_pos (by omega), wrap_next (n := x0.length) (by omega) hn, rd_nat, Int.toNat_natCast]
    apply ih k (i + 1) _ (by omega) (by omega) (by simpa using hl)
    rw [take_succ_getD (l := x0) (i := i) (by omega), ← ht]
    apply List.ext_getElem
    · simp; omega
    · intro j h1 h2
      simp only [List.length_take, List.length_set] at h1
      rw [List.getElem_take, List.getElem_set, List.getElem_append]
      by_cases e : i = j
      · subst e; simp; intro h; omega
      · have : j < i := by omega
        simp [e, this]; omega
theorem toIntS_ev (l : List Int) (hn : l.length ≤ 35184372088832) : Ev (fun k => laws_toIntS.f k l) l := by
  refine Ev.of_all l.length fun k hk => ?_
  unfold laws_toIntS.f
  rw [if_pos (by omega), if_pos (by omega)]
  exact toIntS_l0 l (by omega) l.length k 0 _ (by omega) hk (by simp) (by simp)
theorem eqIntS_l0 (a b : List Int) (hl : a.length = b.length) (hn : a.length ≤ 4611686018427387904) : ∀ (d k i : Nat), i + d = a.length → d < k → laws_eqIntS.l0 k a b i = some (decide (a.drop i = b.drop i)) := by
  intro d
  induction d with
  | zero =>
    intro k i hd hk
    obtain ⟨k, rfl⟩ := succ_of hk
    rw [laws_eqIntS.l0, if_neg (by omega), List.drop_of_length_le (by omega), List.drop_of_length_le (by omega)]; simp
  | succ d ih =>
    intro k i hd hk
    obtain ⟨k, rfl⟩ := succ_of hk
    rw [laws_eqIntS.l0, if_pos (by omega), if_pos (by omega), if_pos (by omega), wrap_next (n := a.length) (by omega) hn, rd_nat, rd_nat, ih k (i + 1) (by omega) (by omega), drop_getD (l := a) (i := i) (by omega), drop_getD (l := b) (i := i) (by omega)]
    by_cases e : a.getD i 0 = b.getD i 0
    · rw [if_pos e, e]; simp
    · rw [if_neg e]; simp only [List.cons.injEq, e, false_and, decide_false]
theorem eqIntS_ev (a b : List Int) (hn : a.length ≤ 4611686018427387904) : Ev (fun k => laws_eqIntS.f k a b) (decide (a = b)) := by
  refine Ev.of_all a.length fun k hk => ?_
  unfold laws_eqIntS.f
  by_cases hl : a.length = b.length
  · rw [if_pos (by omega), show (0 : Int) = ((0 : Nat) : Int) from rfl, eqIntS_l0 a b hl hn a.length k 0 (by omega) hk]; rfl
  · rw [if_neg (by omega)]
    have : a ≠ b := fun e => hl (by rw [e])
    simp [this]
/-- Numbers that rise from m on. -/
def rise (n : Nat) (m : Int) : List Int := (List.range n).map fun (j : Nat) => m + j
theorem getD_rise (n : Nat) (m : Int) (j : Nat) (h : j < n) : (rise n m).getD j 0 = m + j := by
  simp [rise, List.getD_eq_getElem?_getD, List.getElem?_map, List.getElem?_range h]
theorem markIntS_l0 (n : Nat) (hn : n ≤ 1152921504606846976) (m : Int) (hm : 0 ≤ m ∧ m ≤ 1152921504606846976) : ∀ (d k i : Nat) (a : List Int), a.length = n → i + d = n → d < k → a.take i = rise i m → laws_markIntS.l0 k a (m + i) i = some (m + n, rise n m) := by
  intro d
  induction d with
  | zero =>
    intro k i a hl hd hk ht
    obtain ⟨k, rfl⟩ := succ_of hk
    obtain rfl : i = n := by omega
    rw [List.take_of_length_le (by omega)] at ht
    rw [laws_markIntS.l0, if_neg (by omega), ht]
  | succ d ih =>
    intro k i a hl hd hk ht
    obtain ⟨k, rfl⟩ := succ_of hk
    rw [laws_markIntS.l0, if_pos (by omega), if_pos (by omega), wrap_next (n := n) (by omega) (by omega), Int.toNat_natCast, wrap_id (x := m + i + 1) (by omega) (by omega)]
    have := ih k (i + 1) (a.set i (m + i)) (by simpa using hl) (by omega) (by omega) (by
      apply List.ext_getElem
      · simp [rise]; omega
      · intro j h1 h2
        simp only [List.length_take, List.length_set] at h1
        simp only [List.getElem_take, List.getElem_set, rise, List.getElem_map, List.getElem_range]
        by_cases e : i = j
        · subst e; simp
        · have hj : j < i := by omega
          have : (a.take i)[j]? = (rise i m)[j]? := by rw [ht]
          rw [List.getElem?_eq_getElem (by simp; omega), List.getElem?_eq_getElem (by simp [rise]; omega)] at this
          simp [rise] at this
          simp [e, this])
    rw [show m + (i : Int) + 1 = m + ((i + 1 : Nat) : Int) by push_cast; omega]
    exact this
theorem markIntS_ev (a : List Int) (m : Int) (hm : 0 ≤ m ∧ m ≤ 1152921504606846976) (hn : a.length ≤ 1152921504606846976) : Ev (fun k => laws_markIntS.f k a m) (m + a.length, rise a.length m) := by
  refine Ev.of_all a.length fun k hk => ?_
  unfold laws_markIntS.f
  have := markIntS_l0 a.length hn m hm a.length k 0 a rfl (by omega) hk (by simp [rise])
  simpa using this
theorem heldIntS_l0 (n : Nat) (hn : n ≤ 1152921504606846976) (m : Int) (hm : 0 ≤ m ∧ m ≤ 1152921504606846976) : ∀ (d k i : Nat), i + d = n → d < k → laws_heldIntS.l0 k (rise n m) (m + i) i = some (m + n) := by
  intro d
  have hl : (rise n m).length = n := by simp [rise]
  induction d with
  | zero =>
    intro k i hd hk
    obtain ⟨k, rfl⟩ := succ_of hk
    obtain rfl : i = n := by omega
    rw [laws_heldIntS.l0, if_neg (by omega)]
  | succ d ih =>
    intro k i hd hk
    obtain ⟨k, rfl⟩ := succ_of hk
    rw [laws_heldIntS.l0, if_pos (by omega), if_pos (by omega), rd_nat, getD_rise _ _ _ (by omega), if_pos rfl, wrap_next (n := n) (by omega) (by omega), wrap_id (x := m + i + 1) (by omega) (by omega)]
    rw [show m + (i : Int) + 1 = m + ((i + 1 : Nat) : Int) by push_cast; omega]
    exact ih k (i + 1) (by omega) (by omega)
theorem heldIntS_ev (n : Nat) (m : Int) (hm : 0 ≤ m ∧ m ≤ 1152921504606846976) (hn : n ≤ 1152921504606846976) : Ev (fun k => laws_heldIntS.f k (rise n m) m) (m + n) := by
  refine Ev.of_all n fun k hk => ?_
  unfold laws_heldIntS.f
  have := heldIntS_l0 n hn m hm n k 0 (by omega) hk
  simpa using this
theorem l1In_eq (a b c : Int) : spec_l1In.f a b c = some (decide (b ≤ a ∧ a ≤ c)) := by
  unfold spec_l1In.f
  split
  · rename_i h; congr 1; rw [Bool.eq_iff_iff]; simp; omega
  · rename_i h; congr 1; rw [Bool.eq_iff_iff]; simp; omega
theorem l1All_l0 (l : List Int) (lo hi : Int) (hn : l.length ≤ 4611686018427387904) : ∀ (d k i : Nat), i + d = l.length → d < k → spec_l1All.l0 k lo hi l (l.length : Int) i = some ((l.drop i).all fun x => decide (lo ≤ x ∧ x ≤ hi)) := by
  intro d
  induction d with
  | zero =>
    intro k i hd hk
    obtain ⟨k, rfl⟩ := succ_of hk
    rw [spec_l1All.l0, if_neg (by omega), List.drop_of_length_le (by omega)]; rfl
  | succ d ih =>
    intro k i hd hk
    obtain ⟨k, rfl⟩ := succ_of hk
    rw [spec_l1All.l0, if_pos (by omega), if_pos (by omega), if_pos (by omega), l1In_eq, Option.bind_some, rd_nat, wrap_next (n := l.length) (by omega) hn, ih k (i + 1) (by omega) (by omega), drop_getD (l := l) (i := i) (by omega), List.all_cons]
    split
    · rename_i h; rw [h, Bool.true_and]
    · rename_i h; rw [Bool.not_eq_true] at h; rw [h, Bool.false_and]
theorem l1All_ev (l : List Int) (lo hi : Int) (hn : l.length ≤ 4611686018427387904) : Ev (fun k => spec_l1All.f k l lo hi) (l.all fun x => decide (lo ≤ x ∧ x ≤ hi)) := by
  refine Ev.of_all l.length fun k hk => ?_
  have := l1All_l0 l lo hi hn l.length k 0 (by omega) hk
  simpa [spec_l1All.f] using this
theorem nneg (n : Nat) : ((1 : Int) + (n : Int) < 0) = False := by simp; omega
theorem eqTable_ev (a b : List Int) (hn : a.length ≤ 4611686018427387904) : Ev (fun k => laws_eqTable.f k a b) (decide (a = b)) := by
  unfold laws_eqTable.f
  refine Ev.bind (eqIntS_ev a b hn) ?_
  cases decide (a = b) with
  | true => simp only [if_true]; exact Ev.now _
  | false => simp only [Bool.false_eq_true, if_false]; exact Ev.now _
theorem markTable_ev (a : List Int) (m : Int) (hm : 0 ≤ m ∧ m ≤ 1152921504606846976) (hn : a.length ≤ 1152921504606846976) : Ev (fun k => laws_markTable.f k a m) (m + a.length, rise a.length m) := by
  unfold laws_markTable.f
  exact Ev.bind (markIntS_ev a m hm hn) (Ev.now _)
theorem heldTable_ev (n : Nat) (m : Int) (hm : 0 ≤ m ∧ m ≤ 1152921504606846976) (hn : n ≤ 1152921504606846976) : Ev (fun k => laws_heldTable.f k (rise n m) m) (m + n) := by
  unfold laws_heldTable.f
  refine Ev.bind (heldIntS_ev n m hm hn) ?_
  simp only [show ¬ (m + (n : Int) < 0) by omega, if_false]
  exact Ev.now _
theorem toTable_ev (l : List Int) (hn : l.length ≤ 35184372088832) : Ev (fun k => laws_toTable.f k l) l := by
  unfold laws_toTable.f
  exact Ev.bind (toIntS_ev l hn) (Ev.now _)
theorem between_eq (a b c : Int) : impl_between.f a b c = some (decide (b ≤ a ∧ a ≤ c)) := by
  unfold impl_between.f
  by_cases h : a ≥ b
  · rw [if_pos h]; congr 1; simp; omega
  · rw [if_neg h]; congr 1; simp; omega
theorem isSize_eq (a : Int) : impl_isSize.f a = some (decide (2 ≤ a ∧ a ≤ 12)) := by unfold impl_isSize.f; rw [between_eq]; rfl
theorem szTable_eq (l : List Int) (hn : l.length ≤ 4611686018427387904) : laws_szTable.f l 1048576 = some (if (l.length : Int) > 1048576 then -1 else 1048576 - (l.length : Int)) := by
  unfold laws_szTable.f laws_szIntS.f
  rw [wrap_id (x := 1048576 - (l.length : Int)) (by omega) (by omega)]
  by_cases h : (l.length : Int) > 1048576
  · rw [if_pos (by omega), if_pos h]; rfl
  · rw [if_neg (by omega), if_neg h, Option.bind_some, if_neg (by omega)]
theorem l1Has_l0 (x : List Int) (a : Int) (hn : x.length ≤ 4611686018427387904) : ∀ (d i : Nat), i + d = x.length → Ev (fun k => spec_l1Has.l0 k a x (x.length : Int) i) (decide (a ∈ x.drop i)) := by
  intro d
  induction d with
  | zero =>
    intro i hd
    refine Ev.end_ fun k => ?_
    rw [spec_l1Has.l0, if_neg (by omega), List.drop_eq_nil_of_le (by omega)]
    simp
  | succ d ih =>
    intro i hd
    have e1 := drop_getD (l := x) (i := i) (by omega)
    by_cases h : x.getD i 0 = a
    · refine Ev.end_ fun k => ?_
      rw [spec_l1Has.l0, if_pos (by omega), if_pos (by omega), if_pos (by omega), rd_nat, if_pos h, e1, h, decide_eq_true (List.mem_cons_self)]
    · refine Ev.one (f := fun k => spec_l1Has.l0 k a x (x.length : Int) ((i + 1 : Nat) : Int)) ?_ fun k => ?_
      · have := ih (i + 1) (by omega)
        have e : decide (a ∈ x.drop i) = decide (a ∈ x.drop (i + 1)) := by
          rw [e1]
          have : ¬ a = x.getD i 0 := fun e => h e.symm
          simp only [List.mem_cons, this, false_or]
        rw [e]; exact this
      · rw [spec_l1Has.l0, if_pos (by omega), if_pos (by omega), if_pos (by omega), rd_nat, if_neg h, wrap_next (n := x.length) (by omega) hn]
theorem l1Has_ev (x : List Int) (a : Int) (hn : x.length ≤ 4611686018427387904) : Ev (fun k => spec_l1Has.f k x a) (decide (a ∈ x)) := by
  unfold spec_l1Has.f
  have := l1Has_l0 x a hn x.length 0 (by omega)
  simpa using this
/-- The first place of a number, -1 where it is not. -/
def ixF (l : List Int) (a : Int) : Nat → Nat → Int
  | 0, _ => -1
  | d + 1, i => if l.getD i 0 = a then (i : Int) else ixF l a d (i + 1)
theorem ixF_spec (l : List Int) (a : Int) : ∀ (d i : Nat), i + d = l.length → (ixF l a d i = -1 ∧ a ∉ l.drop i) ∨ (∃ j : Nat, ixF l a d i = j ∧ j < l.length ∧ l.getD j 0 = a ∧ a ∈ l.drop i)
  | 0, i, h => by left; rw [List.drop_of_length_le (by omega)]; exact ⟨rfl, by simp⟩
  | d + 1, i, h => by
    rw [ixF, drop_getD (by omega)]
    by_cases c : l.getD i 0 = a
    · right; rw [if_pos c]; exact ⟨i, rfl, by omega, c, by rw [c]; simp⟩
    · rw [if_neg c]
      rcases ixF_spec l a d (i + 1) (by omega) with ⟨h1, h2⟩ | ⟨j, h1, h2, h3, h4⟩
      · left; exact ⟨h1, by simp only [List.mem_cons, not_or]; exact ⟨fun e => c e.symm, h2⟩⟩
      · right; exact ⟨j, h1, h2, h3, by simp [h4]⟩
theorem index_l0 (l : List Int) (a : Int) (hn : l.length ≤ 4611686018427387904) : ∀ (d i : Nat), i + d = l.length → Ev (fun k => slices_Index_int_int.l0 k l a (l.length : Int) i) (ixF l a d i) := by
  intro d
  induction d with
  | zero =>
    intro i hd
    exact Ev.end_ fun k => by rw [slices_Index_int_int.l0, if_neg (by omega)]; rfl
  | succ d ih =>
    intro i hd
    rw [ixF]
    by_cases c : l.getD i 0 = a
    · rw [if_pos c]
      refine Ev.end_ fun k => ?_
      rw [slices_Index_int_int.l0, if_pos (by omega), if_pos (by omega), if_pos (by omega), rd_nat, if_pos c.symm]
    · rw [if_neg c]
      refine Ev.one (ih (i + 1) (by omega)) fun k => ?_
      rw [slices_Index_int_int.l0, if_pos (by omega), if_pos (by omega), if_pos (by omega), rd_nat, if_neg (fun e => c e.symm), wrap_next (n := l.length) (by omega) hn]
theorem index_ev (l : List Int) (a : Int) (hn : l.length ≤ 4611686018427387904) : Ev (fun k => slices_Index_int_int.f k l a) (ixF l a l.length 0) := by
  unfold slices_Index_int_int.f
  exact index_l0 l a hn l.length 0 (by omega)
theorem containsI_ev (l : List Int) (a : Int) (hn : l.length ≤ 4611686018427387904) : Ev (fun k => slices_Contains_int_int.f k l a) (decide (a ∈ l)) := by
  unfold slices_Contains_int_int.f
  refine Ev.bind (index_ev l a hn) ?_
  have e : decide (ixF l a l.length 0 ≥ 0) = decide (a ∈ l) := by
    rcases ixF_spec l a l.length 0 (by omega) with ⟨h1, h2⟩ | ⟨j, h1, h2, h3, h4⟩
    · rw [List.drop_zero] at h2
      rw [h1, decide_eq_false h2]; decide
    · rw [List.drop_zero] at h4
      rw [h1, decide_eq_true h4]; exact decide_eq_true (by omega)
  rw [e]
  exact Ev.now _
def costN (n key at_ : Nat) : Nat := (at_ + n - key % n) % n
theorem cost_arith {n key at_ : Nat} (hn : 0 < n) (hn2 : n ≤ 1000) (hk : key ≤ 1000) (ha : at_ < n) : Int.tmod (wrap64 ((wrap64 ((at_ : Int) - (Int.tmod (key : Int) (n : Int)))) + (n : Int))) (n : Int) = (costN n key at_ : Nat) := by
  have e1 : Int.tmod (key : Int) (n : Int) = ((key % n : Nat) : Int) := rfl
  have hlt := Nat.mod_lt key hn
  rw [e1, wrap_id (x := (at_ : Int) - ((key % n : Nat) : Int)) (by omega) (by omega), wrap_id (by omega) (by omega)]
  rw [show (at_ : Int) - ((key % n : Nat) : Int) + (n : Int) = ((at_ + n - key % n : Nat) : Int) by omega]
  rfl
theorem costN_lt {n key at_ : Nat} (hn : 0 < n) : costN n key at_ < n := Nat.mod_lt _ hn
theorem prCost_eq {n key at_ : Nat} (hn : 0 < n) (hn2 : n ≤ 1000) (hk : key ≤ 1000) (ha : at_ < n) : spec_prCost.f (key : Int) (at_ : Int) (n : Int) = some ((costN n key at_ : Nat) : Int) := by
  unfold spec_prCost.f
  rw [if_neg (by omega), cost_arith hn hn2 hk ha]
theorem tcost_eq {l : List Int} {key at_ : Nat} (hn2 : l.length ≤ 1000) (hk : key ≤ 1000) (ha : at_ < l.length) (hg : l.getD at_ 0 = (key : Int)) : impl_Table_cost.f l (at_ : Int) = some ((costN l.length key at_ : Nat) : Int) := by
  unfold impl_Table_cost.f
  rw [if_pos (by omega), if_pos (by omega), if_neg (by omega), rd_nat, hg, cost_arith (by omega) hn2 hk ha]
/-- No free cell among the key's c cells from the s-th on. -/
def wayF (l : List Int) (key : Nat) : Nat → Nat → Bool
  | _, 0 => true
  | s, c + 1 => decide (0 ≤ l.getD ((key + s) % l.length) 0) && wayF l key (s + 1) c
def okCell (l : List Int) (i : Nat) : Bool := decide (l.getD i 0 < 0) || (!decide (l.getD i 0 ∈ l.take i) && wayF l (l.getD i 0).toNat 0 (costN l.length (l.getD i 0).toNat i))
def okFrom (l : List Int) : Nat → Nat → Bool
  | 0, _ => true
  | d + 1, i => okCell l i && okFrom l d (i + 1)
def tblB (l : List Int) : Bool := decide (2 ≤ (l.length : Int) ∧ (l.length : Int) ≤ 12) && (l.all fun x => decide (-1 ≤ x ∧ x ≤ 999)) && decide ((-1 : Int) ∈ l) && okFrom l l.length 0
/-- The cell that lies so far back is the key's own one, so far on. -/
theorem back_cell {n key at_ c j : Nat} (hn : 0 < n) (ha : at_ < n) (hc : costN n key at_ = c) (hj : j ≤ c) (h1 : 1 ≤ j) : (at_ + n - j) % n = (key + (c - j)) % n := by
  have hk := Nat.mod_lt key hn
  have hcn : c < n := by rw [← hc]; exact costN_lt hn
  have e : (key + (c - j)) % n = (key % n + (c - j)) % n := (Nat.mod_add_mod key n (c - j)).symm
  rw [e]
  unfold costN at hc
  rcases Nat.lt_or_ge at_ (key % n) with h | h
  · rw [Nat.mod_eq_of_lt (show at_ + n - key % n < n by omega)] at hc
    rw [show key % n + (c - j) = at_ + n - j by omega]
  · have : (at_ + n - key % n) % n = at_ - key % n := by
      rw [show at_ + n - key % n = (at_ - key % n) + n by omega, Nat.add_mod_right, Nat.mod_eq_of_lt (by omega)]
    rw [this] at hc
    rw [show at_ + n - j = (key % n + (c - j)) + n by omega, Nat.add_mod_right]
end Go.Proofs.Ytlphlmbkfgdmgaa.G
namespace Go.Proofs.Ytlphlmbkfgdmgaa.G
open Go.RowKit Go.Proofs.YtlphlmbkfgdmgaaW.PrintWords Go.Proofs.YtlphlmbkfgdmgaaW.PrintLast Go.Proofs.YtlphlmbkfgdmgaaW.PrintMore
set_option linter.unusedVariables false
set_option linter.unusedSimpArgs false
section
variable (l : List Int) (hn : 2 ≤ l.length) (hn2 : l.length ≤ 12) (hr : ∀ j, j < l.length → -1 ≤ l.getD j 0 ∧ l.getD j 0 ≤ 999)
include hn hn2 hr
theorem sp_way (key i c : Nat) (hk : key ≤ 1000) (hi : i < l.length) (hc : costN l.length key i = c) (r : Bool) (h : Ev (fun k => spec_prGood.l0 k (l.length : Int) l (l.length : Int) (wrap64 ((i : Int) + 1)) l) r) : ∀ (j : Nat), j ≤ c →
    Ev (fun k => spec_prGood.l1 k (l.length : Int) (i : Int) (j : Int) l (l.length : Int) (i : Int) l) (if wayF l key (c - j) j = true then r else false) := by
  have hcn : c < l.length := by rw [← hc]; exact costN_lt (by omega)
  intro j
  induction j with
  | zero =>
    intro _
    rw [wayF, if_pos rfl]
    exact Ev.one h fun k => by rw [spec_prGood.l1, if_neg (by omega)]
  | succ j ih =>
    intro hj
    have hcell := back_cell (n := l.length) (by omega) hi hc hj (by omega)
    have e1 : Int.tmod (wrap64 ((wrap64 ((i : Int) - ((j + 1 : Nat) : Int))) + (l.length : Int))) (l.length : Int) = (((key + (c - (j + 1))) % l.length : Nat) : Int) := by
      rw [wrap_id (x := (i : Int) - ((j + 1 : Nat) : Int)) (by omega) (by omega), wrap_id (by omega) (by omega), ← hcell, show (i : Int) - ((j + 1 : Nat) : Int) + (l.length : Int) = ((i + l.length - (j + 1) : Nat) : Int) by omega]
      rfl
    have hm := Nat.mod_lt (key + (c - (j + 1))) (show 0 < l.length by omega)
    have hv := hr _ hm
    rw [wayF, show c - (j + 1) + 1 = c - j by omega]
    by_cases hf : l.getD ((key + (c - (j + 1))) % l.length) 0 = -1
    · rw [show decide (0 ≤ l.getD ((key + (c - (j + 1))) % l.length) 0) = false from decide_eq_false (by omega), Bool.false_and, if_neg (by decide)]
      refine Ev.end_ fun k => ?_
      rw [spec_prGood.l1, if_pos (by omega), if_neg (by omega), e1, if_pos (by omega), if_pos (by omega), rd_nat, if_pos hf]
    · rw [show decide (0 ≤ l.getD ((key + (c - (j + 1))) % l.length) 0) = true from decide_eq_true (by omega), Bool.true_and]
      refine Ev.one (ih (by omega)) fun k => ?_
      rw [spec_prGood.l1, if_pos (by omega), if_neg (by omega), e1, if_pos (by omega), if_pos (by omega), rd_nat, if_neg hf, wrap_id (x := ((j + 1 : Nat) : Int) - 1) (by omega) (by omega), show ((j + 1 : Nat) : Int) - 1 = (j : Int) by omega]
theorem im_way (key i c : Nat) (hk : key ≤ 1000) (hi : i < l.length) (hc : c < l.length) (r : Bool) (h : Ev (fun k => impl_isTable.l0 k l (l.length : Int) (wrap64 ((i : Int) + 1)) l) r) : ∀ (d s : Nat), s + d = c →
    Ev (fun k => impl_isTable.l1 k (key : Int) l (l.length : Int) (i : Int) (c : Int) (s : Int) l) (if wayF l key s d = true then r else false) := by
  have hr0 := hr
  intro d
  induction d with
  | zero =>
    intro s hs
    rw [wayF, if_pos rfl]
    exact Ev.one h fun k => by rw [impl_isTable.l1, if_neg (by omega)]
  | succ d ih =>
    intro s hs
    have e1 : Int.tmod (wrap64 ((key : Int) + (s : Int))) (l.length : Int) = (((key + s) % l.length : Nat) : Int) := by
      rw [wrap_id (by omega) (by omega), show (key : Int) + (s : Int) = ((key + s : Nat) : Int) by omega]
      rfl
    have hm := Nat.mod_lt (key + s) (show 0 < l.length by omega)
    rw [wayF]
    by_cases hf : l.getD ((key + s) % l.length) 0 < 0
    · rw [show decide (0 ≤ l.getD ((key + s) % l.length) 0) = false from decide_eq_false (by omega), Bool.false_and, if_neg (by decide)]
      refine Ev.end_ fun k => ?_
      rw [impl_isTable.l1, if_pos (by omega), if_neg (by omega), e1, if_pos (by omega), if_pos (by omega), rd_nat, if_pos hf]
    · rw [show decide (0 ≤ l.getD ((key + s) % l.length) 0) = true from decide_eq_true (by omega), Bool.true_and]
      refine Ev.one (ih (s + 1) (by omega)) fun k => ?_
      rw [impl_isTable.l1, if_pos (by omega), if_neg (by omega), e1, if_pos (by omega), if_pos (by omega), rd_nat, if_neg hf, wrap_next (n := 1000) (by omega) (by omega)]
theorem sp_good_l0 : ∀ (d i : Nat), i + d = l.length → Ev (fun k => spec_prGood.l0 k (l.length : Int) l (l.length : Int) (i : Int) l) (okFrom l d i) := by
  intro d
  induction d with
  | zero =>
    intro i hd
    exact Ev.end_ fun k => by rw [spec_prGood.l0, if_neg (by omega)]; rfl
  | succ d ih =>
    intro i hd
    have hi : i < l.length := by omega
    have hv := hr i hi
    rw [okFrom, okCell]
    by_cases hf : l.getD i 0 = -1
    · rw [show decide (l.getD i 0 < 0) = true from decide_eq_true (by omega), Bool.true_or, Bool.true_and]
      refine Ev.one (ih (i + 1) (by omega)) fun k => ?_
      rw [spec_prGood.l0, if_pos (by omega), if_pos (by omega), if_pos (by omega), rd_nat, if_pos hf, wrap_next (n := l.length) hi (by omega)]
    · rw [show decide (l.getD i 0 < 0) = false from decide_eq_false (by omega), Bool.false_or]
      obtain ⟨key, hkey⟩ : ∃ key : Nat, l.getD i 0 = key := ⟨(l.getD i 0).toNat, by omega⟩
      rw [hkey, Int.toNat_natCast]
      refine Ev.step (f := fun k => (spec_l1Has.f k (l.take i) (key : Int)).bind fun t169 => (if t169 = true then (some false) else (spec_prGood.l1 k (l.length : Int) (i : Int) ((costN l.length key i : Nat) : Int) l (l.length : Int) (i : Int) l))) (fun k => by
        rw [spec_prGood.l0, if_pos (by omega), if_pos (by omega), if_pos (by omega), rd_nat, if_neg hf, if_pos (by omega), Int.toNat_natCast, hkey, prCost_eq (by omega) (by omega) (by omega) hi]; rfl) ?_
      refine Ev.bind (l1Has_ev _ _ (by simp; omega)) ?_
      cases hh : decide ((key : Int) ∈ l.take i) with
      | true => simp only [if_true, Bool.not_true, Bool.false_and]; exact Ev.now _
      | false =>
        simp only [Bool.false_eq_true, if_false, Bool.not_false, Bool.true_and]
        have h0 := ih (i + 1) (by omega)
        have hw := sp_way l hn hn2 hr key i (costN l.length key i) (by omega) hi rfl _ (by rw [wrap_next (n := l.length) hi (by omega)]; exact h0) (costN l.length key i) (Nat.le_refl _)
        rw [Nat.sub_self] at hw
        cases hww : wayF l key 0 (costN l.length key i) with
        | true => rw [hww, if_pos rfl] at hw; rw [Bool.true_and]; exact hw
        | false => rw [hww, if_neg (by decide)] at hw; rw [Bool.false_and]; exact hw
theorem im_good_l0 : ∀ (d i : Nat), i + d = l.length → Ev (fun k => impl_isTable.l0 k l (l.length : Int) (i : Int) l) (okFrom l d i) := by
  intro d
  induction d with
  | zero =>
    intro i hd
    exact Ev.end_ fun k => by rw [impl_isTable.l0, if_neg (by omega)]; rfl
  | succ d ih =>
    intro i hd
    have hi : i < l.length := by omega
    have hv := hr i hi
    rw [okFrom, okCell]
    by_cases hf : l.getD i 0 < 0
    · rw [decide_eq_true hf, Bool.true_or, Bool.true_and]
      refine Ev.one (ih (i + 1) (by omega)) fun k => ?_
      rw [impl_isTable.l0, if_pos (by omega), if_pos (by omega), if_pos (by omega), rd_nat, if_pos hf, wrap_next (n := l.length) hi (by omega)]
    · rw [decide_eq_false hf, Bool.false_or]
      obtain ⟨key, hkey⟩ : ∃ key : Nat, l.getD i 0 = key := ⟨(l.getD i 0).toNat, by omega⟩
      have htc := tcost_eq (l := l) (key := key) (at_ := i) (by omega) (by omega) hi hkey
      rw [hkey, Int.toNat_natCast]
      refine Ev.step (f := fun k => (slices_Contains_int_int.f k (l.take i) (key : Int)).bind fun t195 => (if t195 = true then (some false) else (impl_isTable.l1 k (key : Int) l (l.length : Int) (i : Int) ((costN l.length key i : Nat) : Int) 0 l))) (fun k => by
        rw [impl_isTable.l0, if_pos (by omega), if_pos (by omega), if_pos (by omega), rd_nat, if_neg hf, if_pos (by omega), Int.toNat_natCast, hkey, htc]; rfl) ?_
      refine Ev.bind (containsI_ev _ _ (by simp; omega)) ?_
      cases hh : decide ((key : Int) ∈ l.take i) with
      | true => simp only [if_true, Bool.not_true, Bool.false_and]; exact Ev.now _
      | false =>
        simp only [Bool.false_eq_true, if_false, Bool.not_false, Bool.true_and]
        have h0 := ih (i + 1) (by omega)
        have hw := im_way l hn hn2 hr key i (costN l.length key i) (by omega) hi (costN_lt (by omega)) _ (by rw [wrap_next (n := l.length) hi (by omega)]; exact h0) (costN l.length key i) 0 (by omega)
        cases hww : wayF l key 0 (costN l.length key i) with
        | true => rw [hww, if_pos rfl] at hw; rw [Bool.true_and]; exact hw
        | false => rw [hww, if_neg (by decide)] at hw; rw [Bool.false_and]; exact hw
end
end Go.Proofs.Ytlphlmbkfgdmgaa.G
namespace Go.Proofs.Ytlphlmbkfgdmgaa.G
open Go.RowKit Go.Proofs.YtlphlmbkfgdmgaaW.PrintWords Go.Proofs.YtlphlmbkfgdmgaaW.PrintLast Go.Proofs.YtlphlmbkfgdmgaaW.PrintMore
set_option linter.unusedVariables false
set_option linter.unusedSimpArgs false
theorem allT_get {l : List Int} {lo hi : Int} (h : (l.all fun x => decide (lo ≤ x ∧ x ≤ hi)) = true) {j : Nat} (hj : j < l.length) : lo ≤ l.getD j 0 ∧ l.getD j 0 ≤ hi := by
  rw [List.all_eq_true] at h
  have := h l[j] (List.getElem_mem hj)
  rw [List.getD_eq_getElem?_getD, List.getElem?_eq_getElem hj]
  simpa using this
theorem areBetween_eq (l : List Int) (lo hi : Int) : impl_areBetween.f l lo hi = some (l.all fun x => decide (lo ≤ x ∧ x ≤ hi)) := by
  unfold impl_areBetween.f
  congr 2
  funext x
  rw [Bool.eq_iff_iff]; simp
theorem prGood_ev (l : List Int) (hn : l.length ≤ 4611686018427387904) : Ev (fun k => spec_prGood.f k l) (tblB l) := by
  unfold spec_prGood.f tblB
  simp only [l1In_eq, Option.bind_some]
  have stop : Ev (fun k => spec_prGood.j0 k (l.length : Int) true l) false := Ev.end_ fun k => by rw [spec_prGood.j0, if_pos rfl]
  by_cases h1 : 2 ≤ (l.length : Int) ∧ (l.length : Int) ≤ 12
  · rw [decide_eq_true h1]
    simp only [if_true, Bool.true_and]
    refine Ev.bind (l1All_ev l (-1) 999 hn) ?_
    cases h2 : (l.all fun x => decide (-1 ≤ x ∧ x ≤ 999)) with
    | false => simp only [Bool.false_eq_true, if_false, Bool.false_and]; exact stop
    | true =>
      simp only [if_true, Bool.true_and]
      refine Ev.bind (l1Has_ev l (-1) hn) ?_
      cases h3 : decide ((-1 : Int) ∈ l) with
      | false => simp only [Bool.not_false, Bool.false_and]; exact stop
      | true =>
        simp only [Bool.not_true, Bool.true_and]
        exact Ev.one (sp_good_l0 l (by omega) (by omega) (fun j hj => allT_get h2 hj) l.length 0 (by omega)) fun k => by rw [spec_prGood.j0, if_neg (by decide)]; rfl
  · rw [decide_eq_false h1]
    simp only [Bool.false_eq_true, if_false, Bool.false_and]
    exact stop
theorem isTable_ev (l : List Int) (hn : l.length ≤ 4611686018427387904) : Ev (fun k => impl_isTable.f k l) (tblB l) := by
  unfold impl_isTable.f tblB
  simp only [isSize_eq, areBetween_eq, Option.bind_some]
  have stop : Ev (fun k => impl_isTable.j0 k true l) false := Ev.end_ fun k => by rw [impl_isTable.j0, if_pos rfl]
  by_cases h1 : 2 ≤ (l.length : Int) ∧ (l.length : Int) ≤ 12
  · rw [decide_eq_true h1]
    simp only [if_true, Bool.true_and]
    cases h2 : (l.all fun x => decide (-1 ≤ x ∧ x ≤ 999)) with
    | false => simp only [Bool.false_eq_true, if_false, Bool.false_and]; exact stop
    | true =>
      simp only [if_true, Bool.true_and]
      refine Ev.bind (containsI_ev l (-1) hn) ?_
      cases h3 : decide ((-1 : Int) ∈ l) with
      | false => simp only [Bool.not_false, Bool.false_and]; exact stop
      | true =>
        simp only [Bool.not_true, Bool.true_and]
        exact Ev.one (im_good_l0 l (by omega) (by omega) (fun j hj => allT_get h2 hj) l.length 0 (by omega)) fun k => by rw [impl_isTable.j0, if_neg (by decide)]; rfl
  · rw [decide_eq_false h1]
    simp only [Bool.false_eq_true, if_false, Bool.false_and]
    exact stop
/-- The places below q at which p holds. -/
def idxsTo (p : Int → Bool) (l : List Int) : Nat → List Int
  | 0 => []
  | q + 1 => idxsTo p l q ++ (if p (l.getD q 0) = true then [(q : Int)] else [])
def posP (x : Int) : Bool := decide (0 ≤ x)
def impl_Table_used.f (l0_0 : List Int) : Option (List Int) := if l0_0.length ≤ 1000000 then some (idxsTo posP l0_0 l0_0.length) else none
theorem tblB_parts {l : List Int} (h : tblB l = true) : 2 ≤ l.length ∧ l.length ≤ 12 ∧ (∀ j, j < l.length → -1 ≤ l.getD j 0 ∧ l.getD j 0 ≤ 999) ∧ (-1 : Int) ∈ l := by
  unfold tblB at h
  simp only [Bool.and_eq_true, decide_eq_true_eq] at h
  exact ⟨by omega, by omega, fun j hj => allT_get h.1.1.2 hj, h.1.2⟩
end Go.Proofs.Ytlphlmbkfgdmgaa.G
namespace Go.Proofs.Ytlphlmbkfgdmgaa.G
open Go.RowKit Go.Sort Go.Proofs.YtlphlmbkfgdmgaaW.PrintWords Go.Proofs.YtlphlmbkfgdmgaaW.PrintLast Go.Proofs.YtlphlmbkfgdmgaaW.PrintMore
set_option linter.unusedVariables false
set_option linter.unusedSimpArgs false
def sortZ (l : List Int) : List Int := l.mergeSort fun x y => decide (x ≤ y)
def negKey (x : Int) : Bool := decide (x < 0)
def keysZ (l : List Int) : List Int := (sortZ l).filter fun x => !negKey x
def impl_Table_keys.f (l0_0 : List Int) : Option (List Int) := if 1 ≤ l0_0.length ∧ l0_0.length ≤ 1000000 then some (keysZ l0_0) else none
end Go.Proofs.Ytlphlmbkfgdmgaa.G
namespace Go.Proofs.Ytlphlmbkfgdmgaa.G
open Go.RowKit Go.Proofs.YtlphlmbkfgdmgaaW.PrintWords Go.Proofs.YtlphlmbkfgdmgaaW.PrintLast Go.Proofs.YtlphlmbkfgdmgaaW.PrintMore
set_option linter.unusedVariables false
set_option linter.unusedSimpArgs false
theorem getD_get {l : List Int} {i : Nat} (h : i < l.length) : l.getD i 0 = l[i] := by
  rw [List.getD_eq_getElem?_getD, List.getElem?_eq_getElem h]; rfl
theorem tbl_dist {l : List Int} (h : tblB l = true) : ∀ i j, i < j → j < l.length → 0 ≤ l.getD i 0 → l.getD i 0 ≠ l.getD j 0 := by
  have hok : okFrom l l.length 0 = true := by
    unfold tblB at h
    simp only [Bool.and_eq_true] at h
    exact h.2
  have hall : ∀ (d i : Nat), i + d = l.length → okFrom l d i = true → ∀ j, i ≤ j → j < l.length → okCell l j = true := by
    intro d
    induction d with
    | zero => intro i hd _ j h1 h2; omega
    | succ d ih =>
      intro i hd hk j h1 h2
      rw [okFrom, Bool.and_eq_true] at hk
      by_cases e : j = i
      · rw [e]; exact hk.1
      · exact ih (i + 1) (by omega) hk.2 j (by omega) h2
  intro i j hij hj h0 e
  have hc := hall l.length 0 (by omega) hok j (Nat.zero_le _) hj
  unfold okCell at hc
  rw [Bool.or_eq_true, Bool.and_eq_true] at hc
  rcases hc with hc | hc
  · rw [decide_eq_true_eq] at hc; omega
  · have h1 := hc.1
    rw [Bool.not_eq_true', decide_eq_false_iff_not] at h1
    apply h1
    rw [← e, getD_get (by omega : i < l.length)]
    exact List.mem_take_iff_getElem.mpr ⟨i, by omega, rfl⟩
end Go.Proofs.Ytlphlmbkfgdmgaa.G
namespace Go.Proofs.Ytlphlmbkfgdmgaa.G
open Go.RowKit Go.Lib Go.Proofs.YtlphlmbkfgdmgaaW.PrintWords Go.Proofs.YtlphlmbkfgdmgaaW.PrintLast Go.Proofs.YtlphlmbkfgdmgaaW.PrintMore
set_option linter.unusedVariables false
set_option linter.unusedSimpArgs false
def slices_Repeat_int_int.f (l0 : List Int) (a1 : Int) : Option (List Int) := if l0.length = 1 ∧ 0 ≤ a1 ∧ a1 ≤ 1000000 then some (List.replicate a1.toNat (rd l0 0)) else none
end Go.Proofs.Ytlphlmbkfgdmgaa.G
namespace TabT
/-- A place on a circle of n, from below 2 n. -/
def cy (n i : Nat) : Nat := if i < n then i else i - n
theorem cy_mod {n i : Nat} (h : i < 2 * n) : i % n = cy n i := by
  unfold cy
  split
  · exact Nat.mod_eq_of_lt ‹_›
  · rw [Nat.mod_eq_sub_mod (by omega), Nat.mod_eq_of_lt (by omega)]
theorem cy_lt {n i : Nat} (h : i < 2 * n) : cy n i < n := by unfold cy; split <;> omega
/-- Is the cell used? -/
def us (t : List Int) (i : Nat) : Bool := decide (0 ≤ t.getD i (-1))
theorem us_lt {t : List Int} {i : Nat} (h : us t i = true) : i < t.length := by
  rcases Nat.lt_or_ge i t.length with h1 | h1
  · exact h1
  · rw [us, List.getD_eq_getElem?_getD, List.getElem?_eq_none h1] at h; simp at h
theorem getD_set (t : List Int) (p i : Nat) (k d : Int) (hp : p < t.length) : (t.set p k).getD i d = if i = p then k else t.getD i d := by
  rw [List.getD_eq_getElem?_getD, List.getElem?_set, List.getD_eq_getElem?_getD]
  by_cases e : p = i
  · subst e; simp [hp]
  · simp [e, Ne.symm e]
theorem us_set (t : List Int) (p i : Nat) (k : Int) (hp : p < t.length) (hk : 0 ≤ k) : us (t.set p k) i = (decide (i = p) || us t i) := by
  unfold us
  rw [getD_set _ _ _ _ _ hp]
  by_cases e : i = p
  · simp [e, hk]
  · simp [e]
theorem us_clear (t : List Int) (p i : Nat) (hp : p < t.length) : us (t.set p (-1)) i = (!decide (i = p) && us t i) := by
  unfold us
  rw [getD_set _ _ _ _ _ hp]
  by_cases e : i = p
  · simp [e]
  · simp [e]
/-- The first free cell from a on: how far it is. -/
def ffFrom (t : List Int) (a : Nat) : Nat → Nat → Nat
  | 0, d => d
  | k + 1, d => if us t (cy t.length (a + d)) = true then ffFrom t a k (d + 1) else d
def ff (t : List Int) (a : Nat) : Nat := ffFrom t a t.length 0
theorem ffFrom_eq (t : List Int) (a : Nat) (e : Nat) (hf : us t (cy t.length (a + e)) = false) :
    ∀ (k d : Nat), d ≤ e → e < d + k → (∀ m, d ≤ m → m < e → us t (cy t.length (a + m)) = true) → ffFrom t a k d = e
  | 0, d, h1, h2, _ => by omega
  | k + 1, d, h1, h2, hu => by
    unfold ffFrom
    by_cases c : d = e
    · subst c; rw [hf]; simp
    · rw [if_pos (hu d (Nat.le_refl _) (by omega))]
      exact ffFrom_eq t a e hf k (d + 1) (by omega) (by omega) (fun m h3 h4 => hu m (by omega) h4)
theorem ff_eq {t : List Int} {a e : Nat} (he : e < t.length) (hf : us t (cy t.length (a + e)) = false) (hu : ∀ m, m < e → us t (cy t.length (a + m)) = true) : ff t a = e :=
  ffFrom_eq t a e hf _ 0 (Nat.zero_le _) (by omega) (fun m _ h => hu m h)
/-- A least number. -/
theorem least_nat {p : Nat → Prop} [DecidablePred p] : ∀ (N : Nat), p N → ∃ e, e ≤ N ∧ p e ∧ ∀ m, m < e → ¬ p m
  | 0, h => ⟨0, Nat.le_refl _, h, fun m hm => absurd hm (Nat.not_lt_zero _)⟩
  | N + 1, h => by
    by_cases hx : ∃ m, m ≤ N ∧ p m
    · obtain ⟨m, hm, hp⟩ := hx
      obtain ⟨e, he, hpe, hle⟩ := least_nat m hp
      exact ⟨e, by omega, hpe, hle⟩
    · exact ⟨N + 1, Nat.le_refl _, h, fun m hm hp => hx ⟨m, by omega, hp⟩⟩
/-- There is a free cell. -/
def Free (t : List Int) : Prop := ∃ i, i < t.length ∧ us t i = false
theorem ff_spec {t : List Int} (hF : Free t) {a : Nat} (ha : a < t.length) :
    ff t a < t.length ∧ us t (cy t.length (a + ff t a)) = false ∧ ∀ m, m < ff t a → us t (cy t.length (a + m)) = true := by
  obtain ⟨i, hi, hu⟩ := hF
  have hx : us t (cy t.length (a + cy t.length (i + t.length - a))) = false := by
    have : cy t.length (a + cy t.length (i + t.length - a)) = i := by unfold cy; split <;> split <;> omega
    rw [this]; exact hu
  obtain ⟨e, he, hpe, hle⟩ := least_nat (p := fun e => us t (cy t.length (a + e)) = false) _ hx
  have hlt : e < t.length := by have : cy t.length (i + t.length - a) < t.length := cy_lt (by omega); omega
  have := ff_eq hlt hpe (fun m hm => by simpa using hle m hm)
  rw [this]
  exact ⟨hlt, hpe, fun m hm => by simpa using hle m hm⟩
/-- A key's own cell. -/
def own (n : Nat) (k : Int) : Nat := (k % (n : Int)).toNat
theorem own_lt {n : Nat} (hn : 0 < n) (k : Int) : own n k < n := by
  unfold own
  have := Int.emod_lt_of_pos k (show (0 : Int) < n by omega)
  have := Int.emod_nonneg k (show (n : Int) ≠ 0 by omega)
  omega
/-- Where a key goes. -/
def pos (t : List Int) (k : Int) : Nat := cy t.length (own t.length k + ff t (own t.length k))
def ins (t : List Int) (k : Int) : List Int := t.set (pos t k) k
@[simp] theorem length_ins (t : List Int) (k : Int) : (ins t k).length = t.length := by simp [ins]
/-- What a key costs in a cell. -/
def cost (n i : Nat) (k : Int) : Nat := cy n (i + n - own n k)
end TabT
