/- The law FnExactBaseRegion: part 1 of the printed functions and the facts on them that its row leans on (merged by this session's slim.py). -/
import Derived.Test.YtaeepkgclaacjaaZFnExactBaseRegion0
namespace Go.Proofs.Ytaeepkgclaacjaa.G
open Go.RowKit Go.Proofs.YtaeepkgclaacjaaW.PrintWords Go.Proofs.YtaeepkgclaacjaaW.PrintLast Go.Proofs.YtaeepkgclaacjaaW.PrintMore
set_option linter.unusedVariables false
set_option linter.unusedSimpArgs false
set_option maxHeartbeats 2000000 in
set_option maxRecDepth 100000 in
theorem slices_Clone_int_int.calls (A0 : Option Addr) (c0 : Nat) (l0 : List Int) (r : List Int) (w : World) (hr0 : Kd.C (Kd.int .i64) w A0 l0.length l0) (hc0 : l0.length ≤ c0) (h : slices_Clone_int_int.f l0 = some r) :
    Calls Try.prog 49 #[.slice A0 l0.length c0] w fun e w' => ∃ v0_ : Value, e = .returned (v0_) ∧ Kd.R (Kd.int .i64) 3 w' w.heap.size (fun _ => True) v0_ r ∧ Below w.heap.size w w' := by
  unfold slices_Clone_int_int.f at h
  split at h
  · rename_i hlen
    obtain rfl := Option.some.inj h
    clear h
    cases A0 with
    | none =>
      have hl : l0 = [] := by
        cases l0 with
        | nil => rfl
        | cons x r => obtain ⟨ad, e, _⟩ := hr0.2.2 (by simp); cases e
      subst hl
      have q := eq_nil_run
      clear hr0
      go_enter Try.func49, Try.ntmps49
      go_wp2
      go_ret
      exact ⟨_, rfl, Kd.R_nil _ _ _ _ _, Below.refl _ _⟩
    | some ad =>
      have HN := Aside0.mk (nums_cells hr0)
      have q := eq_nil_run
      clear hr0
      obtain ⟨i0, hi, hzz⟩ := Option.map_eq_some_iff.1 gv_info3
      simp only [Prod.mk.injEq] at hzz
      obtain ⟨hz0, hz1, hz2⟩ := hzz
      go_enter Try.func49, Try.ntmps49
      go_wp2_with (at_builtin; refine wpList_append_own _ rfl _ _ 22 rfl w.heap.size 3 i0 (.int .i64 0) 1 8 Try.underlying22 hi hz0 hz1 hz2 rfl (by decide) _ _ _ rfl (World.ownsRow_made w #[] 0 (Nat.le_refl _) (Nat.zero_le _) (by simp)) ad l0.length c0 (nums .i64 l0) rfl ?qc1 ?qc2 ?qc3 ?qc4 ?qc5 ?qc6 ?_)
      case qc1 => simp [nums]
      case qc2 =>
        intro j u hj
        exact Lib.cell?_alloc_some _ (HN.out j u hj)
      case qc3 => intro u hu; simp only [nums, List.mem_map] at hu; obtain ⟨x, _, rfl⟩ := hu; rfl
      case qc4 => rw [Nat.zero_add]; simp only [maxLen]; omega
      case qc5 => rw [Nat.zero_add]; omega
      case qc6 => simp
      intro v' w1 hown hgrow hnil
      go_wp2
      go_ret
      have ho : w1.ownsRow w.heap.size 3 1 v' l0.length (nums .i64 l0) := by simpa using hown
      refine ⟨v', rfl, R_of_nums rfl ho (fun _ _ => trivial), ?_⟩
      exact ((Below.refl _ w).alloc (Nat.le_refl _) _).grown hgrow (by simp) (by intro k hk; simp [Value.ownBlock] at hk; omega)
  · cases h
def gtP (i x : Int) : Bool := decide (i < x)
def ltP (i x : Int) : Bool := decide (x < i)
def impl_labelAt.f (l0 : List Int) (a1 : Int) (a2 : Int) : Option Int := if 0 ≤ a1 ∧ a1 ≤ (l0.length : Int) ∧ l0.length ≤ 1000000 then some (((l0.countP (gtP a2) : Nat) : Int) + (((l0.take a1.toNat).countP (ltP a2) : Nat) : Int)) else none
set_option maxHeartbeats 2000000 in
theorem labelAt_pred1 (g1 : Nat) (i : Int) (w : World) (h1 : w.cell? ⟨g1, 0, none⟩ = some (.int .i64 i)) :
    PredB 69 #[.pointer (some ⟨g1, 0, none⟩)] (gtP i) w := by
  intro W x hb
  have k1 := pw_cell_below hb h1
  clear h1 hb
  simp only [List.append_toArray, List.cons_append, List.nil_append]
  cases c : decide (i < x) with
  | true =>
    go_enter Try.func69, Try.ntmps69
    go_wp2
    go_ret
    exact ⟨by simp [gtP, c], 0, rfl⟩
  | false =>
    go_enter Try.func69, Try.ntmps69
    go_wp2
    go_ret
    exact ⟨by simp [gtP, c], 0, rfl⟩
set_option maxHeartbeats 2000000 in
theorem labelAt_pred2 (g1 : Nat) (i : Int) (w : World) (h1 : w.cell? ⟨g1, 0, none⟩ = some (.int .i64 i)) :
    PredB 70 #[.pointer (some ⟨g1, 0, none⟩)] (ltP i) w := by
  intro W x hb
  have k1 := pw_cell_below hb h1
  clear h1 hb
  simp only [List.append_toArray, List.cons_append, List.nil_append]
  cases c : decide (x < i) with
  | true =>
    go_enter Try.func70, Try.ntmps70
    go_wp2
    go_ret
    exact ⟨by simp [ltP, c], 0, rfl⟩
  | false =>
    go_enter Try.func70, Try.ntmps70
    go_wp2
    go_ret
    exact ⟨by simp [ltP, c], 0, rfl⟩
set_option maxHeartbeats 8000000 in
set_option maxRecDepth 100000 in
theorem impl_labelAt.calls (A0 : Option Addr) (c0 : Nat) (l0 : List Int) (a1 : Int) (a2 : Int) (r : Int) (w : World) (hr0 : Kd.C (Kd.int .i64) w A0 l0.length l0) (hc0 : l0.length ≤ c0) (h : impl_labelAt.f l0 a1 a2 = some r) :
    Calls Try.prog 48 #[.slice A0 l0.length c0, .int .i64 a1, .int .i64 a2] w fun e w' => e = .returned (.int .i64 r) ∧ Below w.heap.size w w' := by
  unfold impl_labelAt.f at h
  split at h
  case isFalse => cases h
  rename_i hq
  obtain ⟨q1, q2, q3⟩ := hq
  have hb0 : a1.toNat ≤ l0.length := by omega
  obtain ⟨i0, hi0, hzz⟩ := Option.map_eq_some_iff.1 gv_info3
  simp only [Prod.mk.injEq] at hzz
  obtain ⟨hcut, hA, hC⟩ := print_take_of (P := Try.prog) (Value.int .i64) (0 : Int) 22 3 .i64 Try.underlying22 hi0 hzz.2.1 A0 c0 l0 a1 q1 q2 hc0
  have HR := Aside0.mk hr0
  have HT := Aside0.mk (Kd.C_take hr0 hb0)
  have HC := Aside0.mk hc0
  have HD := Aside0.mk hC
  obtain ⟨x, hx⟩ : ∃ x : Int, x = ((l0.countP (gtP a2) : Nat) : Int) := ⟨_, rfl⟩
  obtain ⟨y, hy⟩ : ∃ y : Int, y = (((l0.take a1.toNat).countP (ltP a2) : Nat) : Int) := ⟨_, rfl⟩
  have HXL := Aside0.mk (show 0 ≤ x ∧ x ≤ 1000000 ∧ 0 ≤ y ∧ y ≤ 1000000 by
    have h1 := List.countP_le_length (p := gtP a2) (l := l0)
    have h2 := List.countP_le_length (p := ltP a2) (l := l0.take a1.toNat)
    rw [List.length_take] at h2
    omega)
  rw [← hx, ← hy] at h
  have HRES := Aside0.mk (Option.some.inj h).symm
  obtain ⟨W0, hW0⟩ : ∃ W0, W0 = w.alloc (.cells #[.int .i64 a2] 3) := ⟨_, rfl⟩
  have hcell : ∀ q : Nat, (W0.drewN q).cell? ⟨w.heap.size, 0, none⟩ = some (.int .i64 a2) := fun q => by rw [hW0]; simp [go_sem]
  have C1 := Aside0.mk (show ∀ q : Nat, Calls Try.prog 68 #[.slice A0 l0.length c0, .func (.func 69) #[] #[.pointer (some ⟨w.heap.size, 0, none⟩)]] (W0.drewN q) fun e w' => e = .returned (.int .i64 x) ∧ ∃ m, w' = (W0.drewN q).drewN m from fun q => by
    rw [hx]
    exact impl_countIf.callsP A0 c0 l0 69 #[.pointer (some ⟨w.heap.size, 0, none⟩)] (gtP a2) _ (enters_of Try.func69 (by kernel_rfl) rfl) (labelAt_pred1 _ a2 _ (hcell q)) (Kd.C_drewN (by rw [hW0]; exact Kd.C_alloc HR.out _) _) HC.out)
  have C2 := Aside0.mk (show ∀ q : Nat, Calls Try.prog 68 #[.slice A0 (l0.take a1.toNat).length c0, .func (.func 70) #[] #[.pointer (some ⟨w.heap.size, 0, none⟩)]] (W0.drewN q) fun e w' => e = .returned (.int .i64 y) ∧ ∃ m, w' = (W0.drewN q).drewN m from fun q => by
    rw [hy]
    exact impl_countIf.callsP A0 c0 (l0.take a1.toNat) 70 #[.pointer (some ⟨w.heap.size, 0, none⟩)] (ltP a2) _ (enters_of Try.func70 (by kernel_rfl) rfl) (labelAt_pred2 _ a2 _ (hcell q)) (Kd.C_drewN (by rw [hW0]; exact Kd.C_alloc HT.out _) _) HD.out)
  obtain ⟨m, hm⟩ : ∃ m : Nat, m = (l0.take a1.toNat).length := ⟨_, rfl⟩
  rw [← hm] at C2 hcut
  subst hW0
  clear hr0 h hA hC hzz hi0 hb0 hc0 q1 q2 q3 hx hy hcell HT HR HC HD hm
  go_enter Try.func48, Try.ntmps48
  go_wp2
  refine wp_region_quiet_lit (by kernel_rfl) (by kernel_rfl) ?_
  refine wpQuiet_step (fun K hK => ?_)
  go_simp
  refine hK _ ?_
  clear hK K
  refine wpQuiet_step (fun K hK => ?_)
  go_simp
  refine hK _ ?_
  clear hK K
  refine wpQuiet_step (fun K hK => ?_)
  go_simp
  apply Exists.intro
  refine ⟨fun _ => ?_, hK _ ?_⟩
  · go_at_call 68
    exact Calls.quiet_of (C1.out _)
  clear hK K
  refine wpQuiet_step (fun K hK => ?_)
  go_simp
  refine hK _ ?_
  clear hK K
  refine wpQuiet_step (fun K hK => ?_)
  go_simp
  refine hK _ ?_
  clear hK K
  refine BigFrame.wpQuiet_want (by rfl) (fun K hK => ?_)
  refine ⟨.slice A0 m c0, fun w' hw' => ?_, hK _ ?_⟩
  · unfold Oper.quietAt
    have e : ∀ o : Result Next, o = ((Sem.run Try.prog (Instr.slice 22 (.slice A0 l0.length c0) none (some (.int .i64 a1)) none) w').andThen fun a w' => Result.ok (Next.value a) w') → Oper.quietUpon Try.prog (fun w' => ∃ n, w' = (w.alloc (Obj.cells #[Value.int IntKind.i64 a2] 3)).drewN n) w' (.slice A0 m c0) o := fun o ho => by
      rw [ho, hcut w']
      exact ⟨rfl, rfl⟩
    refine e _ ?_
    unfold execOp
    first | rfl | (go_simp; first | done | rfl)
  clear hK K hcut
  refine wpQuiet_step (fun K hK => ?_)
  go_simp
  refine hK _ ?_
  clear hK K
  refine wpQuiet_step (fun K hK => ?_)
  go_simp
  apply Exists.intro
  refine ⟨fun _ => ?_, hK _ ?_⟩
  · go_at_call 68
    exact Calls.quiet_of (C2.out _)
  clear hK K
  refine wpQuiet_step (fun K hK => ?_)
  go_simp
  refine hK _ ?_
  clear hK K
  refine wpQuiet_step (fun K hK => ?_)
  go_simp
  refine hK _ ?_
  clear hK K
  refine wpQuiet_nil ?_
  intro _ hw'
  obtain ⟨nq, hw''⟩ := hw'
  subst hw''
  go_wp2
  go_ret
  refine ⟨?_, pw_below_drewN (below_alloc (Below.refl _ _) _) _⟩
  rw [HRES.out]
  have hx := HXL.out
  have hw : IntKind.i64.wrap (x + y) = x + y := by rw [IntKind.wrap_i64]; omega
  show Ending.returned (Value.int IntKind.i64 (IntKind.i64.wrap (x + y))) = _
  rw [hw]
end Go.Proofs.Ytaeepkgclaacjaa.G
namespace Go.Proofs.Ytaeepkgclaacjaa.G
open Go.RowKit Go.Proofs.YtaeepkgclaacjaaW.PrintWords Go.Proofs.YtaeepkgclaacjaaW.PrintLast Go.Proofs.YtaeepkgclaacjaaW.PrintMore
attribute [local go_sem] max2_int min2_int max_two min_two max_three min_three max_four min_four   -- for this text's walks alone
set_option linter.unusedVariables false
set_option linter.unusedSimpArgs false

theorem ev_tmp2 {a : Act} {n : Nat} {v : Value} (h : a.tmps[n]? = some v) : a.eval (.tmp n) = v := by simp [Act.eval, h]
end Go.Proofs.Ytaeepkgclaacjaa.G
