/- The contract of impl.settle: topple the first place that can, until none can. -/
import Derived.Test.YtainmahlhhcklaaGx8
import Derived.Test.YtainmahlhhcklaaGvA
namespace Go.Proofs.Ytainmahlhhcklaa.G
open Go.RowKit Go.Proofs.YtainmahlhhcklaaW.PrintWords Go.Proofs.YtainmahlhhcklaaW.PrintLast Go.Proofs.YtainmahlhhcklaaW.PrintMore
set_option linter.unusedVariables false
set_option linter.unusedSimpArgs false

/-- The first place that holds as much as there are places. -/
def firstUp (c : List Int) : Int := idxF (fun x => decide ((c.length : Int) ≤ x)) c 0
def impl_settle.go : Nat → List Int → List Int → Option (List Int × List Int)
  | 0, _, _ => none
  | k + 1, c, out => if firstUp c < 0 then some (c, out) else (impl_topple.f 2000 c (firstUp c)).bind fun c' => if out.length < 17592186044416 then impl_settle.go k c' (out ++ [firstUp c]) else none
def impl_settle.f (l0 : List Int) : Option (List Int × List Int) := if l0.length ≤ 17592186044415 then impl_settle.go 1000002 l0 [] else none
theorem impl_settle.way {l0 : List Int} {r : List Int × List Int} (h : impl_settle.f l0 = some r) : l0.length ≤ 17592186044415 ∧ ∃ k, impl_settle.go k l0 [] = some r := by
  unfold impl_settle.f at h
  split at h
  · rename_i hx
    exact ⟨hx, _, h⟩
  · cases h

theorem settle_pred (g1 : Nat) (A0 : Option Addr) (n c0 : Nat) (w : World) (h1 : w.cell? ⟨g1, 0, none⟩ = some (.slice A0 n c0)) :
    PredB 137 #[.pointer (some ⟨g1, 0, none⟩)] (fun x => decide ((n : Int) ≤ x)) w := by
  intro W x hb
  have k1 := pw_cell_below hb h1
  clear h1 hb
  simp only [List.append_toArray, List.cons_append, List.nil_append]
  go_enter Try.func137, Try.ntmps137
  go_wp2
  go_ret
  exact ⟨by first | rfl | (simp; done), 0, rfl⟩

theorem slices_IndexFunc.callsN (A : Option Addr) (c n : Nat) (l : List Int) (g : Nat) (lb : Array Value) (p : Int → Bool) (w : World) (i : Int)
    (eg : ∀ args w, (callFunc g args).run Try.prog w = .ok (.enter g args) w)
    (hn : n = l.length) (hi : idxF p l 0 = i) (hp0 : PredB g lb p w) (hr : Kd.C (Kd.int .i64) w A l.length l) (hc : l.length ≤ c) :
    Calls Try.prog 136 #[.slice A n c, .func (.func g) #[] lb] w fun e w' => e = .returned (.int .i64 i) ∧ ∃ q, w' = w.drewN q := by
  subst hn
  subst hi
  exact slices_IndexFunc.callsP A c l g lb p w eg hp0 hr hc

theorem cell_grown {W w1 : World} {g : Nat} {v u : Value} (hc : W.cell? ⟨g, 0, none⟩ = some u) (hg : W.grownBy w1 v.ownBlock) (hne : ∀ k, v.ownBlock = some k → k ≠ g) : w1.cell? ⟨g, 0, none⟩ = some u := by
  have := hg.block g (World.block_lt_of_cell? W _ hc) (fun e => hne g e.symm rfl)
  simpa [World.cell?, this] using hc

set_option maxHeartbeats 8000000 in
set_option maxRecDepth 100000 in
theorem impl_settle.calls (A0 : Option Addr) (c0 : Nat) (l0 : List Int) (r1 : List Int) (r2 : List Int) (w : World) (hr0 : Kd.C (Kd.int .i64) w A0 l0.length l0) (hc0 : l0.length ≤ c0) (h : impl_settle.f l0 = some (r1, r2)) :
    Calls Try.prog 100 #[.slice A0 l0.length c0] w fun e w' => ∃ v0_ v1_ : Value, e = .returned (.tuple #[v0_, v1_]) ∧ Kd.R (Kd.int .i64) 3 w' w.heap.size (fun k_ => some k_ ≠ (v1_ : Value).ownBlock) v0_ r1 ∧ Kd.R (Kd.int .i64) 3 w' w.heap.size (fun k_ => some k_ ≠ (v0_ : Value).ownBlock) v1_ r2 ∧ Below w.heap.size w w' := by
  obtain ⟨hlen, k, H⟩ := impl_settle.way h
  clear h
  have hcl : slices_Clone_int_int.f l0 = some l0 := by unfold slices_Clone_int_int.f; rw [if_pos hlen]
  have HL := Aside0.mk hcl
  have H' := Aside0.mk H
  have HR0 := Aside0.mk hr0
  have HC0 := Aside0.mk hc0
  have HB := Aside0.mk (Below.refl w.heap.size w)
  clear hr0 hc0 H hcl hlen
  go_enter Try.func100, Try.ntmps100
  go_wp2_with (go_at_call 90; refine (slices_Clone_int_int.calls _ _ l0 l0 _ HR0.out HC0.out HL.out).mono ?_; rintro e w4 ⟨v8, rfl, ho0, hb⟩; have HO4 := Aside0.mk (Kd.R_lower (Kd.R_mono (ok' := fun k_ => k_ < w4.heap.size) (Kd.R_bound ho0) (fun k_ hk => hk.2.2.1)) (below_size HB.out)); have n1_ := Aside0.mk (below_step HB.out hb); clear HB; have HB := n1_; clear n1_; clear hb ho0; obtain ⟨Ao, co, eo⟩ := Kd.R_slice HO4.out; subst eo)
  have HV := Aside0.mk (show ∀ k_, (.slice Ao l0.length co : Value).ownBlock = some k_ → k_ < w4.heap.size from fun k_ hk => HO4.out.1 k_ hk)
  generalize hG : w4.heap.size + 1 = G
  generalize hv : (.slice Ao l0.length co : Value) = v
  go_loopg [5] k (fun kq v5 w' => ∃ (c out : List Int), Aside0 (impl_settle.go kq c out = some (r1, r2)) ∧ Aside0 (kq ≤ k) ∧ Aside0 (w'.cell? ⟨G, 0, none⟩ = some v) ∧ Aside0 (Kd.R (Kd.int .i64) 3 w' w.heap.size (fun k_ => k_ ≠ G ∧ some k_ ≠ (v5 : Value).ownBlock) v c) ∧ Aside0 (Kd.R (Kd.int .i64) 3 w' w.heap.size (fun k_ => k_ ≠ G ∧ some k_ ≠ (v : Value).ownBlock) v5 out) ∧ Aside0 (Below w.heap.size w w'))
  case atStart =>
    subst hv
    subst hG
    refine ⟨l0, [], H', ⟨Nat.le_refl _⟩, ⟨?_⟩, ⟨?_⟩, ⟨?_⟩, ⟨below_alloc (below_alloc HB.out _) _⟩⟩
    · simp [go_sem]
    · refine Kd.R_mono (Kd.R_alloc (Kd.R_alloc HO4.out _) _) (fun k_ hk => ⟨by omega, fun e => ?_⟩)
      simp only [Value.ownBlock, Option.some.injEq] at e
      omega
    · have ho : ((w4.alloc (.cells #[] 3)).alloc (.cells #[.slice Ao l0.length co] 22)).ownsRow w.heap.size 3 1 (.slice (some ⟨w4.heap.size, 0, none⟩) 0 0) 0 (nums .i64 []) := own_alloc (World.ownsRow_made w4 #[] 0 (below_size HB.out) (Nat.zero_le _) (by simp)) _
      refine R_of_nums rfl ho (fun k_ hk => ?_)
      simp only [Value.ownBlock, Option.some.injEq] at hk
      subst hk
      exact ⟨by omega, fun e => Nat.lt_irrefl _ (HV.out _ e.symm)⟩
  case round =>
    clear H'
    obtain ⟨c, out, HA, HK1, HC, HO_4, HO_5, HB⟩ := hrel
    cases gk with
    | zero => exact absurd HA.out (by simp [impl_settle.go])
    | succ k1 =>
      have H := HA.out
      clear HA
      simp only [impl_settle.go] at H
      obtain rfl := hv
      have hcl : l0.length = c.length := (Kd.R_reads' HO_4.out).1
      have HCL := Aside0.mk hcl
      obtain ⟨i, hi⟩ : ∃ i, firstUp c = i := ⟨_, rfl⟩
      rw [hi] at H
      have hix : idxF (fun x => decide ((l0.length : Int) ≤ x)) c 0 = i := by rw [hcl]; exact hi
      have HX := Aside0.mk hix
      have HCC := HC.out
      clear hix hi hcl
      by_cases c6 : i < 0
      · rw [if_pos c6] at H
        have c6b0 : decide (i < 0) = true := decide_eq_true c6
        clear c6
        simp only [Option.some.injEq, Prod.mk.injEq] at H
        obtain ⟨rfl, rfl⟩ := H
        go_wp2_with (go_at_call 136; refine (slices_IndexFunc.callsN _ _ _ c _ _ _ _ i (enters_of Try.func137 (by kernel_rfl) rfl) HCL.out HX.out (settle_pred G Ao l0.length co wr HC.out) ?side1 ?side2).mono ?_; (case side1 => exact (Kd.R_reads' HO_4.out).2.2); (case side2 => rw [← HCL.out]; exact (Kd.R_reads' HO_4.out).2.1); rintro e w' ⟨rfl, q, rfl⟩; have n0_ := Aside0.mk (Kd.R_drewN HO_4.out q); have n1_ := Aside0.mk (Kd.R_drewN HO_5.out q); have n2_ := Aside0.mk (pw_below_drewN HB.out q); have n3_ := Aside0.mk (pw_cell_below (drew_below _ q) HC.out); clear HO_4 HO_5 HB HC HCC; have HO_4 := n0_; have HO_5 := n1_; have HB := n2_; have HC := n3_; have HCC := HC.out; clear n0_ n1_ n2_ n3_)
        go_ret2
        exact ⟨_, _, rfl, Kd.R_mono HO_4.out (fun _ hk => hk.2), Kd.R_mono HO_5.out (fun _ hk => hk.2), HB.out⟩
      · rw [if_neg c6] at H
        have c6b0 : decide (i < 0) = false := decide_eq_false c6
        clear c6
        replace H := Option.bind_eq_some_iff.mp H
        obtain ⟨c', A70, H⟩ := H
        replace H : (if out.length < 17592186044416 then impl_settle.go k1 c' (out ++ [i]) else none) = some (r1, r2) := H
        have A7 := Aside0.mk A70
        clear A70
        by_cases c8 : out.length < 17592186044416
        · rw [if_pos c8] at H
          have LM := Aside0.mk c8
          clear c8
          have H' := Aside0.mk H
          clear H
          go_wp2_with (first | (go_at_call 136; refine (slices_IndexFunc.callsN _ _ _ c _ _ _ _ i (enters_of Try.func137 (by kernel_rfl) rfl) HCL.out HX.out (settle_pred G Ao l0.length co wr HC.out) ?side1 ?side2).mono ?_; (case side1 => exact (Kd.R_reads' HO_4.out).2.2); (case side2 => rw [← HCL.out]; exact (Kd.R_reads' HO_4.out).2.1); rintro e w' ⟨rfl, q, rfl⟩; have n0_ := Aside0.mk (Kd.R_drewN HO_4.out q); have n1_ := Aside0.mk (Kd.R_drewN HO_5.out q); have n2_ := Aside0.mk (pw_below_drewN HB.out q); have n3_ := Aside0.mk (pw_cell_below (drew_below _ q) HC.out); clear HO_4 HO_5 HB HC HCC; have HO_4 := n0_; have HO_5 := n1_; have HB := n2_; have HC := n3_; have HCC := HC.out; clear n0_ n1_ n2_ n3_) | ((with_reducible refine gate_callee (f := 91) rfl ?_); refine goesL_ (some 19) rfl rfl Try.func91 (by kernel_rfl) rfl #[.slice Ao l0.length co, .int .i64 i] rfl (by (try simp only [List.map_toArray, List.map_cons, List.map_nil]); first | done | rfl) ?_; (with_reducible refine (impl_topple.calls 2000 (fun k_ => some k_ = (.slice Ao l0.length co : Value).ownBlock) (.slice Ao l0.length co) c i c' w _ ?side1 ?side2 A7.out).mono ?_); (case side1 => exact HB.out); (case side2 => exact Kd.R_tight rfl HO_4.out); rintro e w20 ⟨rfl, hy0, hb, hkp⟩; refine ⟨_, rfl, ?_⟩; have n0_ := Aside0.mk (Kd.R_reok rfl hy0 (fun k_ e_ => HO_4.out.1 k_ e_)); have n1_ := Aside0.mk (Kd.R_kept HO_5.out hkp (fun k_ hk => hk.2)); have n2_ := Aside0.mk hb; have n3_ := Aside0.mk (cell_kept HC.out hkp (fun e_ => (HO_4.out.1 _ e_.symm).1 rfl)); clear HO_4 HO_5 HB HC HCC; have HO_4 := n0_; have HO_5 := n1_; have HB := n2_; have HC := n3_; have HCC := HC.out; clear n0_ n1_ n2_ n3_ hy0 hb hkp) | ((with_reducible refine gate_builtin (b := .append) (xs := #[.tmp 20, .tmp 22]) rfl ?_); at_builtin; refine Kd.R_append (Kd.int .i64) (w0 := w) w.heap.size rfl (.tmp 20) (.tmp 22) 22 3 (.int .i64 0) 8 rfl Try.underlying22 gv_info3 rfl (by decide) (by omega) u5 out i [.int .i64 i] (fun k_ => k_ ≠ G ∧ some k_ ≠ (.slice Ao l0.length co : Value).ownBlock) (fun _ => False) rfl rfl ?aP (fun _ hk => hk.elim) ?aF ?aO ?aB ?aS ?aL ?_; (case aP => exact rfl); (case aB => exact (by repeat (first | (with_reducible first | exact HB.out | apply below_alloc | apply pw_below_drewN | apply below_drew1) | exact HB.out))); (case aF => exact (fun k_ hk => ⟨Nat.ne_of_gt (Nat.lt_of_lt_of_le (Nat.lt_of_lt_of_le (World.block_lt_of_cell? _ _ HC.out) (by simp)) hk), Kd.fresh' (Kd.R_lt (by (with_reducible repeat (first | apply Kd.R_alloc | apply Kd.R_drewN | apply Kd.R_drew)); exact HO_4.out)) k_ hk⟩)); (case aO => exact (by (with_reducible repeat (first | apply Kd.R_alloc | apply Kd.R_drewN | apply Kd.R_drew)); exact HO_5.out)); (case aS => exact (below_size (by repeat (first | (with_reducible first | exact HB.out | apply below_alloc | apply pw_below_drewN | apply below_drew1) | exact HB.out)))); (case aL => have := LM.out; omega); intro v477 w12 ho hb hg hat; have n0_ := Aside0.mk (Kd.R_after (ok := (fun k_ => k_ ≠ G)) (by (with_reducible repeat (first | apply Kd.R_alloc | apply Kd.R_drewN | apply Kd.R_drew)); exact HO_4.out) hg hat); have n1_ := Aside0.mk (cell_grown (by first | exact HC.out | (simpa [go_sem] using HC.out)) hg (fun k_ e_ => (HO_5.out.1 k_ e_).1)); have n2_ := Aside0.mk hb; have n3_ := Aside0.mk ho; clear HO_4 HO_5 HB HC HCC; have HO_4 := n0_; have HC := n1_; have HB := n2_; have HO_5 := n3_; have HCC := HC.out; clear n0_ n1_ n2_ n3_; clear ho hb hg hat))
          go_roundg k1
          case measure => have := HK1.out; omega
          case rel => exact ⟨c', out ++ [i], H', ⟨by have := HK1.out; omega⟩, HC, HO_4, HO_5, HB⟩
        · rw [if_neg c8] at H
          exact absurd H (by simp)

end Go.Proofs.Ytainmahlhhcklaa.G
