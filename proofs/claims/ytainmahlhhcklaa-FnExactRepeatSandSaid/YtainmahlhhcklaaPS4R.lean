/- Pure facts on printed functions: sand at rest. -/
import Derived.Test.YtainmahlhhcklaaGx26
import Derived.Test.YtainmahlhhcklaaPS4
namespace Go.Proofs.Ytainmahlhhcklaa.G
open Go.RowKit Go.Proofs.YtainmahlhhcklaaW.PrintWords Go.Proofs.YtainmahlhhcklaaW.PrintLast Go.Proofs.YtainmahlhhcklaaW.PrintMore
set_option linter.unusedVariables false
set_option linter.unusedSimpArgs false

/-! ### Sand at rest -/
def twice (n : Nat) : List Int := List.replicate n (2 * ((n : Int) - 1))
theorem twice_len (n : Nat) : (twice n).length = n := by simp [twice]
theorem twice_mild {n : Nat} (hn : n ≤ 8) : Mild (twice n) := by
  refine mild_of (by rw [twice_len]; omega) fun j => ?_
  cases n with
  | zero => simp [twice]
  | succ n => have := get_repl_range (n + 1) (2 * (((n + 1 : Nat) : Int) - 1)) (by omega) j; unfold twice; omega
theorem stab_get {c : List Int} (h : SandT.Nonneg c) (j : Nat) : 0 ≤ (SandT.stab c).1.getD j 0 ∧ (SandT.stab c).1.getD j 0 ≤ c.length := by
  refine ⟨SandT.nn_stab h j, ?_⟩
  rcases Nat.lt_or_ge j c.length with hj | hj
  · have := SandT.stab_stable h j (by simpa using hj)
    simp only [SandT.length_stab] at this
    omega
  · rw [List.getD_eq_getElem?_getD, List.getElem?_eq_none (by simpa using hj)]; simp
theorem stab_get' {c : List Int} (h : SandT.Nonneg c) {j : Nat} (hj : j < c.length) : (SandT.stab c).1.getD j 0 ≤ (c.length : Int) - 1 := by
  have := SandT.stab_stable h j (by simpa using hj)
  simp only [SandT.length_stab] at this
  omega
def lessL (a b : List Int) : List Int := a.mapIdx fun i x => x - b.getD i 0
theorem lessL_len (a b : List Int) : (lessL a b).length = a.length := by simp [lessL]
theorem lessL_get (a b : List Int) {j : Nat} (hj : j < a.length) : (lessL a b).getD j 0 = a.getD j 0 - b.getD j 0 := by
  simp [lessL, List.getD_eq_getElem?_getD, List.getElem?_mapIdx, List.getElem?_eq_getElem hj]
def restM (n : Nat) : List Int := lessL (twice n) (SandT.stab (twice n)).1
theorem restM_len (n : Nat) : (restM n).length = n := by simp [restM, lessL_len, twice_len]
theorem restM_mild {n : Nat} (hn : n ≤ 8) : Mild (restM n) := by
  refine mild_of (by rw [restM_len]; omega) fun j => ?_
  rcases Nat.lt_or_ge j n with hj | hj
  · unfold restM
    rw [lessL_get _ _ (by rw [twice_len]; exact hj)]
    have h1 := stab_get (twice_mild hn).nn j
    have h2 := stab_get' (twice_mild hn).nn (j := j) (by rw [twice_len]; exact hj)
    rw [twice_len] at h1 h2
    unfold twice at *
    rw [get_repl n _ hj]
    omega
  · rw [List.getD_eq_getElem?_getD, List.getElem?_eq_none (by rw [restM_len]; exact hj)]; simp
def restL (n : Nat) : List Int := (SandT.stab (restM n)).1
theorem restL_len (n : Nat) : (restL n).length = n := by simp [restL, restM_len]
theorem top_twice (n : Nat) : SandT.plus (List.replicate n ((n : Int) - 1)) (List.replicate n ((n : Int) - 1)) = twice n := by
  apply SandT.ext_getD
  · simp [twice]
  · intro j hj
    have hj' : j < n := by simpa using hj
    rw [SandT.get_plus _ _ _ (by simpa using hj'), get_repl n _ hj', twice, get_repl n _ hj']
    omega
theorem turned_zero (n : Nat) : turned (List.replicate n 0) = List.replicate n ((n : Int) - 1) := by simp [turned]
theorem spec_rest_l0 {n : Nat} (hn : n ≤ 8) : Ev (fun k => spec_reRest.l0 k (SandT.stab (twice n)).1 [] (twice n) ((twice n).length : Int) 0) (restL n) := by
  have hs : (SandT.stab (twice n)).1.length = n := by simp [twice_len]
  have := Ev.up0 n (fun q => (restM n).take q) (fun k s q => spec_reRest.l0 k (SandT.stab (twice n)).1 s (twice n) ((twice n).length : Int) q) (restL n) (fun q hq h' => Ev.one h' fun k => ?_) ?_
  · exact this
  · have hlt : ((restM n).take q).length < 17592186044416 := by rw [List.length_take]; omega
    have hg : (restM n).getD q 0 = (twice n).getD q 0 - (SandT.stab (twice n)).1.getD q 0 := lessL_get _ _ (by rw [twice_len]; exact hq)
    have := (twice_mild hn).get q
    have := (stab_mild (twice_mild hn)).get q
    rw [spec_reRest.l0, if_pos (by rw [twice_len]; omega), if_pos (by omega), if_pos (by rw [twice_len]; omega), if_pos (by rw [hs]; omega), if_pos hlt, rd_nat, rd_nat, wrap_id (x := (twice n).getD q 0 - (SandT.stab (twice n)).1.getD q 0) (by omega) (by omega), take_snoc (by rw [restM_len]; exact hq) hg, wrap_next (n := n) hq (by omega)]
  · rw [List.take_of_length_le (by rw [restM_len]; exact Nat.le_refl _)]
    refine Ev.step (f := fun k => (spec_reSettle.f k (restM n)).bind fun bt => some bt.1) (fun k => by rw [spec_reRest.l0, if_neg (by rw [twice_len]; omega)]) ?_
    refine Ev.bind (reSettle_ev (restM_mild hn)) ?_
    exact Ev.now _
theorem spec_reRest_ev {n : Nat} (hn : n ≤ 8) : Ev (fun k => spec_reRest.f k (n : Int)) (restL n) := by
  unfold spec_reRest.f
  simp only [show (0 : Int) ≤ (n : Int) by omega, Int.toNat_natCast, show n ≤ 35184372088832 by omega, if_true]
  refine Ev.bind (reTurned_ev _ (by simp; omega) (fun j => by have := get_repl_range n 0 (by omega) j; omega)) ?_
  rw [turned_zero]
  have hr : ∀ j, -1000000 ≤ (List.replicate n ((n : Int) - 1)).getD j 0 ∧ (List.replicate n ((n : Int) - 1)).getD j 0 ≤ 1000000 := by
    intro j
    cases n with
    | zero => simp
    | succ n => have := get_repl_range (n + 1) (((n + 1 : Nat) : Int) - 1) (by omega) j; omega
  refine Ev.bind (rePlus_ev rfl (by simp; omega) hr hr) ?_
  rw [top_twice]
  refine Ev.bind (reSettle_ev (twice_mild hn)) ?_
  exact spec_rest_l0 hn
theorem impl_rest_ev {n : Nat} (hn : n ≤ 8) : Ev (fun k => impl_rest.f k (n : Int)) (restL n) := by
  unfold impl_rest.f
  have e1 : wrap64 (2 * wrap64 ((n : Int) - 1)) = 2 * ((n : Int) - 1) := by rw [wrap_id (x := (n : Int) - 1) (by omega) (by omega), wrap_id (by omega) (by omega)]
  rw [e1]
  simp only [Repeat_eq _ n (by omega), Option.bind_some]
  show Ev (fun k => (impl_settle.f (twice n)).bind fun bt => impl_rest.l0 k (twice n) bt.1 (bt.1.length : Int) 0) (restL n)
  simp only [settle_eq (twice_mild hn), Option.bind_some]
  have hs : (SandT.stab (twice n)).1.length = n := by simp [twice_len]
  have hR : (restM n).length = (twice n).length := by rw [restM_len, twice_len]
  have := Ev.up0 n (fun q => mixed (restM n) (twice n) q) (fun k s q => impl_rest.l0 k s (SandT.stab (twice n)).1 ((SandT.stab (twice n)).1.length : Int) q) (restL n) (fun q hq h' => Ev.one h' fun k => ?_) ?_
  · simpa [mixed_zero] using this
  · have hq' : q < (twice n).length := by rw [twice_len]; exact hq
    have hg : (restM n).getD q 0 = (twice n).getD q 0 - (SandT.stab (twice n)).1.getD q 0 := lessL_get _ _ (by rw [twice_len]; exact hq)
    have := (twice_mild hn).get q
    have := (stab_mild (twice_mild hn)).get q
    rw [impl_rest.l0, if_pos (by rw [hs]; omega), if_pos (by omega), if_pos (by rw [hs]; omega), if_pos (by rw [length_mixed hR, twice_len]; omega), rd_nat, rd_nat, getD_mixed hR hq', Int.toNat_natCast, wrap_id (x := (twice n).getD q 0 - (SandT.stab (twice n)).1.getD q 0) (by omega) (by omega), set_mixed hR hq' hg, wrap_next (n := n) hq (by omega)]
  · have e2 : mixed (restM n) (twice n) n = restM n := by have := mixed_full hR; rw [twice_len] at this; exact this
    rw [e2]
    refine Ev.step (f := fun k => (impl_settle.f (restM n)).bind fun bt => some bt.1) (fun k => by rw [impl_rest.l0, if_neg (by rw [hs]; omega)]) ?_
    simp only [settle_eq (restM_mild hn), Option.bind_some]
    exact Ev.now _
def restV (a : Int) : List Int × Bool := if 0 ≤ a ∧ a ≤ 8 then (restL a.toNat, true) else ([], false)
theorem spec_RestSand_ev (a : Int) : Ev (fun k => spec_RestSand.f k a) (restV a) := by
  unfold spec_RestSand.f restV
  simp only [l1In_eq, Option.bind_some]
  by_cases h : 0 ≤ a ∧ a ≤ 8
  · obtain ⟨n, rfl⟩ : ∃ n : Nat, a = n := ⟨a.toNat, by omega⟩
    simp only [h, and_self, decide_true, if_true, Int.toNat_natCast]
    refine Ev.bind (spec_reRest_ev (by omega)) ?_
    exact Ev.now _
  · simp only [h, decide_false, Bool.false_eq_true, if_false]
    exact Ev.now _
theorem impl_RestSand_ev (a : Int) : Ev (fun k => impl_RestSand.f k a) (restV a) := by
  unfold impl_RestSand.f restV impl_isCars.f
  simp only [between_eq, Option.bind_some]
  by_cases h : 0 ≤ a ∧ a ≤ 8
  · obtain ⟨n, rfl⟩ : ∃ n : Nat, a = n := ⟨a.toNat, by omega⟩
    simp only [h, and_self, decide_true, if_true, Int.toNat_natCast]
    refine Ev.bind (impl_rest_ev (by omega)) ?_
    exact Ev.now _
  · simp only [h, decide_false, Bool.false_eq_true, if_false]
    exact Ev.now _
theorem restV_len (a : Int) : (restV a).1.length ≤ 8 := by
  unfold restV
  split
  · rw [restL_len]; omega
  · simp


end Go.Proofs.Ytainmahlhhcklaa.G
