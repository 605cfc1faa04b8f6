/- Pure facts on printed functions: recurrent sand. -/
import Derived.Test.YtainmahlhhcklaaGx32
import Derived.Test.YtainmahlhhcklaaGx33
import Derived.Test.YtainmahlhhcklaaPS4
namespace Go.Proofs.Ytainmahlhhcklaa.G
open Go.RowKit Go.Proofs.YtainmahlhhcklaaW.PrintWords Go.Proofs.YtainmahlhhcklaaW.PrintLast Go.Proofs.YtainmahlhhcklaaW.PrintMore
set_option linter.unusedVariables false
set_option linter.unusedSimpArgs false

theorem spec_l1Same_l0 (a b : List Int) (hl : a.length = b.length) (hn : a.length ≤ 4611686018427387904) : ∀ (d i : Nat), i + d = a.length → Ev (fun k => spec_l1Same.l0 k a b (a.length : Int) i) (decide (a.drop i = b.drop i)) := by
  intro d
  induction d with
  | zero =>
    intro i hd
    refine Ev.end_ fun k => ?_
    rw [spec_l1Same.l0, if_neg (by omega), List.drop_eq_nil_of_le (by omega), List.drop_eq_nil_of_le (by omega)]
    simp
  | succ d ih =>
    intro i hd
    have e1 := drop_getD (l := a) (i := i) (by omega)
    have e2 := drop_getD (l := b) (i := i) (by omega)
    by_cases h : a.getD i 0 = b.getD i 0
    · refine Ev.one (f := fun k => spec_l1Same.l0 k a b (a.length : Int) ((i + 1 : Nat) : Int)) ?_ fun k => ?_
      · have := ih (i + 1) (by omega)
        have e : decide (a.drop i = b.drop i) = decide (a.drop (i + 1) = b.drop (i + 1)) := by rw [e1, e2, h]; simp
        rw [e]; exact this
      · rw [spec_l1Same.l0, if_pos (by omega), if_pos (by omega), if_pos (by omega), if_pos (by omega), rd_nat, rd_nat, if_pos h, wrap_next (n := a.length) (by omega) hn]
    · refine Ev.end_ fun k => ?_
      rw [spec_l1Same.l0, if_pos (by omega), if_pos (by omega), if_pos (by omega), if_pos (by omega), rd_nat, rd_nat, if_neg h, e1, e2, decide_eq_false (fun e => h (List.cons.inj e).1)]
theorem spec_l1Same_ev (a b : List Int) (hn : a.length ≤ 4611686018427387904) : Ev (fun k => spec_l1Same.f k a b) (decide (a = b)) := by
  unfold spec_l1Same.f
  by_cases h : a.length = b.length
  · simp only [show ((a.length : Int) = (b.length : Int)) from by omega, if_true]
    have := spec_l1Same_l0 a b h hn a.length 0 (by omega)
    simpa [h] using this
  · simp only [show ¬ ((a.length : Int) = (b.length : Int)) from by omega, if_false]
    have e : decide (a = b) = false := decide_eq_false (fun e => h (by rw [e]))
    rw [e]; exact Ev.now _
theorem slices_Equal_int_int_l0 (a b : List Int) (hl : a.length = b.length) (hn : a.length ≤ 4611686018427387904) : ∀ (d i : Nat), i + d = a.length → Ev (fun k => slices_Equal_int_int.l0 k a b (a.length : Int) i) (decide (a.drop i = b.drop i)) := by
  intro d
  induction d with
  | zero =>
    intro i hd
    refine Ev.end_ fun k => ?_
    rw [slices_Equal_int_int.l0, if_neg (by omega), List.drop_eq_nil_of_le (by omega), List.drop_eq_nil_of_le (by omega)]
    simp
  | succ d ih =>
    intro i hd
    have e1 := drop_getD (l := a) (i := i) (by omega)
    have e2 := drop_getD (l := b) (i := i) (by omega)
    by_cases h : a.getD i 0 = b.getD i 0
    · refine Ev.one (f := fun k => slices_Equal_int_int.l0 k a b (a.length : Int) ((i + 1 : Nat) : Int)) ?_ fun k => ?_
      · have := ih (i + 1) (by omega)
        have e : decide (a.drop i = b.drop i) = decide (a.drop (i + 1) = b.drop (i + 1)) := by rw [e1, e2, h]; simp
        rw [e]; exact this
      · rw [slices_Equal_int_int.l0, if_pos (by omega), if_pos (by omega), if_pos (by omega), if_pos (by omega), rd_nat, rd_nat, if_pos h, wrap_next (n := a.length) (by omega) hn]
    · refine Ev.end_ fun k => ?_
      rw [slices_Equal_int_int.l0, if_pos (by omega), if_pos (by omega), if_pos (by omega), if_pos (by omega), rd_nat, rd_nat, if_neg h, e1, e2, decide_eq_false (fun e => h (List.cons.inj e).1)]
theorem slices_Equal_int_int_ev (a b : List Int) (hn : a.length ≤ 4611686018427387904) : Ev (fun k => slices_Equal_int_int.f k a b) (decide (a = b)) := by
  unfold slices_Equal_int_int.f
  by_cases h : a.length = b.length
  · simp only [show ((a.length : Int) = (b.length : Int)) from by omega, if_true]
    have := slices_Equal_int_int_l0 a b h hn a.length 0 (by omega)
    simpa [h] using this
  · simp only [show ¬ ((a.length : Int) = (b.length : Int)) from by omega, if_false]
    have e : decide (a = b) = false := decide_eq_false (fun e => h (by rw [e]))
    rw [e]; exact Ev.now _
theorem reOnes_ev (n : Nat) (hn : n ≤ 1000) : Ev (fun k => spec_reOnes.f k (n : Int)) (SandT.ones n) := by
  unfold spec_reOnes.f
  have := Ev.up0 n (fun q => List.replicate q (1 : Int)) (fun k s q => spec_reOnes.l0 k (n : Int) s q) (SandT.ones n) (fun q hq h => Ev.one h fun k => ?_) (Ev.end_ fun k => ?_)
  · exact this
  · rw [spec_reOnes.l0, if_pos (by omega), if_pos (by rw [List.length_replicate]; omega), wrap_next (n := n) hq (by omega), ← List.replicate_succ']
  · rw [spec_reOnes.l0, if_neg (by omega)]; rfl
/-! ### Recurrent sand -/
def recB (l : List Int) : Bool := (l.all fun x => decide (x < l.length)) && decide ((SandT.stab (SandT.more l)).1 = l)
theorem more_mild {l : List Int} (h : sandB l = true) : Mild (SandT.more l) := by
  have := sandB_len h
  refine mild_of (by simpa using (by omega : l.length ≤ 1000)) fun j => ?_
  rcases Nat.lt_or_ge j l.length with hj | hj
  · rw [SandT.get_more l j hj]; have := sandB_get h j; omega
  · rw [List.getD_eq_getElem?_getD, List.getElem?_eq_none (by simpa using hj)]; simp
theorem ones_range (n j : Nat) : -1000000 ≤ (SandT.ones n).getD j 0 ∧ (SandT.ones n).getD j 0 ≤ 1000000 := by
  have := get_repl_range n 1 (by omega) j
  unfold SandT.ones; omega
theorem reAgain_ev {l : List Int} (h : sandB l = true) : Ev (fun k => spec_reAgain.f k l) (recB l) := by
  have hl := sandB_len h
  unfold spec_reAgain.f recB
  refine Ev.bind (reOnes_ev l.length (by omega)) ?_
  refine Ev.bind (rePlus_ev (by simp [SandT.ones]) (by omega) (sandB_mild h).get (ones_range _)) ?_
  show Ev (fun k => (spec_reSettle.f k (SandT.more l)).bind _) _
  refine Ev.bind (reSettle_ev (more_mild h)) ?_
  refine Ev.bind (reSand_ev l (by omega)) ?_
  simp only [h, if_true]
  refine Ev.bind (reFirst_ev l (by omega)) ?_
  have e := firstI_neg l
  by_cases hf : firstI l < 0
  · simp only [hf, if_true]
    simp only [hf, decide_true] at e
    rw [← e, Bool.true_and]
    refine Ev.bind (spec_l1Same_ev _ _ (by simp; omega)) ?_
    exact Ev.now _
  · simp only [hf, if_false]
    simp only [hf, decide_false] at e
    rw [← e, Bool.false_and]
    exact Ev.now _
def recV (l : List Int) : Bool × Bool := if sandB l = true then (recB l, true) else (false, false)
theorem spec_IsRecurrent_ev (l : List Int) (hn : l.length ≤ 4611686018427387904) : Ev (fun k => spec_IsRecurrent.f k l) (recV l) := by
  unfold spec_IsRecurrent.f recV
  refine Ev.bind (reSand_ev l hn) ?_
  by_cases h : sandB l = true
  · simp only [h, if_true]
    refine Ev.bind (reAgain_ev h) ?_
    exact Ev.now _
  · simp only [h, Bool.false_eq_true, if_false]
    exact Ev.now _
theorem burn_ev {l : List Int} (h : sandB l = true) : Ev (fun k => impl_burn.f k l) ((SandT.stab (SandT.more l)).1, asI (SandT.stab (SandT.more l)).2) := by
  have hl := sandB_len h
  unfold impl_burn.f
  simp only [Repeat_eq 1 l.length (by omega), Option.bind_some]
  refine Ev.bind (added_ev (b := SandT.ones l.length) (by simp [SandT.ones]) (by omega) (sandB_mild h).get (ones_range _)) ?_
  show Ev (fun k => (impl_settle.f (SandT.more l)).bind fun bt => some (bt.1, bt.2)) _
  simp only [settle_eq (more_mild h), Option.bind_some]
  exact Ev.now _
theorem isRecurrent_ev (l : List Int) : Ev (fun k => impl_isRecurrent.f k l) (sandB l && recB l) := by
  unfold impl_isRecurrent.f
  simp only [isSand_eq, Option.bind_some]
  by_cases h : sandB l = true
  · have hl := sandB_len h
    simp only [h, if_true, Bool.true_and, impl_isStable.f, Option.bind_some, recB]
    cases hs : (l.all fun x => decide (x < l.length)) with
    | true =>
      refine Ev.step (f := fun k => (impl_burn.f k l).bind fun bt => ((slices_Equal_int_int.f k bt.1 l).bind fun t => some t)) (fun k => by rw [impl_isRecurrent.j0, if_neg (by simp)]) ?_
      refine Ev.bind (burn_ev h) ?_
      refine Ev.bind (slices_Equal_int_int_ev _ _ (by simp; omega)) ?_
      rw [Bool.true_and]
      exact Ev.now _
    | false => exact Ev.end_ fun k => by rw [impl_isRecurrent.j0, if_pos (by simp)]; simp
  · simp only [h, Bool.false_eq_true, if_false, Bool.not_eq_true _ ▸ h]
    have h' : sandB l = false := by simpa using h
    rw [Bool.false_and]
    exact Ev.end_ fun k => by rw [impl_isRecurrent.j0, if_pos rfl]
theorem impl_IsRecurrent_ev (l : List Int) : Ev (fun k => impl_IsRecurrent.f k l) (recV l) := by
  unfold impl_IsRecurrent.f recV
  simp only [isSand_eq, Option.bind_some]
  by_cases h : sandB l = true
  · simp only [h, if_true]
    refine Ev.bind (isRecurrent_ev l) ?_
    rw [h, Bool.true_and]
    exact Ev.now _
  · simp only [h, Bool.false_eq_true, if_false]
    exact Ev.now _

end Go.Proofs.Ytainmahlhhcklaa.G
