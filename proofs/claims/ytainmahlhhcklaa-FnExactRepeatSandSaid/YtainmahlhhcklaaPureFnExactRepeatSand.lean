/- For every input FnExactRepeatSand returns true: the program's RepeatSand and the reference's RepeatSand agree, the arguments read as they did, and results lie in memory of their own. No condition. -/
import Derived.Test.YtainmahlhhcklaaGx39
import Derived.Test.YtainmahlhhcklaaGx40
import Derived.Test.YtainmahlhhcklaaPS5
import Derived.Test.YtainmahlhhcklaaPS4R
namespace Go.Proofs.Ytainmahlhhcklaa.G
open Go.RowKit Go.Proofs.YtainmahlhhcklaaW.PrintWords Go.Proofs.YtainmahlhhcklaaW.PrintLast Go.Proofs.YtainmahlhhcklaaW.PrintMore
set_option linter.unusedVariables false
set_option linter.unusedSimpArgs false

/-! ### Sand again and again -/
def itr (l : List Int) : Nat → List Int → List Int
  | 0, e => e
  | m + 1, e => itr l m (SandT.stab (SandT.plus e l)).1
/-- Sand that is stable, of as many places as l. -/
structure Still (l e : List Int) : Prop where
  nn : SandT.Nonneg e
  st : SandT.Stable e
  len : e.length = l.length
theorem Still.get {l e : List Int} (h : Still l e) (hl : l.length ≤ 8) (j : Nat) : 0 ≤ e.getD j 0 ∧ e.getD j 0 ≤ 8 := by
  refine ⟨h.nn j, ?_⟩
  rcases Nat.lt_or_ge j e.length with hj | hj
  · have := h.st j hj; have := h.len; omega
  · rw [List.getD_eq_getElem?_getD, List.getElem?_eq_none hj]; simp
theorem Still.mild {l e : List Int} (h : Still l e) (hs : sandB l = true) : Mild (SandT.plus e l) := by
  have hl := sandB_len hs
  have := sum_le (c := e) (B := 8) (fun j => (h.get hl j).2) (by omega)
  have := sandB_sum hs
  have := h.len
  exact plus_mild h.nn (sandB_nn hs) h.len (by omega) (by omega)
theorem Still.next {l e : List Int} (h : Still l e) (hs : sandB l = true) : Still l (SandT.stab (SandT.plus e l)).1 := by
  have hm := h.mild hs
  exact ⟨SandT.nn_stab hm.nn, SandT.stab_stable hm.nn, by simp [h.len]⟩
theorem Still.wide {l e : List Int} (h : Still l e) (hl : l.length ≤ 8) (j : Nat) : -1000000 ≤ e.getD j 0 ∧ e.getD j 0 ≤ 1000000 := by have := h.get hl j; omega
theorem itr_still {l : List Int} (hs : sandB l = true) : ∀ (m : Nat) {e : List Int}, Still l e → Still l (itr l m e)
  | 0, _, h => h
  | m + 1, _, h => itr_still hs m (h.next hs)
theorem rest_still {l : List Int} (hl : l.length ≤ 8) : Still l (restL l.length) := by
  have hm := restM_mild hl
  exact ⟨SandT.nn_stab hm.nn, SandT.stab_stable hm.nn, restL_len _⟩
theorem spec_repeat_l0 {l : List Int} (hs : sandB l = true) : ∀ (m : Nat) (e : List Int), m ≤ 1000 → Still l e → Ev (fun k => spec_RepeatSand.l0 k l (m : Int) e) (itr l m e, true)
  | 0, e, _, _ => Ev.end_ fun k => by rw [spec_RepeatSand.l0, if_neg (by omega)]; rfl
  | m + 1, e, hm, h => by
    have hl := sandB_len hs
    refine Ev.step (f := fun k => (spec_rePlus.f k e l).bind fun t1062 => ((spec_reSettle.f k t1062).bind fun bt1065 => (spec_RepeatSand.l0 k l (m : Int) bt1065.1))) (fun k => by rw [spec_RepeatSand.l0, if_pos (by omega), wrap_id (x := ((m + 1 : Nat) : Int) - 1) (by omega) (by omega), show ((m + 1 : Nat) : Int) - 1 = (m : Int) by omega]) ?_
    refine Ev.bind (rePlus_ev h.len (by have := h.len; omega) (h.wide hl) (sandB_mild hs).get) ?_
    refine Ev.bind (reSettle_ev (h.mild hs)) ?_
    exact spec_repeat_l0 hs m _ (by omega) (h.next hs)
theorem impl_repeat_l0 {l : List Int} (hs : sandB l = true) (N : Nat) (hN : N ≤ 1000) : ∀ (m i : Nat) (e : List Int), i + m = N → Still l e → Ev (fun k => impl_RepeatSand.l0 k l e (N : Int) (i : Int)) (itr l m e, true)
  | 0, i, e, hi, _ => Ev.end_ fun k => by rw [impl_RepeatSand.l0, if_neg (by omega)]; rfl
  | m + 1, i, e, hi, h => by
    have hl := sandB_len hs
    refine Ev.step (f := fun k => (impl_added.f k e l).bind fun t1076 => ((impl_settle.f t1076).bind fun bt1079 => (impl_RepeatSand.l0 k l bt1079.1 (N : Int) ((i + 1 : Nat) : Int)))) (fun k => by rw [impl_RepeatSand.l0, if_pos (by omega), wrap_next (n := N) (by omega) (by omega)]) ?_
    refine Ev.bind (added_ev h.len (by have := h.len; omega) (h.wide hl) (sandB_mild hs).get) ?_
    simp only [settle_eq (h.mild hs), Option.bind_some]
    exact impl_repeat_l0 hs N hN m (i + 1) _ (by omega) (h.next hs)
def repB (l : List Int) (a : Int) : Bool := sandB l && recB l && decide (0 ≤ a ∧ a ≤ 1000)
def repV (l : List Int) (a : Int) : List Int × Bool := if repB l a = true then (itr l a.toNat (restL l.length), true) else ([], false)
theorem spec_RepeatSand_ev (l : List Int) (hn : l.length ≤ 4611686018427387904) (a : Int) : Ev (fun k => spec_RepeatSand.f k l a) (repV l a) := by
  unfold spec_RepeatSand.f repV repB
  refine Ev.bind (reSand_ev l hn) ?_
  have stop : Ev (fun k => spec_RepeatSand.j0 k l a true) (([] : List Int), false) := Ev.end_ fun k => by rw [spec_RepeatSand.j0, if_pos rfl]
  by_cases h : sandB l = true
  · have hl := sandB_len h
    simp only [h, if_true, Bool.true_and]
    refine Ev.bind (reAgain_ev h) ?_
    cases hr : recB l with
    | true =>
      simp only [if_true, l1In_eq, Option.bind_some, Bool.true_and]
      by_cases ha : 0 ≤ a ∧ a ≤ 1000
      · obtain ⟨m, rfl⟩ : ∃ m : Nat, a = m := ⟨a.toNat, by omega⟩
        simp only [ha, and_self, decide_true, if_true, Bool.not_true, Int.toNat_natCast]
        refine Ev.step (f := fun k => (spec_reRest.f k (l.length : Int)).bind fun t => spec_RepeatSand.l0 k l (m : Int) t) (fun k => by rw [spec_RepeatSand.j0, if_neg (by simp)]) ?_
        refine Ev.bind (spec_reRest_ev hl) ?_
        exact spec_repeat_l0 h m _ (by omega) (rest_still hl)
      · simp only [ha, decide_false, Bool.not_false, Bool.false_eq_true, if_false]
        exact stop
    | false => simp only [Bool.false_and, Bool.false_eq_true, if_false]; exact stop
  · have h' : sandB l = false := by simpa using h
    simp only [h', Bool.false_and, Bool.false_eq_true, if_false]
    exact stop
theorem impl_RepeatSand_ev (l : List Int) (a : Int) : Ev (fun k => impl_RepeatSand.f k l a) (repV l a) := by
  unfold impl_RepeatSand.f repV repB
  refine Ev.bind (isRecurrent_ev l) ?_
  have stop : Ev (fun k => impl_RepeatSand.j0 k l a true) (([] : List Int), false) := Ev.end_ fun k => by rw [impl_RepeatSand.j0, if_pos rfl]
  cases h : (sandB l && recB l) with
  | true =>
    have hs : sandB l = true := by rw [Bool.and_eq_true] at h; exact h.1
    have hl := sandB_len hs
    simp only [if_true, between_eq, Option.bind_some, Bool.true_and]
    by_cases ha : 0 ≤ a ∧ a ≤ 1000
    · obtain ⟨m, rfl⟩ : ∃ m : Nat, a = m := ⟨a.toNat, by omega⟩
      simp only [ha, and_self, decide_true, if_true, Bool.not_true, Int.toNat_natCast]
      refine Ev.step (f := fun k => (impl_rest.f k (l.length : Int)).bind fun t => impl_RepeatSand.l0 k l t (m : Int) 0) (fun k => by rw [impl_RepeatSand.j0, if_neg (by simp)]) ?_
      refine Ev.bind (impl_rest_ev hl) ?_
      exact impl_repeat_l0 hs m (by omega) m 0 _ (by omega) (rest_still hl)
    · simp only [ha, decide_false, Bool.not_false, Bool.false_eq_true, if_false]
      exact stop
  | false => simp only [Bool.false_and, Bool.false_eq_true, if_false]; exact stop
theorem repV_len (l : List Int) (a : Int) : (repV l a).1.length ≤ 8 := by
  unfold repV
  split
  · rename_i h
    simp only [repB, Bool.and_eq_true] at h
    have hl := sandB_len h.1.1
    have := (itr_still h.1.1 a.toNat (rest_still hl)).len
    show (itr l a.toNat (restL l.length)).length ≤ 8
    omega
  · simp

end Go.Proofs.Ytainmahlhhcklaa.G
namespace Go.Proofs.Ytainmahlhhcklaa.Pure
open Go.RowKit Go.Proofs.Ytainmahlhhcklaa.G Go.Proofs.YtainmahlhhcklaaW.PrintWords Go.Proofs.YtainmahlhhcklaaW.PrintLast
set_option linter.unusedVariables false
set_option linter.unusedSimpArgs false

theorem FnExactRepeatSand : laws_FnExactRepeatSand.Pure := by
  intro l0 a1 _ hb_l0 hw_l0 hw_a1
  refine Ev.rounds ?_
  unfold laws_FnExactRepeatSand.f
  by_cases h_l0 : (l0.length : Int) > 1048576
  · simp only [h_l0, if_true]; exact Ev.now _
  · simp only [h_l0, if_false]
    have n_l0 : l0.length ≤ 1048576 := by omega
    have hv0 := repV_len l0 a1
    refine Ev.bind (toIntS_ev l0 (by omega)) ?_
    refine Ev.bind (spec_RepeatSand_ev l0 (by omega) a1) ?_
    refine Ev.bind (toIntS_ev l0 (by omega)) ?_
    refine Ev.bind (impl_RepeatSand_ev l0 a1) ?_
    refine Ev.bind (eqIntS_ev _ _ (by omega)) ?_
    simp only [decide_true, if_true]
    (try simp only [bne_self_eq_false, Bool.false_eq_true, if_false, if_true])
    refine Ev.step (fun k => by rw [laws_FnExactRepeatSand.j0, if_neg (by simp)]) ?_
    refine Ev.bind (toIntS_ev l0 (by omega)) ?_
    refine Ev.bind (eqIntS_ev l0 l0 (by omega)) ?_
    simp only [decide_true, if_true]
    refine Ev.bind (markIntS_ev l0 (1) (by omega) (by omega)) ?_
    simp only [show ¬ (1 + (l0.length : Int) < 0) by omega, if_false]
    refine Ev.bind (eqIntS_ev _ _ (by omega)) ?_
    simp only [decide_true, if_true]
    (try simp only [bne_self_eq_false, Bool.false_eq_true, if_false, if_true])
    refine Ev.step (fun k => by rw [laws_FnExactRepeatSand.j1, if_neg (by simp)]) ?_
    refine Ev.bind (markIntS_ev _ 1 (by omega) (by omega)) ?_
    refine Ev.bind (heldIntS_ev _ 1 (by omega) (by omega)) ?_
    simp only [nneg, if_false, if_true]
    refine Ev.bind (toIntS_ev l0 (by omega)) ?_
    refine Ev.bind (impl_RepeatSand_ev l0 a1) ?_
    refine Ev.bind (eqIntS_ev _ _ (by omega)) ?_
    simp only [decide_true, if_true]
    (try simp only [bne_self_eq_false, Bool.false_eq_true, if_false, if_true])
    refine Ev.step (fun k => by rw [laws_FnExactRepeatSand.j2, if_neg (by simp)]) ?_
    refine Ev.bind (heldIntS_ev _ 1 (by omega) (by omega)) ?_
    simp only [nneg, if_false, if_true]
    exact Ev.now _

end Go.Proofs.Ytainmahlhhcklaa.Pure
