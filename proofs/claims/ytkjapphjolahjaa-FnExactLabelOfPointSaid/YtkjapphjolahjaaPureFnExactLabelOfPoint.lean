/- For every input FnExactLabelOfPoint returns true: the program's LabelOfPoint and the reference's agree, the argument reads as it did, results lie in memory of their own. No condition. -/
import Derived.Test.YtkjapphjolahjaaGx19
import Derived.Test.YtkjapphjolahjaaGx20
import Derived.Test.YtkjapphjolahjaaGx21
import Derived.Test.YtkjapphjolahjaaPS2
import Derived.Test.YtkjapphjolahjaaGvL
namespace Go.Proofs.Ytkjapphjolahjaa.Pure
open Go.RowKit Go.Proofs.Ytkjapphjolahjaa.G Go.Proofs.YtkjapphjolahjaaW.PrintWords Go.Proofs.YtkjapphjolahjaaW.PrintLast
set_option linter.unusedVariables false
set_option linter.unusedSimpArgs false

def labV (l : List Int) : List Int × Bool := if pointB l = true then (labTo l l.length 0, true) else ([], false)
theorem labV_len (l : List Int) : (labV l).1.length ≤ l.length := by
  unfold labV
  split
  · rw [labTo_len]; exact Nat.le_refl _
  · simp
theorem spec_Label_ev (l : List Int) (hn : l.length ≤ 4611686018427387904) : Ev (fun k => spec_LabelOfPoint.f k l) (labV l) := by
  unfold spec_LabelOfPoint.f labV
  refine Ev.bind (rePoint_ev l hn) ?_
  cases h : pointB l with
  | false => simp only [Bool.false_eq_true, if_false]; exact Ev.now _
  | true =>
    obtain ⟨h1, h2, h3⟩ := (pointB_iff l).mp h
    simp only [if_true, show spec_reLabel.f l = some (labTo l l.length 0) by unfold spec_reLabel.f; rw [if_pos (by rw [decide_eq_true h1, h2]; rfl)], Option.bind_some]
    exact Ev.now _
section
variable (l : List Int) (h8 : l.length ≤ 8) (hr : ∀ j, -100000 ≤ l.getD j 0 ∧ l.getD j 0 ≤ 100000)
include h8 hr
theorem lab_in (i : Nat) (hi : i < l.length) (r : List Int × Bool) (h : Ev (fun k => impl_LabelOfPoint.l0 k l (labTo l i l.length) l (l.length : Int) (wrap64 ((i : Int) + 1))) r) : ∀ (d j : Nat), j + d = l.length →
    Ev (fun k => impl_LabelOfPoint.l1 k l (labTo l i j) (i : Int) (l.getD i 0) l (l.length : Int) (i : Int) l (l.length : Int) (j : Int)) r := by
  intro d
  induction d with
  | zero =>
    intro j hj
    obtain rfl : j = l.length := by omega
    exact Ev.one h fun k => by rw [impl_LabelOfPoint.l1, if_neg (by omega)]
  | succ d ih =>
    intro j hj
    have hj2 : j < l.length := by omega
    have hvi := hr i
    have hvj := hr j
    have hn := ih (j + 1) (by omega)
    have hw : wrap64 (l.getD i 0 + 100) = l.getD i 0 + 100 := wrap_id (by omega) (by omega)
    have hlr := labN_range l i j
    have hset : labC l i j = true → (labTo l i j).set ((i : Int)).toNat (wrap64 (rd (labTo l i j) (i : Int) + 1)) = labTo l i (j + 1) := by
      intro hc
      rw [rd_nat, labTo_get l i j hi, wrap_id (by omega) (by omega), Int.toNat_natCast]
      exact labTo_hit l i j hc
    have hst : labC l i j = true → Ev (fun k => if 0 ≤ (i : Int) then (if (i : Int) < ((labTo l i j).length : Int) then (impl_LabelOfPoint.l1 k l ((labTo l i j).set ((i : Int)).toNat (wrap64 (rd (labTo l i j) (i : Int) + 1))) (i : Int) (l.getD i 0) l (l.length : Int) (i : Int) l (l.length : Int) (wrap64 ((j : Int) + 1))) else none) else none) r := by
      intro hc
      simp only [show 0 ≤ (i : Int) by omega, show (i : Int) < ((labTo l i j).length : Int) by rw [labTo_len]; omega, if_true, hset hc, wrap_next (n := l.length) hj2 (by omega)]
      exact hn
    have hno : labC l i j = false → Ev (fun k => impl_LabelOfPoint.l1 k l (labTo l i j) (i : Int) (l.getD i 0) l (l.length : Int) (i : Int) l (l.length : Int) (wrap64 ((j : Int) + 1))) r := by
      intro hc
      rw [← labTo_miss l i j hc, wrap_next (n := l.length) hj2 (by omega)]
      exact hn
    by_cases c1 : j < i
    · by_cases c2 : l.getD j 0 > l.getD i 0 + 100
      · refine Ev.one (hst ?_) fun k => ?_
        · unfold labC; rw [decide_eq_true c1, decide_eq_true (by omega)]; rfl
        · rw [impl_LabelOfPoint.l1, if_pos (by omega), if_pos (by omega), if_pos (by omega), if_pos (by omega), rd_nat, hw, if_pos c2]
      · refine Ev.one (hno ?_) fun k => ?_
        · unfold labC; rw [decide_eq_true c1, decide_eq_false (show ¬ (l.getD j 0 - l.getD i 0 > 100) by omega), decide_eq_false (show ¬ i < j by omega)]; rfl
        · rw [impl_LabelOfPoint.l1, if_pos (by omega), if_pos (by omega), if_pos (by omega), if_pos (by omega), rd_nat, hw, if_neg c2, if_neg (by omega)]
    · by_cases c2 : i < j
      · by_cases c3 : l.getD j 0 > l.getD i 0
        · refine Ev.one (hst ?_) fun k => ?_
          · unfold labC; rw [decide_eq_true c2, decide_eq_true c3, Bool.and_self, Bool.or_true]
          · rw [impl_LabelOfPoint.l1, if_pos (by omega), if_pos (by omega), if_pos (by omega), if_neg (by omega), if_pos (by omega), rd_nat, if_pos c3]
        · refine Ev.one (hno ?_) fun k => ?_
          · unfold labC; rw [decide_eq_false c1, decide_eq_false c3, Bool.and_false, Bool.or_false, Bool.false_and]
          · rw [impl_LabelOfPoint.l1, if_pos (by omega), if_pos (by omega), if_pos (by omega), if_neg (by omega), if_pos (by omega), rd_nat, if_neg c3]
      · refine Ev.one (hno ?_) fun k => ?_
        · unfold labC; rw [decide_eq_false c1, decide_eq_false c2]; rfl
        · rw [impl_LabelOfPoint.l1, if_pos (by omega), if_pos (by omega), if_pos (by omega), if_neg (by omega), if_neg (by omega)]
theorem lab_out : ∀ (d i : Nat), i + d = l.length → Ev (fun k => impl_LabelOfPoint.l0 k l (labTo l i 0) l (l.length : Int) (i : Int)) (labTo l l.length 0, true) := by
  intro d
  induction d with
  | zero =>
    intro i hi
    obtain rfl : i = l.length := by omega
    exact Ev.end_ fun k => by rw [impl_LabelOfPoint.l0, if_neg (by omega)]
  | succ d ih =>
    intro i hi
    have hlt : i < l.length := by omega
    have := lab_in l h8 hr i hlt (labTo l l.length 0, true) (by rw [wrap_next (n := l.length) hlt (by omega), ← labTo_next]; exact ih (i + 1) (by omega)) l.length 0 (by omega)
    refine Ev.one this fun k => ?_
    rw [impl_LabelOfPoint.l0, if_pos (by omega), if_pos (by omega), if_pos (by omega), rd_nat]
    rfl
end
theorem impl_Label_ev (l : List Int) : Ev (fun k => impl_LabelOfPoint.f k l) (labV l) := by
  unfold impl_LabelOfPoint.f labV
  rw [show impl_isPoint.f l = some (pointB l) from rfl]
  simp only [Option.bind_some]
  cases h : pointB l with
  | false => simp only [Bool.false_eq_true, if_false]; exact Ev.now _
  | true =>
    obtain ⟨h1, h2, h3⟩ := (pointB_iff l).mp h
    simp only [if_true, show 0 ≤ (l.length : Int) by omega, Int.toNat_natCast, show l.length ≤ 35184372088832 by omega]
    have := lab_out l h1 (fun j => pointB_get h j) l.length 0 (by omega)
    rw [labTo_start] at this
    exact this
theorem FnExactLabelOfPoint : laws_FnExactLabelOfPoint.Pure := by
  intro l0 hm hb hw
  refine Ev.rounds ?_
  unfold laws_FnExactLabelOfPoint.f
  by_cases h : (l0.length : Int) > 1048576
  · simp only [h, if_true]; exact Ev.now _
  · simp only [h, if_false]
    have hn : l0.length ≤ 1048576 := by omega
    have hv := labV_len l0
    refine Ev.bind (toIntS_ev l0 (by omega)) ?_
    refine Ev.bind (spec_Label_ev l0 (by omega)) ?_
    refine Ev.bind (toIntS_ev l0 (by omega)) ?_
    refine Ev.bind (impl_Label_ev l0) ?_
    refine Ev.bind (eqIntS_ev _ _ (by omega)) ?_
    simp only [decide_true, if_true, bne_self_eq_false]
    refine Ev.step (fun k => by rw [laws_FnExactLabelOfPoint.j0, if_neg (by decide)]) ?_
    refine Ev.bind (toIntS_ev l0 (by omega)) ?_
    refine Ev.bind (eqIntS_ev l0 l0 (by omega)) ?_
    simp only [decide_true, if_true]
    refine Ev.bind (markIntS_ev _ 1 (by omega) (by omega)) ?_
    simp only [nneg, if_false]
    refine Ev.bind (eqIntS_ev _ _ (by omega)) ?_
    simp only [decide_true, if_true, bne_self_eq_false]
    refine Ev.step (fun k => by rw [laws_FnExactLabelOfPoint.j1, if_neg (by decide)]) ?_
    refine Ev.bind (markIntS_ev _ 1 (by omega) (by omega)) ?_
    refine Ev.bind (heldIntS_ev _ 1 (by omega) (by omega)) ?_
    simp only [nneg, if_false, if_true]
    refine Ev.bind (toIntS_ev l0 (by omega)) ?_
    refine Ev.bind (impl_Label_ev l0) ?_
    refine Ev.bind (eqIntS_ev _ _ (by omega)) ?_
    simp only [decide_true, if_true, bne_self_eq_false]
    refine Ev.step (fun k => by rw [laws_FnExactLabelOfPoint.j2, if_neg (by decide)]) ?_
    refine Ev.bind (heldIntS_ev _ 1 (by omega) (by omega)) ?_
    simp only [nneg, if_false, if_true]
    exact Ev.now _

end Go.Proofs.Ytkjapphjolahjaa.Pure
