/- For every input FnExactUsedCells returns true: the program's UsedCells and the reference's agree, the argument reads as it did, results lie in memory of their own. No condition. -/
import Derived.Test.YtkjapphjolahjaaGx11
import Derived.Test.YtkjapphjolahjaaGx12
import Derived.Test.YtkjapphjolahjaaPT2
import Derived.Test.YtkjapphjolahjaaGwT
namespace Go.Proofs.Ytkjapphjolahjaa.Pure
open Go.RowKit Go.Proofs.Ytkjapphjolahjaa.G Go.Proofs.YtkjapphjolahjaaW.PrintWords Go.Proofs.YtkjapphjolahjaaW.PrintLast
set_option linter.unusedVariables false
set_option linter.unusedSimpArgs false

def usV (l : List Int) : List Int × Bool := if tblB l = true then (idxsTo posP l l.length, true) else ([], false)
theorem usV_len (l : List Int) : (usV l).1.length ≤ l.length := by
  unfold usV
  split
  · exact idxsTo_len _ _ _
  · simp
theorem uparts {l : List Int} (h : tblB l = true) : 2 ≤ l.length ∧ l.length ≤ 12 ∧ (∀ j, j < l.length → -1 ≤ l.getD j 0 ∧ l.getD j 0 ≤ 999) := by
  unfold tblB at h
  simp only [Bool.and_eq_true, decide_eq_true_eq] at h
  exact ⟨by omega, by omega, fun j hj => allT_get h.1.1.2 hj⟩
theorem spec_Used_ev (l : List Int) (hn : l.length ≤ 4611686018427387904) : Ev (fun k => spec_UsedCells.f k l) (usV l) := by
  unfold spec_UsedCells.f usV
  refine Ev.bind (prGood_ev l hn) ?_
  cases h : tblB l with
  | false => simp only [Bool.false_eq_true, if_false]; exact Ev.now _
  | true =>
    obtain ⟨h1, h2, h3⟩ := uparts h
    simp only [if_true]
    have := Ev.up0 l.length (fun q => idxsTo posP l q) (fun k s q => spec_UsedCells.l0 k s l (l.length : Int) q) (idxsTo posP l l.length, true) (fun q hq h => ?_) (Ev.end_ fun k => ?_)
    · simpa [idxsTo] using this
    · have hv := h3 q hq
      rw [idxsTo] at h
      by_cases hf : l.getD q 0 = -1
      · rw [if_neg (by rw [posP, hf]; decide), List.append_nil] at h
        refine Ev.one h fun k => ?_
        rw [spec_UsedCells.l0, if_pos (by omega), if_pos (by omega), if_pos (by omega), rd_nat, if_pos hf, wrap_next (n := l.length) hq (by omega)]
      · rw [if_pos (by rw [posP]; exact decide_eq_true (by omega))] at h
        refine Ev.one h fun k => ?_
        have hlen := idxsTo_len posP l q
        rw [spec_UsedCells.l0, if_pos (by omega), if_pos (by omega), if_pos (by omega), rd_nat, if_neg hf, if_pos (by omega), wrap_next (n := l.length) hq (by omega)]
    · rw [spec_UsedCells.l0, if_neg (by omega)]
theorem impl_Used_ev (l : List Int) (hn : l.length ≤ 4611686018427387904) : Ev (fun k => impl_UsedCells.f k l) (usV l) := by
  unfold impl_UsedCells.f usV
  refine Ev.bind (isTable_ev l hn) ?_
  cases h : tblB l with
  | false => simp only [Bool.false_eq_true, if_false]; exact Ev.now _
  | true =>
    obtain ⟨h1, h2, h3⟩ := uparts h
    simp only [if_true, show impl_Table_used.f l = some (idxsTo posP l l.length) by unfold impl_Table_used.f; rw [if_pos (by omega)], Option.bind_some]
    exact Ev.now _
theorem FnExactUsedCells (l0 : List Int) (hm : l0.length ≤ maxLen) (hb : l0.length * 8 ≤ 140737488351232) (hw : ∀ x ∈ l0, (Lit.int .i64 x).wf = true) : ∃ k, laws_FnExactUsedCells.f k l0 = some true := by
  refine Ev.rounds ?_
  unfold laws_FnExactUsedCells.f
  rw [szTable_eq l0 (by omega)]
  simp only [Option.bind_some]
  by_cases h : (l0.length : Int) > 1048576
  · rw [if_pos h]
    simp only [show ((-1 : Int) < 0) by decide, if_true]
    exact Ev.now _
  · rw [if_neg h]
    have hn : l0.length ≤ 1048576 := by omega
    have hv := usV_len l0
    simp only [show ¬ ((1048576 : Int) - (l0.length : Int) < 0) by omega, if_false]
    refine Ev.bind (toTable_ev l0 (by omega)) ?_
    refine Ev.bind (spec_Used_ev l0 (by omega)) ?_
    refine Ev.bind (toTable_ev l0 (by omega)) ?_
    refine Ev.bind (impl_Used_ev l0 (by omega)) ?_
    refine Ev.bind (eqIntS_ev _ _ (by omega)) ?_
    simp only [decide_true, if_true, bne_self_eq_false]
    refine Ev.step (fun k => by rw [laws_FnExactUsedCells.j0, if_neg (by decide)]) ?_
    refine Ev.bind (toTable_ev l0 (by omega)) ?_
    refine Ev.bind (eqTable_ev l0 l0 (by omega)) ?_
    simp only [decide_true, if_true]
    refine Ev.bind (markTable_ev _ 1 (by omega) (by omega)) ?_
    simp only [nneg, if_false]
    refine Ev.bind (eqIntS_ev _ _ (by omega)) ?_
    simp only [decide_true, if_true, bne_self_eq_false]
    refine Ev.step (fun k => by rw [laws_FnExactUsedCells.j1, if_neg (by decide)]) ?_
    refine Ev.bind (markIntS_ev _ 1 (by omega) (by omega)) ?_
    refine Ev.bind (heldIntS_ev _ 1 (by omega) (by omega)) ?_
    simp only [nneg, if_false, if_true]
    refine Ev.bind (toTable_ev l0 (by omega)) ?_
    refine Ev.bind (impl_Used_ev l0 (by omega)) ?_
    refine Ev.bind (eqIntS_ev _ _ (by omega)) ?_
    simp only [decide_true, if_true, bne_self_eq_false]
    refine Ev.step (fun k => by rw [laws_FnExactUsedCells.j2, if_neg (by decide)]) ?_
    refine Ev.bind (heldIntS_ev _ 1 (by omega) (by omega)) ?_
    simp only [nneg, if_false, if_true]
    exact Ev.now _

end Go.Proofs.Ytkjapphjolahjaa.Pure
