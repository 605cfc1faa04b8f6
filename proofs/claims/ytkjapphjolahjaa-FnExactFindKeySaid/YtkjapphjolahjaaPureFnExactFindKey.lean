/- For every input FnExactFindKey returns true: the program's FindKey and the reference's agree, the arguments read as they did. No condition. -/
import Derived.Test.YtkjapphjolahjaaGx10
import Derived.Test.YtkjapphjolahjaaGx8
import Derived.Test.YtkjapphjolahjaaGx9
import Derived.Test.YtkjapphjolahjaaPT2
namespace Go.Proofs.Ytkjapphjolahjaa.Pure
open Go.RowKit Go.Proofs.Ytkjapphjolahjaa.G Go.Proofs.YtkjapphjolahjaaW.PrintWords Go.Proofs.YtkjapphjolahjaaW.PrintLast
set_option linter.unusedVariables false
set_option linter.unusedSimpArgs false

theorem place_l0 (l : List Int) (a : Int) (hn : l.length ≤ 4611686018427387904) : ∀ (d i : Nat), i + d = l.length → Ev (fun k => spec_prPlace.l0 k a l (l.length : Int) i) (ixF l a d i) := by
  intro d
  induction d with
  | zero =>
    intro i hd
    exact Ev.end_ fun k => by rw [spec_prPlace.l0, if_neg (by omega)]; rfl
  | succ d ih =>
    intro i hd
    rw [ixF]
    by_cases c : l.getD i 0 = a
    · rw [if_pos c]
      refine Ev.end_ fun k => ?_
      rw [spec_prPlace.l0, if_pos (by omega), if_pos (by omega), if_pos (by omega), rd_nat, if_pos c]
    · rw [if_neg c]
      refine Ev.one (ih (i + 1) (by omega)) fun k => ?_
      rw [spec_prPlace.l0, if_pos (by omega), if_pos (by omega), if_pos (by omega), rd_nat, if_neg c, wrap_next (n := l.length) (by omega) hn]
theorem place_ev (l : List Int) (a : Int) (hn : l.length ≤ 4611686018427387904) : Ev (fun k => spec_prPlace.f k l a) (ixF l a l.length 0) := by
  unfold spec_prPlace.f
  exact place_l0 l a hn l.length 0 (by omega)
def fkV (l : List Int) (a : Int) : Int × Int × Bool := if tblB l = true then (if 0 ≤ a ∧ a ≤ 999 then (if a ∈ l then (ixF l a l.length 0, ((costN l.length a.toNat (ixF l a l.length 0).toNat : Nat) : Int), true) else (0, 0, false)) else (0, 0, false)) else (0, 0, false)
theorem prKey_eq (a : Int) : spec_prKey.f a = some (decide (0 ≤ a ∧ a ≤ 999)) := by unfold spec_prKey.f; rw [l1In_eq]; rfl
theorem isKey_eq (a : Int) : impl_isKey.f a = some (decide (0 ≤ a ∧ a ≤ 999)) := by unfold impl_isKey.f; rw [between_eq]; rfl
theorem tbl_len {l : List Int} (h : tblB l = true) : 2 ≤ l.length ∧ l.length ≤ 12 := by
  unfold tblB at h
  simp only [Bool.and_eq_true, decide_eq_true_eq] at h
  omega
theorem spec_FindKey_ev (l : List Int) (a : Int) (hn : l.length ≤ 4611686018427387904) : Ev (fun k => spec_FindKey.f k l a) (fkV l a) := by
  unfold spec_FindKey.f fkV
  refine Ev.bind (prGood_ev l hn) ?_
  have stop : Ev (fun k => spec_FindKey.j0 k a true l) (0, 0, false) := Ev.end_ fun k => by rw [spec_FindKey.j0, if_pos rfl]
  cases h : tblB l with
  | false => simp only [Bool.false_eq_true, if_false]; exact stop
  | true =>
    have hl := tbl_len h
    simp only [if_true, prKey_eq, Option.bind_some, decide_eq_true_eq]
    by_cases ha : 0 ≤ a ∧ a ≤ 999
    · simp only [ha, and_self, if_true]
      refine Ev.bind (place_ev l a hn) ?_
      rcases ixF_spec l a l.length 0 (by omega) with ⟨h1, h2⟩ | ⟨j, h1, h2, h3, h4⟩
      · rw [List.drop_zero] at h2
        rw [h1, if_neg h2]
        exact stop
      · rw [List.drop_zero] at h4
        obtain ⟨key, rfl⟩ : ∃ key : Nat, a = key := ⟨a.toNat, by omega⟩
        rw [if_pos h4, h1, decide_eq_false (show ¬ ((j : Nat) : Int) < 0 by omega), Int.toNat_natCast, Int.toNat_natCast]
        refine Ev.step (f := fun k => (spec_prPlace.f k l (key : Int)).bind fun t222 => ((spec_prCost.f (key : Int) t222 (l.length : Int)).bind fun t223 => (some (t222, t223, true)))) (fun k => by rw [spec_FindKey.j0, if_neg (by decide)]) ?_
        refine Ev.bind (place_ev l (key : Int) hn) ?_
        rw [h1, prCost_eq (by omega) (by omega) (by omega) h2]
        exact Ev.now _
    · simp only [ha, if_false]; exact stop
  
theorem impl_FindKey_ev (l : List Int) (a : Int) (hn : l.length ≤ 4611686018427387904) : Ev (fun k => impl_FindKey.f k l a) (fkV l a) := by
  unfold impl_FindKey.f fkV
  refine Ev.bind (isTable_ev l hn) ?_
  have stop : Ev (fun k => impl_FindKey.j0 k a true l) (0, 0, false) := Ev.end_ fun k => by rw [impl_FindKey.j0, if_pos rfl]
  cases h : tblB l with
  | false => simp only [Bool.false_eq_true, if_false]; exact stop
  | true =>
    have hl := tbl_len h
    simp only [if_true, isKey_eq, Option.bind_some, decide_eq_true_eq]
    by_cases ha : 0 ≤ a ∧ a ≤ 999
    · simp only [ha, and_self, if_true]
      refine Ev.bind (containsI_ev l a hn) ?_
      rcases ixF_spec l a l.length 0 (by omega) with ⟨h1, h2⟩ | ⟨j, h1, h2, h3, h4⟩
      · rw [List.drop_zero] at h2
        rw [decide_eq_false h2, if_neg h2]
        exact stop
      · rw [List.drop_zero] at h4
        obtain ⟨key, rfl⟩ : ∃ key : Nat, a = key := ⟨a.toNat, by omega⟩
        rw [if_pos h4, h1, decide_eq_true h4, Int.toNat_natCast, Int.toNat_natCast]
        refine Ev.step (f := fun k => (slices_Index_int_int.f k l (key : Int)).bind fun t229 => ((impl_Table_cost.f l t229).bind fun t230 => (some (t229, t230, true)))) (fun k => by rw [impl_FindKey.j0, if_neg (by decide)]) ?_
        refine Ev.bind (index_ev l (key : Int) hn) ?_
        rw [h1, tcost_eq (by omega) (by omega) h2 h3]
        exact Ev.now _
    · simp only [ha, if_false]; exact stop
theorem FnExactFindKey (l0 : List Int) (a1 : Int) (hm : l0.length ≤ maxLen) (hb : l0.length * 8 ≤ 140737488351232) (hw : ∀ x ∈ l0, (Lit.int .i64 x).wf = true) (hw1 : (Lit.int .i64 a1).wf = true) : ∃ k, laws_FnExactFindKey.f k l0 a1 = some true := by
  refine Ev.rounds ?_
  unfold laws_FnExactFindKey.f
  rw [szTable_eq l0 (by omega)]
  simp only [Option.bind_some]
  by_cases h : (l0.length : Int) > 1048576
  · rw [if_pos h]
    simp only [show ((-1 : Int) < 0) by decide, if_true]
    exact Ev.now _
  · rw [if_neg h]
    have hn : l0.length ≤ 1048576 := by omega
    simp only [show ¬ ((1048576 : Int) - (l0.length : Int) < 0) by omega, if_false]
    refine Ev.bind (toTable_ev l0 (by omega)) ?_
    refine Ev.bind (spec_FindKey_ev l0 a1 (by omega)) ?_
    refine Ev.bind (toTable_ev l0 (by omega)) ?_
    refine Ev.bind (impl_FindKey_ev l0 a1 (by omega)) ?_
    simp only [if_true, bne_self_eq_false]
    refine Ev.step (fun k => by rw [laws_FnExactFindKey.j0, if_neg (by decide)]) ?_
    refine Ev.bind (toTable_ev l0 (by omega)) ?_
    refine Ev.bind (eqTable_ev l0 l0 (by omega)) ?_
    simp only [decide_true, if_true]
    exact Ev.now _

end Go.Proofs.Ytkjapphjolahjaa.Pure
