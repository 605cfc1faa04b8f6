/- For every input FnExactClustersOf returns true: the program's ClustersOf and the reference's agree, the argument reads as it did, results lie in memory of their own. No condition. -/
import Derived.Test.YtkjapphjolahjaaGx13
import Derived.Test.YtkjapphjolahjaaGx14
import Derived.Test.YtkjapphjolahjaaGx15
import Derived.Test.YtkjapphjolahjaaPT2
namespace Go.Proofs.Ytkjapphjolahjaa.Pure
open Go.RowKit Go.Proofs.Ytkjapphjolahjaa.G Go.Proofs.YtkjapphjolahjaaW.PrintWords Go.Proofs.YtkjapphjolahjaaW.PrintLast
set_option linter.unusedVariables false
set_option linter.unusedSimpArgs false

/-- How many cells from a cell on are used. -/
def runF (l : List Int) (at_ : Nat) : Nat → Nat → Nat
  | 0, n => n
  | d + 1, n => if l.getD ((at_ + n) % l.length) 0 < 0 then n else runF l at_ d (n + 1)
def cluV (l : List Int) : Nat → Nat → List Int → List Int
  | 0, _, out => out
  | d + 1, i, out => if l.getD i 0 < 0 ∨ 0 ≤ l.getD ((i + l.length - 1) % l.length) 0 then cluV l d (i + 1) out else cluV l d (i + 1) (out ++ [((runF l i l.length 0 : Nat) : Int)])
theorem cluV_len (l : List Int) : ∀ (d i : Nat) (out : List Int), (cluV l d i out).length ≤ out.length + d
  | 0, _, _ => by rw [cluV]; omega
  | d + 1, i, out => by
    rw [cluV]
    split
    · have := cluV_len l d (i + 1) out; omega
    · have := cluV_len l d (i + 1) (out ++ [((runF l i l.length 0 : Nat) : Int)])
      simp only [List.length_append, List.length_cons, List.length_nil] at this
      omega
theorem prev_arith {n i : Nat} (hn : 2 ≤ n) (hn2 : n ≤ 1000) (hi : i < n) : Int.tmod (wrap64 ((wrap64 ((i : Int) - 1)) + (n : Int))) (n : Int) = (((i + n - 1) % n : Nat) : Int) ∧ Int.tmod (wrap64 ((wrap64 ((i : Int) + (n : Int))) - 1)) (n : Int) = (((i + n - 1) % n : Nat) : Int) := by
  rw [wrap_id (x := (i : Int) - 1) (by omega) (by omega), wrap_id (x := (i : Int) - 1 + (n : Int)) (by omega) (by omega), wrap_id (x := (i : Int) + (n : Int)) (by omega) (by omega), wrap_id (x := (i : Int) + (n : Int) - 1) (by omega) (by omega),
    show (i : Int) - 1 + (n : Int) = ((i + n - 1 : Nat) : Int) by omega, show (i : Int) + (n : Int) - 1 = ((i + n - 1 : Nat) : Int) by omega]
  exact ⟨rfl, rfl⟩
theorem on_arith {n i s : Nat} (hn2 : n ≤ 1000) (hi : i ≤ 1000) (hs : s ≤ 1000) : Int.tmod (wrap64 ((i : Int) + (s : Int))) (n : Int) = (((i + s) % n : Nat) : Int) := by
  rw [wrap_id (by omega) (by omega), show (i : Int) + (s : Int) = ((i + s : Nat) : Int) by omega]; rfl
section
variable (l : List Int) (hn : 2 ≤ l.length) (hn2 : l.length ≤ 12) (hr : ∀ j, j < l.length → -1 ≤ l.getD j 0 ∧ l.getD j 0 ≤ 999)
include hn hn2 hr
theorem sp_run (i : Nat) (hi : i < l.length) (out : List Int) (ho : out.length ≤ 100) (r : List Int × Bool) : ∀ (d s : Nat), s + d ≤ 100 → (∃ j, j < d ∧ l.getD ((i + (s + j)) % l.length) 0 < 0) →
    Ev (fun k => spec_ClustersOf.l0 k (l.length : Int) (out ++ [((runF l i d s : Nat) : Int)]) l (l.length : Int) (wrap64 ((i : Int) + 1)) l) r → Ev (fun k => spec_ClustersOf.l1 k (l.length : Int) out (i : Int) (s : Int) l (l.length : Int) (i : Int) l) r := by
  intro d
  induction d with
  | zero => intro s _ h _; obtain ⟨j, hj, _⟩ := h; omega
  | succ d ih =>
    intro s hs hex h
    have hm := Nat.mod_lt (i + s) (show 0 < l.length by omega)
    have hv := hr _ hm
    rw [runF] at h
    have ha := on_arith (n := l.length) (i := i) (s := s) (by omega) (by omega) (by omega)
    by_cases hf : l.getD ((i + s) % l.length) 0 < 0
    · rw [if_pos hf] at h
      refine Ev.one h fun k => ?_
      rw [spec_ClustersOf.l1, if_neg (by omega), ha, if_pos (by omega), if_pos (by omega), rd_nat, if_pos (by omega), if_pos (by omega)]
    · rw [if_neg hf] at h
      refine Ev.one (ih (s + 1) (by omega) ?_ h) fun k => ?_
      · obtain ⟨j, hj, hjf⟩ := hex
        have hj0 : j ≠ 0 := fun e => by rw [e, Nat.add_zero] at hjf; exact hf hjf
        exact ⟨j - 1, by omega, by rw [show s + 1 + (j - 1) = s + j by omega]; exact hjf⟩
      · rw [spec_ClustersOf.l1, if_neg (by omega), ha, if_pos (by omega), if_pos (by omega), rd_nat, if_neg (by omega), wrap_next (n := 100) (by omega) (by omega)]
theorem im_run (i : Nat) (hi : i < l.length) (out : List Int) (ho : out.length ≤ 100) (r : List Int × Bool) : ∀ (d s : Nat), s + d ≤ 100 → (∃ j, j < d ∧ l.getD ((i + (s + j)) % l.length) 0 < 0) →
    Ev (fun k => impl_ClustersOf.l0 k (out ++ [((runF l i d s : Nat) : Int)]) (l.length : Int) (l.length : Int) (wrap64 ((i : Int) + 1)) l) r → Ev (fun k => impl_ClustersOf.l1 k out (l.length : Int) (i : Int) (s : Int) (l.length : Int) (i : Int) l) r := by
  have hr0 := hr
  have hn20 := hn2
  have hn0 := hn
  intro d
  induction d with
  | zero => intro s _ h _; obtain ⟨j, hj, _⟩ := h; omega
  | succ d ih =>
    intro s hs hex h
    have hm := Nat.mod_lt (i + s) (show 0 < l.length by omega)
    rw [runF] at h
    have ha := on_arith (n := l.length) (i := i) (s := s) (by omega) (by omega) (by omega)
    by_cases hf : l.getD ((i + s) % l.length) 0 < 0
    · rw [if_pos hf] at h
      refine Ev.one h fun k => ?_
      rw [impl_ClustersOf.l1, if_neg (by omega), ha, if_pos (by omega), if_pos (by omega), rd_nat, if_neg (by omega), if_pos (by omega)]
    · rw [if_neg hf] at h
      refine Ev.one (ih (s + 1) (by omega) ?_ h) fun k => ?_
      · obtain ⟨j, hj, hjf⟩ := hex
        have hj0 : j ≠ 0 := fun e => by rw [e, Nat.add_zero] at hjf; exact hf hjf
        exact ⟨j - 1, by omega, by rw [show s + 1 + (j - 1) = s + j by omega]; exact hjf⟩
      · rw [impl_ClustersOf.l1, if_neg (by omega), ha, if_pos (by omega), if_pos (by omega), rd_nat, if_pos (by omega), wrap_next (n := 100) (by omega) (by omega)]
theorem free_from (hfree : (-1 : Int) ∈ l) (i : Nat) (hi : i < l.length) : ∃ j, j < l.length ∧ l.getD ((i + (0 + j)) % l.length) 0 < 0 := by
  have hr0 := hr
  have hn20 := hn2
  have hn0 := hn
  obtain ⟨c, hc, he⟩ := List.getElem_of_mem hfree
  refine ⟨(c + l.length - i) % l.length, Nat.mod_lt _ (by omega), ?_⟩
  have e : (i + (0 + (c + l.length - i) % l.length)) % l.length = c := by
    rw [Nat.zero_add, Nat.add_mod_mod, show i + (c + l.length - i) = c + l.length by omega, Nat.add_mod_right, Nat.mod_eq_of_lt hc]
  rw [e, List.getD_eq_getElem?_getD, List.getElem?_eq_getElem hc, he]
  decide
theorem sp_clu (hfree : (-1 : Int) ∈ l) : ∀ (d i : Nat) (out : List Int), i + d = l.length → out.length ≤ i → Ev (fun k => spec_ClustersOf.l0 k (l.length : Int) out l (l.length : Int) (i : Int) l) (cluV l d i out, true) := by
  intro d
  induction d with
  | zero =>
    intro i out hd ho
    exact Ev.end_ fun k => by rw [spec_ClustersOf.l0, if_neg (by omega)]; rfl
  | succ d ih =>
    intro i out hd ho
    have hi : i < l.length := by omega
    have hv := hr i hi
    have hm := Nat.mod_lt (i + l.length - 1) (show 0 < l.length by omega)
    have hp := hr _ hm
    have ha := (prev_arith (n := l.length) (i := i) hn (by omega) hi).1
    rw [cluV]
    have next : ∀ o : List Int, o.length ≤ i + 1 → Ev (fun k => spec_ClustersOf.l0 k (l.length : Int) o l (l.length : Int) (wrap64 ((i : Int) + 1)) l) (cluV l d (i + 1) o, true) := by
      intro o ho2
      rw [wrap_next (n := l.length) hi (by omega)]
      exact ih (i + 1) o (by omega) ho2
    by_cases hf : l.getD i 0 = -1
    · rw [if_pos (Or.inl (by omega))]
      refine Ev.step (f := fun k => spec_ClustersOf.j1 k (l.length : Int) out (i : Int) l (l.length : Int) (i : Int) true l) (fun k => by rw [spec_ClustersOf.l0, if_pos (by omega), if_pos (by omega), if_pos (by omega), rd_nat, if_pos hf]) ?_
      exact Ev.one (next out (by omega)) fun k => by rw [spec_ClustersOf.j1, if_pos rfl]
    · by_cases hq : l.getD ((i + l.length - 1) % l.length) 0 = -1
      · rw [if_neg (by omega)]
        refine Ev.step (f := fun k => spec_ClustersOf.j1 k (l.length : Int) out (i : Int) l (l.length : Int) (i : Int) false l) (fun k => by rw [spec_ClustersOf.l0, if_pos (by omega), if_pos (by omega), if_pos (by omega), rd_nat, if_neg hf, if_neg (by omega), ha, if_pos (by omega), if_pos (by omega), rd_nat, hq]; rfl) ?_
        refine Ev.one (sp_run l hn hn2 hr i hi out (by omega) _ l.length 0 (by omega) (free_from l hn hn2 hr hfree i hi) (next _ (by simp; omega))) fun k => by rw [spec_ClustersOf.j1, if_neg (by decide)]; rfl
      · rw [if_pos (Or.inr (by omega))]
        refine Ev.step (f := fun k => spec_ClustersOf.j1 k (l.length : Int) out (i : Int) l (l.length : Int) (i : Int) true l) (fun k => by rw [spec_ClustersOf.l0, if_pos (by omega), if_pos (by omega), if_pos (by omega), rd_nat, if_neg hf, if_neg (by omega), ha, if_pos (by omega), if_pos (by omega), rd_nat, show (l.getD ((i + l.length - 1) % l.length) 0 != -1) = true by simpa using hq]) ?_
        exact Ev.one (next out (by omega)) fun k => by rw [spec_ClustersOf.j1, if_pos rfl]
theorem im_clu (hfree : (-1 : Int) ∈ l) : ∀ (d i : Nat) (out : List Int), i + d = l.length → out.length ≤ i → Ev (fun k => impl_ClustersOf.l0 k out (l.length : Int) (l.length : Int) (i : Int) l) (cluV l d i out, true) := by
  intro d
  induction d with
  | zero =>
    intro i out hd ho
    exact Ev.end_ fun k => by rw [impl_ClustersOf.l0, if_neg (by omega)]; rfl
  | succ d ih =>
    intro i out hd ho
    have hi : i < l.length := by omega
    have hv := hr i hi
    have hm := Nat.mod_lt (i + l.length - 1) (show 0 < l.length by omega)
    have hp := hr _ hm
    have ha := (prev_arith (n := l.length) (i := i) hn (by omega) hi).2
    rw [cluV]
    have next : ∀ o : List Int, o.length ≤ i + 1 → Ev (fun k => impl_ClustersOf.l0 k o (l.length : Int) (l.length : Int) (wrap64 ((i : Int) + 1)) l) (cluV l d (i + 1) o, true) := by
      intro o ho2
      rw [wrap_next (n := l.length) hi (by omega)]
      exact ih (i + 1) o (by omega) ho2
    by_cases hf : l.getD i 0 < 0
    · rw [if_pos (Or.inl hf)]
      refine Ev.step (f := fun k => impl_ClustersOf.j1 k out (l.length : Int) (i : Int) (l.length : Int) (i : Int) true l) (fun k => by rw [impl_ClustersOf.l0, if_pos (by omega), if_pos (by omega), if_pos (by omega), rd_nat, if_pos hf]) ?_
      exact Ev.one (next out (by omega)) fun k => by rw [impl_ClustersOf.j1, if_pos rfl]
    · by_cases hq : 0 ≤ l.getD ((i + l.length - 1) % l.length) 0
      · rw [if_pos (Or.inr hq)]
        refine Ev.step (f := fun k => impl_ClustersOf.j1 k out (l.length : Int) (i : Int) (l.length : Int) (i : Int) true l) (fun k => by rw [impl_ClustersOf.l0, if_pos (by omega), if_pos (by omega), if_pos (by omega), rd_nat, if_neg hf, if_neg (by omega), ha, if_pos (by omega), if_pos (by omega), rd_nat, decide_eq_true (show l.getD ((i + l.length - 1) % l.length) 0 ≥ 0 from hq)]) ?_
        exact Ev.one (next out (by omega)) fun k => by rw [impl_ClustersOf.j1, if_pos rfl]
      · rw [if_neg (by omega)]
        refine Ev.step (f := fun k => impl_ClustersOf.j1 k out (l.length : Int) (i : Int) (l.length : Int) (i : Int) false l) (fun k => by rw [impl_ClustersOf.l0, if_pos (by omega), if_pos (by omega), if_pos (by omega), rd_nat, if_neg hf, if_neg (by omega), ha, if_pos (by omega), if_pos (by omega), rd_nat, decide_eq_false (show ¬ l.getD ((i + l.length - 1) % l.length) 0 ≥ 0 from hq)]) ?_
        exact Ev.one (im_run l hn hn2 hr i hi out (by omega) _ l.length 0 (by omega) (free_from l hn hn2 hr hfree i hi) (next _ (by simp; omega))) fun k => by rw [impl_ClustersOf.j1, if_neg (by decide)]; rfl
end
theorem tbl_parts {l : List Int} (h : tblB l = true) : 2 ≤ l.length ∧ l.length ≤ 12 ∧ (∀ j, j < l.length → -1 ≤ l.getD j 0 ∧ l.getD j 0 ≤ 999) ∧ (-1 : Int) ∈ l := by
  unfold tblB at h
  simp only [Bool.and_eq_true, decide_eq_true_eq] at h
  exact ⟨by omega, by omega, fun j hj => allT_get h.1.1.2 hj, h.1.2⟩
def clV (l : List Int) : List Int × Bool := if tblB l = true then (cluV l l.length 0 [], true) else ([], false)
theorem clV_len (l : List Int) : (clV l).1.length ≤ l.length := by
  unfold clV
  split
  · have := cluV_len l l.length 0 []; simpa using this
  · simp
theorem spec_Clusters_ev (l : List Int) (hn : l.length ≤ 4611686018427387904) : Ev (fun k => spec_ClustersOf.f k l) (clV l) := by
  unfold spec_ClustersOf.f clV
  refine Ev.bind (prGood_ev l hn) ?_
  cases h : tblB l with
  | false => simp only [Bool.false_eq_true, if_false]; exact Ev.now _
  | true =>
    obtain ⟨h1, h2, h3, h4⟩ := tbl_parts h
    simp only [if_true]
    exact sp_clu l h1 h2 h3 h4 l.length 0 [] (by omega) (by simp)
theorem impl_Clusters_ev (l : List Int) (hn : l.length ≤ 4611686018427387904) : Ev (fun k => impl_ClustersOf.f k l) (clV l) := by
  unfold impl_ClustersOf.f clV
  refine Ev.bind (isTable_ev l hn) ?_
  cases h : tblB l with
  | false => simp only [Bool.false_eq_true, if_false]; exact Ev.now _
  | true =>
    obtain ⟨h1, h2, h3, h4⟩ := tbl_parts h
    simp only [if_true]
    exact im_clu l h1 h2 h3 h4 l.length 0 [] (by omega) (by simp)
theorem FnExactClustersOf (l0 : List Int) (hm : l0.length ≤ maxLen) (hb : l0.length * 8 ≤ 140737488351232) (hw : ∀ x ∈ l0, (Lit.int .i64 x).wf = true) : ∃ k, laws_FnExactClustersOf.f k l0 = some true := by
  refine Ev.rounds ?_
  unfold laws_FnExactClustersOf.f
  rw [szTable_eq l0 (by omega)]
  simp only [Option.bind_some]
  by_cases h : (l0.length : Int) > 1048576
  · rw [if_pos h]
    simp only [show ((-1 : Int) < 0) by decide, if_true]
    exact Ev.now _
  · rw [if_neg h]
    have hn : l0.length ≤ 1048576 := by omega
    have hv := clV_len l0
    simp only [show ¬ ((1048576 : Int) - (l0.length : Int) < 0) by omega, if_false]
    refine Ev.bind (toTable_ev l0 (by omega)) ?_
    refine Ev.bind (spec_Clusters_ev l0 (by omega)) ?_
    refine Ev.bind (toTable_ev l0 (by omega)) ?_
    refine Ev.bind (impl_Clusters_ev l0 (by omega)) ?_
    refine Ev.bind (eqIntS_ev _ _ (by omega)) ?_
    simp only [decide_true, if_true, bne_self_eq_false]
    refine Ev.step (fun k => by rw [laws_FnExactClustersOf.j0, if_neg (by decide)]) ?_
    refine Ev.bind (toTable_ev l0 (by omega)) ?_
    refine Ev.bind (eqTable_ev l0 l0 (by omega)) ?_
    simp only [decide_true, if_true]
    refine Ev.bind (markTable_ev _ 1 (by omega) (by omega)) ?_
    simp only [nneg, if_false]
    refine Ev.bind (eqIntS_ev _ _ (by omega)) ?_
    simp only [decide_true, if_true, bne_self_eq_false]
    refine Ev.step (fun k => by rw [laws_FnExactClustersOf.j1, if_neg (by decide)]) ?_
    refine Ev.bind (markIntS_ev _ 1 (by omega) (by omega)) ?_
    refine Ev.bind (heldIntS_ev _ 1 (by omega) (by omega)) ?_
    simp only [nneg, if_false, if_true]
    refine Ev.bind (toTable_ev l0 (by omega)) ?_
    refine Ev.bind (impl_Clusters_ev l0 (by omega)) ?_
    refine Ev.bind (eqIntS_ev _ _ (by omega)) ?_
    simp only [decide_true, if_true, bne_self_eq_false]
    refine Ev.step (fun k => by rw [laws_FnExactClustersOf.j2, if_neg (by decide)]) ?_
    refine Ev.bind (heldIntS_ev _ 1 (by omega) (by omega)) ?_
    simp only [nneg, if_false, if_true]
    exact Ev.now _

end Go.Proofs.Ytkjapphjolahjaa.Pure
