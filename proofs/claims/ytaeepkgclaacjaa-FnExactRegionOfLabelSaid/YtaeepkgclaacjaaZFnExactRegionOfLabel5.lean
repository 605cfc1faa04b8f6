/- The law FnExactRegionOfLabel: part 5 of the printed functions and the facts on them that its row leans on (merged by this session's slim.py). -/
import Derived.Test.YtaeepkgclaacjaaZFnExactRegionOfLabel4
namespace Go.Proofs.Ytaeepkgclaacjaa.G
open Go.RowKit Go.Proofs.YtaeepkgclaacjaaW.PrintWords Go.Proofs.YtaeepkgclaacjaaW.PrintLast Go.Proofs.YtaeepkgclaacjaaW.PrintMore
set_option linter.unusedVariables false
set_option linter.unusedSimpArgs false
theorem heldIntS_l0 (n : Nat) (hn : n ≤ 1152921504606846976) (m : Int) (hm : 0 ≤ m ∧ m ≤ 1152921504606846976) : ∀ (d k i : Nat), i + d = n → d < k → laws_heldIntS.l0 k (rise n m) (m + i) i = some (m + n) := by
  intro d
  have hl : (rise n m).length = n := by simp [rise]
  induction d with
  | zero =>
    intro k i hd hk
    obtain ⟨k, rfl⟩ := succ_of hk
    obtain rfl : i = n := by omega
    rw [laws_heldIntS.l0, if_neg (by omega)]
  | succ d ih =>
    intro k i hd hk
    obtain ⟨k, rfl⟩ := succ_of hk
    rw [laws_heldIntS.l0, if_pos (by omega), if_pos (by omega), rd_nat, getD_rise _ _ _ (by omega), if_pos rfl, wrap_next (n := n) (by omega) (by omega), wrap_id (x := m + i + 1) (by omega) (by omega)]
    rw [show m + (i : Int) + 1 = m + ((i + 1 : Nat) : Int) by push_cast; omega]
    exact ih k (i + 1) (by omega) (by omega)
theorem heldIntS_ev (n : Nat) (m : Int) (hm : 0 ≤ m ∧ m ≤ 1152921504606846976) (hn : n ≤ 1152921504606846976) : Ev (fun k => laws_heldIntS.f k (rise n m) m) (m + n) := by
  refine Ev.of_all n fun k hk => ?_
  unfold laws_heldIntS.f
  have := heldIntS_l0 n hn m hm n k 0 (by omega) hk
  simpa using this
theorem l1In_eq (a b c : Int) : spec_l1In.f a b c = some (decide (b ≤ a ∧ a ≤ c)) := by
  unfold spec_l1In.f
  split
  · rename_i h; congr 1; rw [Bool.eq_iff_iff]; simp; omega
  · rename_i h; congr 1; rw [Bool.eq_iff_iff]; simp; omega
theorem l1All_l0 (l : List Int) (lo hi : Int) (hn : l.length ≤ 4611686018427387904) : ∀ (d k i : Nat), i + d = l.length → d < k → spec_l1All.l0 k lo hi l (l.length : Int) i = some ((l.drop i).all fun x => decide (lo ≤ x ∧ x ≤ hi)) := by
  intro d
  induction d with
  | zero =>
    intro k i hd hk
    obtain ⟨k, rfl⟩ := succ_of hk
    rw [spec_l1All.l0, if_neg (by omega), List.drop_of_length_le (by omega)]; rfl
  | succ d ih =>
    intro k i hd hk
    obtain ⟨k, rfl⟩ := succ_of hk
    rw [spec_l1All.l0, if_pos (by omega), if_pos (by omega), if_pos (by omega), l1In_eq, Option.bind_some, rd_nat, wrap_next (n := l.length) (by omega) hn, ih k (i + 1) (by omega) (by omega), drop_getD (l := l) (i := i) (by omega), List.all_cons]
    split
    · rename_i h; rw [h, Bool.true_and]
    · rename_i h; rw [Bool.not_eq_true] at h; rw [h, Bool.false_and]
theorem l1All_ev (l : List Int) (lo hi : Int) (hn : l.length ≤ 4611686018427387904) : Ev (fun k => spec_l1All.f k l lo hi) (l.all fun x => decide (lo ≤ x ∧ x ≤ hi)) := by
  refine Ev.of_all l.length fun k hk => ?_
  have := l1All_l0 l lo hi hn l.length k 0 (by omega) hk
  simpa [spec_l1All.f] using this
theorem nneg (n : Nat) : ((1 : Int) + (n : Int) < 0) = False := by simp; omega
end Go.Proofs.Ytaeepkgclaacjaa.G
namespace Go.Proofs.Ytaeepkgclaacjaa.G
open Go.RowKit Go.Proofs.YtaeepkgclaacjaaW.PrintWords Go.Proofs.YtaeepkgclaacjaaW.PrintLast Go.Proofs.YtaeepkgclaacjaaW.PrintMore
set_option linter.unusedVariables false
set_option linter.unusedSimpArgs false
set_option linter.unusedSectionVars false
def ixF (l : List Int) (a : Int) : Nat → Nat → Int
  | 0, _ => -1
  | d + 1, i => if l.getD i 0 = a then (i : Int) else ixF l a d (i + 1)
theorem ixF_spec (l : List Int) (a : Int) : ∀ (d i : Nat), i + d = l.length → (ixF l a d i = -1 ∧ a ∉ l.drop i) ∨ (∃ j : Nat, ixF l a d i = j ∧ j < l.length ∧ l.getD j 0 = a ∧ a ∈ l.drop i)
  | 0, i, h => by left; rw [List.drop_of_length_le (by omega)]; exact ⟨rfl, by simp⟩
  | d + 1, i, h => by
    rw [ixF, drop_getD (by omega)]
    by_cases c : l.getD i 0 = a
    · right; rw [if_pos c]; exact ⟨i, rfl, by omega, c, by rw [c]; simp⟩
    · rw [if_neg c]
      rcases ixF_spec l a d (i + 1) (by omega) with ⟨h1, h2⟩ | ⟨j, h1, h2, h3, h4⟩
      · left; exact ⟨h1, by simp only [List.mem_cons, not_or]; exact ⟨fun e => c e.symm, h2⟩⟩
      · right; exact ⟨j, h1, h2, h3, by simp [h4]⟩
theorem index_l0 (l : List Int) (a : Int) (hn : l.length ≤ 4611686018427387904) : ∀ (d i : Nat), i + d = l.length → Ev (fun k => slices_Index_int_int.l0 k l a (l.length : Int) i) (ixF l a d i) := by
  intro d
  induction d with
  | zero =>
    intro i hd
    exact Ev.end_ fun k => by rw [slices_Index_int_int.l0, if_neg (by omega)]; rfl
  | succ d ih =>
    intro i hd
    rw [ixF]
    by_cases c : l.getD i 0 = a
    · rw [if_pos c]
      refine Ev.end_ fun k => ?_
      rw [slices_Index_int_int.l0, if_pos (by omega), if_pos (by omega), if_pos (by omega), rd_nat, if_pos c.symm]
    · rw [if_neg c]
      refine Ev.one (ih (i + 1) (by omega)) fun k => ?_
      rw [slices_Index_int_int.l0, if_pos (by omega), if_pos (by omega), if_pos (by omega), rd_nat, if_neg (fun e => c e.symm), wrap_next (n := l.length) (by omega) hn]
theorem index_ev (l : List Int) (a : Int) (hn : l.length ≤ 4611686018427387904) : Ev (fun k => slices_Index_int_int.f k l a) (ixF l a l.length 0) := by
  unfold slices_Index_int_int.f
  exact index_l0 l a hn l.length 0 (by omega)
theorem containsI_ev (l : List Int) (a : Int) (hn : l.length ≤ 4611686018427387904) : Ev (fun k => slices_Contains_int_int.f k l a) (decide (a ∈ l)) := by
  unfold slices_Contains_int_int.f
  refine Ev.bind (index_ev l a hn) ?_
  rcases ixF_spec l a l.length 0 (by omega) with ⟨h1, h2⟩ | ⟨j, h1, h2, h3, h4⟩
  · rw [List.drop_zero] at h2
    rw [h1, decide_eq_false h2]
    exact Ev.now _
  · rw [List.drop_zero] at h4
    rw [h1, decide_eq_true h4, show decide (((j : Nat) : Int) ≥ 0) = true from decide_eq_true (by omega)]
    exact Ev.now _
abbrev RV := List Int × List Int × Bool
/-- The label's number of an index behind others, the first f of which are far. -/
def lab (o : List Int) (f : Nat) (i : Int) : Int := ((o.countP (gtP i) : Nat) : Int) + (((o.take f).countP (ltP i) : Nat) : Int)
def farF (o : List Int) (want i : Int) : Nat → Nat → Nat
  | 0, f => f
  | e + 1, f => if lab o f i < want then farF o want i e (f + 1) else f
def lastF (f : List Int) (p : Nat) : Nat := if p = 0 then 0 else (f.getD (p - 1) 0).toNat
def atF (lb o f : List Int) (i : Nat) : Nat := farF o (lb.getD i 0) (i : Int) (o.length - lastF f o.length) (lastF f o.length)
def tryV (rec : List Int → List Int → RV) (lb o f : List Int) : Nat → Nat → RV
  | 0, _ => ([], [], false)
  | e + 1, i => if (i : Int) ∈ o then tryV rec lb o f e (i + 1) else
      if lab o (atF lb o f i) (i : Int) = lb.getD i 0 then (if (rec (o ++ [(i : Int)]) (f ++ [((atF lb o f i : Nat) : Int)])).2.2 = true then rec (o ++ [(i : Int)]) (f ++ [((atF lb o f i : Nat) : Int)]) else tryV rec lb o f e (i + 1)) else tryV rec lb o f e (i + 1)
def goV (lb : List Int) : Nat → List Int → List Int → RV
  | 0, o, f => (o, f, true)
  | d + 1, o, f => tryV (goV lb d) lb o f lb.length 0
theorem farF_spec (o : List Int) (want i : Int) : ∀ (e f : Nat), f ≤ farF o want i e f ∧ farF o want i e f ≤ f + e ∧ (∀ g, f ≤ g → g < farF o want i e f → lab o g i < want) ∧ (farF o want i e f < f + e → ¬ lab o (farF o want i e f) i < want)
  | 0, f => ⟨Nat.le_refl _, Nat.le_refl _, fun g h1 h2 => by rw [farF] at h2; omega, fun h => by rw [farF] at h; omega⟩
  | e + 1, f => by
    rw [farF]
    by_cases c : lab o f i < want
    · rw [if_pos c]
      have ih := farF_spec o want i e (f + 1)
      refine ⟨by omega, by omega, fun g h1 h2 => ?_, fun h => ih.2.2.2 (by omega)⟩
      by_cases q : g = f
      · rw [q]; exact c
      · exact ih.2.2.1 g (by omega) h2
    · rw [if_neg c]
      exact ⟨Nat.le_refl _, by omega, fun g h1 h2 => by omega, fun _ => c⟩
/-- The far numbers of a region that is begun. -/
def FarOk (f : List Int) : Prop := ∀ j, j < f.length → 0 ≤ f.getD j 0 ∧ f.getD j 0 ≤ (j : Int)
theorem FarOk.last {f : List Int} (h : FarOk f) {p : Nat} (hp : p = f.length) : lastF f p ≤ p ∧ (p ≠ 0 → f.getD (p - 1) 0 = ((lastF f p : Nat) : Int)) := by
  unfold lastF
  by_cases c : p = 0
  · rw [if_pos c]; exact ⟨by omega, fun q => absurd c q⟩
  · rw [if_neg c]
    have := h (p - 1) (by omega)
    exact ⟨by omega, fun _ => by omega⟩
theorem atF_le {lb o f : List Int} (hl : lastF f o.length ≤ o.length) (i : Nat) : lastF f o.length ≤ atF lb o f i ∧ atF lb o f i ≤ o.length := by
  have := farF_spec o (lb.getD i 0) (i : Int) (o.length - lastF f o.length) (lastF f o.length)
  unfold atF
  omega
theorem FarOk.snoc {f : List Int} (h : FarOk f) {x : Nat} (hx : x ≤ f.length) : FarOk (f ++ [(x : Int)]) := by
  intro j hj
  rw [List.length_append, List.length_singleton] at hj
  by_cases c : j < f.length
  · rw [List.getD_eq_getElem?_getD, List.getElem?_append_left c, ← List.getD_eq_getElem?_getD]
    exact h j c
  · rw [List.getD_eq_getElem?_getD, List.getElem?_append_right (by omega), show j - f.length = 0 by omega]
    simp only [List.getElem?_cons_zero, Option.getD_some]
    omega
theorem goV_len (lb : List Int) : ∀ (d : Nat) (o f : List Int), (goV lb d o f).1.length ≤ o.length + d ∧ (goV lb d o f).2.1.length ≤ f.length + d
  | 0, o, f => ⟨Nat.le_refl _, Nat.le_refl _⟩
  | d + 1, o, f => by
    rw [goV]
    have key : ∀ e i, (tryV (goV lb d) lb o f e i).1.length ≤ o.length + (d + 1) ∧ (tryV (goV lb d) lb o f e i).2.1.length ≤ f.length + (d + 1) := by
      intro e
      induction e with
      | zero => intro i; rw [tryV]; simp
      | succ e ih =>
        intro i
        have h := goV_len lb d (o ++ [(i : Int)]) (f ++ [((atF lb o f i : Nat) : Int)])
        simp only [List.length_append, List.length_singleton] at h
        rw [tryV]
        split
        · exact ih _
        · split
          · split
            · omega
            · exact ih _
          · exact ih _
    exact key _ _
theorem labelAt_eq (o : List Int) (g : Nat) (i : Int) (hg : g ≤ o.length) (hl : o.length ≤ 1000) : impl_labelAt.f o (g : Int) i = some (lab o g i) := by
  unfold impl_labelAt.f
  rw [if_pos ⟨by omega, by omega, by omega⟩, Int.toNat_natCast]
  rfl
theorem clone_eq (l : List Int) (h : l.length ≤ 1000) : slices_Clone_int_int.f l = some l := by
  unfold slices_Clone_int_int.f
  rw [if_pos (by omega)]
end Go.Proofs.Ytaeepkgclaacjaa.G
namespace Go.Proofs.Ytaeepkgclaacjaa.G
open Go.RowKit Go.Proofs.YtaeepkgclaacjaaW.PrintWords Go.Proofs.YtaeepkgclaacjaaW.PrintLast Go.Proofs.YtaeepkgclaacjaaW.PrintMore
set_option linter.unusedVariables false
set_option linter.unusedSimpArgs false
set_option linter.unusedSectionVars false
section
variable (lb : List Int) (h8 : lb.length ≤ 8)
include h8
theorem regionOf_ev : ∀ (d : Nat) (o f : List Int), o.length + d = lb.length → f.length = o.length → FarOk f → Ev (fun k => impl_regionOf.f k lb o f) (goV lb d o f) := by
  intro d
  induction d with
  | zero =>
    intro o f hd hf hk
    exact Ev.end_ fun k => by rw [impl_regionOf.f, if_pos (by omega)]; rfl
  | succ d ihd =>
    intro o f hd hf hk
    have hlast := hk.last (p := o.length) hf.symm
    rw [goV]
    have loop : ∀ e i, i + e = lb.length → Ev (fun k => impl_regionOf.l0 k lb (o.length : Int) ((lastF f o.length : Nat) : Int) lb (lb.length : Int) (i : Int) o f) (tryV (goV lb d) lb o f e i) := by
      intro e
      induction e with
      | zero =>
        intro i hi
        exact Ev.end_ fun k => by rw [impl_regionOf.l0, if_neg (by omega)]; rfl
      | succ e ihe =>
        intro i hi
        have next := ihe (i + 1) (by omega)
        have hat := atF_le (lb := lb) (o := o) (f := f) hlast.1 i
        refine Ev.step (f := fun k => (slices_Contains_int_int.f k o (i : Int)).bind fun t117 => (if t117 = true then (impl_regionOf.l0 k lb (o.length : Int) ((lastF f o.length : Nat) : Int) lb (lb.length : Int) ((i + 1 : Nat) : Int) o f) else (impl_regionOf.l1 k lb (o.length : Int) ((lastF f o.length : Nat) : Int) (i : Int) (lb.getD i 0) ((lastF f o.length : Nat) : Int) lb (lb.length : Int) (i : Int) o f))) (fun k => by
          rw [impl_regionOf.l0, if_pos (by omega), if_pos (by omega), if_pos (by omega), rd_nat, wrap_next (n := lb.length) (by omega) (by omega)]) ?_
        refine Ev.bind (containsI_ev o (i : Int) (by omega)) ?_
        rw [tryV]
        by_cases hm : (i : Int) ∈ o
        · simp only [hm, decide_true, if_true]
          exact next
        · simp only [hm, decide_false, Bool.false_eq_true, if_false]
          have j3 : Ev (fun k => impl_regionOf.j3 k lb (o.length : Int) ((lastF f o.length : Nat) : Int) (i : Int) (lb.getD i 0) ((atF lb o f i : Nat) : Int) lb (lb.length : Int) (i : Int) o f)
              (if lab o (atF lb o f i) (i : Int) = lb.getD i 0 then (if (goV lb d (o ++ [(i : Int)]) (f ++ [((atF lb o f i : Nat) : Int)])).2.2 = true then goV lb d (o ++ [(i : Int)]) (f ++ [((atF lb o f i : Nat) : Int)]) else tryV (goV lb d) lb o f e (i + 1)) else tryV (goV lb d) lb o f e (i + 1)) := by
            have hw := wrap_next (i := i) (n := lb.length) (by omega) (by omega)
            by_cases c : lab o (atF lb o f i) (i : Int) = lb.getD i 0
            · rw [if_pos c]
              have rec_ := ihd (o ++ [(i : Int)]) (f ++ [((atF lb o f i : Nat) : Int)]) (by simp; omega) (by simp [hf]) (hk.snoc (by omega))
              refine Ev.step (f := fun k => (impl_regionOf.f k lb (o ++ [(i : Int)]) (f ++ [((atF lb o f i : Nat) : Int)])).bind fun bt139 => (if bt139.2.2 = true then (some (bt139.1, bt139.2.1, true)) else (impl_regionOf.l0 k lb (o.length : Int) ((lastF f o.length : Nat) : Int) lb (lb.length : Int) ((i + 1 : Nat) : Int) o f))) (fun k => by
                rw [impl_regionOf.j3, labelAt_eq o _ _ hat.2 (by omega), Option.bind_some, if_pos c, clone_eq o (by omega), clone_eq f (by omega), hw]
                simp only [Option.bind_some, List.length_singleton]
                rw [if_pos (by omega), if_pos (by omega)]) ?_
              refine Ev.bind rec_ ?_
              generalize goV lb d (o ++ [(i : Int)]) (f ++ [((atF lb o f i : Nat) : Int)]) = R at *
              obtain ⟨r1, r2, r3⟩ := R
              cases r3 with
              | true => simp only [if_true]; exact Ev.now _
              | false => simp only [Bool.false_eq_true, if_false]; exact next
            · rw [if_neg c]
              refine Ev.one next fun k => ?_
              rw [impl_regionOf.j3, labelAt_eq o _ _ hat.2 (by omega), Option.bind_some, if_neg c, hw]
          have walk : ∀ e' g, g + e' = o.length → farF o (lb.getD i 0) (i : Int) e' g = atF lb o f i → Ev (fun k => impl_regionOf.l1 k lb (o.length : Int) ((lastF f o.length : Nat) : Int) (i : Int) (lb.getD i 0) (g : Int) lb (lb.length : Int) (i : Int) o f)
              (if lab o (atF lb o f i) (i : Int) = lb.getD i 0 then (if (goV lb d (o ++ [(i : Int)]) (f ++ [((atF lb o f i : Nat) : Int)])).2.2 = true then goV lb d (o ++ [(i : Int)]) (f ++ [((atF lb o f i : Nat) : Int)]) else tryV (goV lb d) lb o f e (i + 1)) else tryV (goV lb d) lb o f e (i + 1)) := by
            intro e'
            induction e' with
            | zero =>
              intro g hg hfar
              rw [farF] at hfar
              refine Ev.one j3 fun k => ?_
              rw [impl_regionOf.l1, if_neg (by omega), hfar]
            | succ e' ihw =>
              intro g hg hfar
              rw [farF] at hfar
              by_cases c : lab o g (i : Int) < lb.getD i 0
              · rw [if_pos c] at hfar
                refine Ev.one (ihw (g + 1) (by omega) hfar) fun k => ?_
                rw [impl_regionOf.l1, if_pos (by omega), labelAt_eq o _ _ (by omega) (by omega), Option.bind_some, if_pos c, wrap_next (n := o.length) (by omega) (by omega)]
              · rw [if_neg c] at hfar
                refine Ev.one j3 fun k => ?_
                rw [impl_regionOf.l1, if_pos (by omega), labelAt_eq o _ _ (by omega) (by omega), Option.bind_some, if_neg c, hfar]
          exact walk _ (lastF f o.length) (by omega) rfl
    have start := loop lb.length 0 (by omega)
    by_cases hp : o.length = 0
    · refine Ev.step (f := fun k => impl_regionOf.j0 k lb (o.length : Int) 0 o f) (fun k => by rw [impl_regionOf.f, if_neg (by omega), if_neg (by omega)]) ?_
      refine Ev.one start fun k => ?_
      rw [impl_regionOf.j0]
      simp [lastF, hp]
    · have hw : wrap64 ((o.length : Int) - 1) = ((o.length - 1 : Nat) : Int) := by rw [wrap_id (by omega) (by omega)]; omega
      refine Ev.step (f := fun k => impl_regionOf.j0 k lb (o.length : Int) ((lastF f o.length : Nat) : Int) o f) (fun k => by rw [impl_regionOf.f, if_neg (by omega), if_pos (by omega), hw, if_pos (by omega), if_pos (by omega), rd_nat, hlast.2 hp]) ?_
      refine Ev.one start fun k => ?_
      rw [impl_regionOf.j0]
      simp
end
end Go.Proofs.Ytaeepkgclaacjaa.G
namespace Go.Proofs.Ytaeepkgclaacjaa.G
open Go.RowKit Go.Proofs.YtaeepkgclaacjaaW.PrintWords Go.Proofs.YtaeepkgclaacjaaW.PrintLast Go.Proofs.YtaeepkgclaacjaaW.PrintMore
set_option linter.unusedVariables false
set_option linter.unusedSimpArgs false
set_option linter.unusedSectionVars false
theorem rl_eqRegion_ev (a b c d : List Int) (h1 : a.length ≤ 1000) (h2 : b.length ≤ 1000) (e1 : a = c) (e2 : b = d) : Ev (fun k => laws_eqRegion.f k a b c d) true := by
  subst e1 e2
  unfold laws_eqRegion.f
  refine Ev.bind (eqIntS_ev a a (by omega)) ?_
  simp only [decide_true, if_true]
  refine Ev.bind (eqIntS_ev b b (by omega)) ?_
  simp only [decide_true, if_true]
  exact Ev.now _
theorem rl_mark_ev (a b : List Int) (h1 : a.length ≤ 1000) (h2 : b.length ≤ 1000) : Ev (fun k => laws_markRegion.f k a b 1) (1 + (a.length : Int) + b.length, rise a.length 1, rise b.length (1 + (a.length : Int))) := by
  unfold laws_markRegion.f
  refine Ev.bind (markIntS_ev a 1 (by omega) (by omega)) ?_
  refine Ev.bind (markIntS_ev b _ (by omega) (by omega)) ?_
  exact Ev.now _
theorem rl_held_ev (m n : Nat) (h1 : m ≤ 1000) (h2 : n ≤ 1000) : Ev (fun k => laws_heldRegion.f k (rise m 1) (rise n (1 + (m : Int))) 1) (1 + (m : Int) + n) := by
  unfold laws_heldRegion.f
  refine Ev.bind (heldIntS_ev m 1 (by omega) (by omega)) ?_
  simp only [show ¬ ((1 : Int) + (m : Int) < 0) by omega, if_false]
  refine Ev.bind (heldIntS_ev n _ (by omega) (by omega)) ?_
  simp only [show ¬ ((1 : Int) + (m : Int) + (n : Int) < 0) by omega, if_false]
  exact Ev.now _
theorem rl_own_eq (q : List Int) (h : q.length < 17592186044416) : spec_l1Own.f q = some q := by
  unfold spec_l1Own.f
  simp only [Option.bind_some, List.length_nil, Nat.zero_add, h, if_true, List.nil_append]
theorem rl_has_l0 (x : List Int) (a : Int) (hn : x.length ≤ 4611686018427387904) : ∀ (d i : Nat), i + d = x.length → Ev (fun k => spec_l1Has.l0 k a x (x.length : Int) i) (decide (a ∈ x.drop i)) := by
  intro d
  induction d with
  | zero =>
    intro i hd
    refine Ev.end_ fun k => ?_
    rw [spec_l1Has.l0, if_neg (by omega), List.drop_of_length_le (by omega)]
    simp
  | succ d ih =>
    intro i hd
    rw [drop_getD (by omega)]
    by_cases c : x.getD i 0 = a
    · refine Ev.end_ fun k => ?_
      rw [spec_l1Has.l0, if_pos (by omega), if_pos (by omega), if_pos (by omega), rd_nat, if_pos c, c]
      simp
    · refine Ev.one (f := fun k => spec_l1Has.l0 k a x (x.length : Int) ((i + 1 : Nat) : Int)) ?_ fun k => ?_
      · have := ih (i + 1) (by omega)
        have e : decide (a ∈ x.getD i 0 :: x.drop (i + 1)) = decide (a ∈ x.drop (i + 1)) := by
          simp only [List.mem_cons, show ¬ a = x.getD i 0 from fun e => c e.symm, false_or]
        rw [e]; exact this
      · rw [spec_l1Has.l0, if_pos (by omega), if_pos (by omega), if_pos (by omega), rd_nat, if_neg c, wrap_next (n := x.length) (by omega) hn]
theorem rl_has_ev (x : List Int) (a : Int) (hn : x.length ≤ 4611686018427387904) : Ev (fun k => spec_l1Has.f k x a) (decide (a ∈ x)) := by
  unfold spec_l1Has.f
  have := rl_has_l0 x a hn x.length 0 (by omega)
  simpa using this
theorem getD_mem' {l : List Int} {i : Nat} (h : i < l.length) : l.getD i 0 ∈ l := by
  rw [List.getD_eq_getElem?_getD, List.getElem?_eq_getElem h]; exact List.getElem_mem h
theorem count_snoc (p : Int → Bool) (o : List Int) {q : Nat} (h : q < o.length) : (((o.take (q + 1)).countP p : Nat) : Int) = (((o.take q).countP p : Nat) : Int) + (if p (o.getD q 0) = true then 1 else 0) := by
  rw [take_succ_getD h, List.countP_append, List.countP_singleton]
  split <;> simp
/-- One index more is far. -/
theorem lab_far (o : List Int) (g : Nat) (i : Int) (h : g < o.length) : lab o (g + 1) i = lab o g i + (if o.getD g 0 < i then 1 else 0) := by
  unfold lab
  rw [count_snoc (ltP i) o h]
  unfold ltP
  simp only [decide_eq_true_eq]
  omega
theorem lab_mono (o : List Int) (i : Int) (g : Nat) : ∀ d, g + d ≤ o.length → lab o g i ≤ lab o (g + d) i
  | 0, _ => Int.le_refl _
  | d + 1, h => by
    have := lab_mono o i g d (by omega)
    have e := lab_far o (g + d) i (by omega)
    rw [show g + (d + 1) = g + d + 1 by omega, e]
    split <;> omega
theorem lab_range (o : List Int) (g : Nat) (i : Int) : 0 ≤ lab o g i ∧ lab o g i ≤ 2 * (o.length : Int) := by
  have h1 := List.countP_le_length (p := gtP i) (l := o)
  have h2 := List.countP_le_length (p := ltP i) (l := o.take g)
  rw [List.length_take] at h2
  unfold lab
  omega
/-- One index more stands there. -/
theorem lab_more (o : List Int) (g : Nat) (i : Int) {q : Nat} (h : q < o.length) (hi : i ∉ o) : lab (o.take (q + 1)) g i = lab (o.take q) g i + (if o.getD q 0 > i then 1 else if q < g then 1 else 0) := by
  have hne : o.getD q 0 ≠ i := fun e => hi (by rw [← e]; exact getD_mem' h)
  unfold lab
  rw [count_snoc (gtP i) o h, List.take_take, List.take_take]
  unfold gtP
  simp only [decide_eq_true_eq]
  by_cases c : q < g
  · rw [Nat.min_eq_right (by omega), Nat.min_eq_right (by omega), count_snoc (ltP i) o h]
    unfold ltP
    simp only [decide_eq_true_eq, c, if_true]
    by_cases c2 : o.getD q 0 > i
    · rw [if_pos (by omega), if_neg (by omega), if_pos c2]; omega
    · rw [if_neg (by omega), if_pos (by omega), if_neg c2]; omega
  · rw [Nat.min_eq_left (by omega), Nat.min_eq_left (by omega)]
    simp only [c, if_false]
    by_cases c2 : o.getD q 0 > i
    · rw [if_pos (by omega)]; omega
    · rw [if_neg (by omega)]; omega
theorem reCount_ev (o : List Int) (g : Nat) (i : Int) (hi : i ∉ o) (hl : o.length ≤ 1000) : Ev (fun k => spec_reCount.f k o (g : Int) i) (lab o g i) := by
  unfold spec_reCount.f
  have := Ev.up0 o.length (fun q => lab (o.take q) g i) (fun k s q => spec_reCount.l0 k (g : Int) i s o (o.length : Int) q) (lab o g i) (fun q hq h => ?_) (Ev.end_ fun k => ?_)
  · simpa [lab] using this
  · have hr := lab_range (o.take q) g i
    have hlt : (o.take q).length ≤ 1000 := by rw [List.length_take]; omega
    rw [lab_more o g i hq hi] at h
    by_cases c : o.getD q 0 > i
    · rw [if_pos c] at h
      refine Ev.one h fun k => ?_
      rw [spec_reCount.l0, if_pos (by omega), if_pos (by omega), if_pos (by omega), rd_nat, if_pos c, wrap_id (x := lab (o.take q) g i + 1) (by omega) (by omega), wrap_next (n := o.length) hq (by omega)]
    · rw [if_neg c] at h
      by_cases c2 : q < g
      · rw [if_pos c2] at h
        refine Ev.one h fun k => ?_
        rw [spec_reCount.l0, if_pos (by omega), if_pos (by omega), if_pos (by omega), rd_nat, if_neg c, if_pos (by omega), wrap_id (x := lab (o.take q) g i + 1) (by omega) (by omega), wrap_next (n := o.length) hq (by omega)]
      · rw [if_neg c2, Int.add_zero] at h
        refine Ev.one h fun k => ?_
        rw [spec_reCount.l0, if_pos (by omega), if_pos (by omega), if_pos (by omega), rd_nat, if_neg c, if_neg (by omega), wrap_next (n := o.length) hq (by omega)]
  · rw [spec_reCount.l0, if_neg (by omega), List.take_length]
end Go.Proofs.Ytaeepkgclaacjaa.G
namespace Go.Proofs.Ytaeepkgclaacjaa.G
open Go.RowKit Go.Proofs.YtaeepkgclaacjaaW.PrintWords Go.Proofs.YtaeepkgclaacjaaW.PrintLast Go.Proofs.YtaeepkgclaacjaaW.PrintMore
set_option linter.unusedVariables false
set_option linter.unusedSimpArgs false
set_option linter.unusedSectionVars false
section
variable (lb : List Int) (h8 : lb.length ≤ 8)
include h8
theorem reGoOn_ev : ∀ (d : Nat) (o f : List Int), o.length + d = lb.length → f.length = o.length → FarOk f → Ev (fun k => spec_reGoOn.f k o f lb) (goV lb d o f) := by
  intro d
  induction d with
  | zero =>
    intro o f hd hf hk
    exact Ev.end_ fun k => by rw [spec_reGoOn.f, if_pos (by omega)]; rfl
  | succ d ihd =>
    intro o f hd hf hk
    have hlast := hk.last (p := o.length) hf.symm
    rw [goV]
    have loop : ∀ e i, i + e = lb.length → Ev (fun k => spec_reGoOn.l0 k lb (o.length : Int) ((lastF f o.length : Nat) : Int) lb (lb.length : Int) (i : Int) o f) (tryV (goV lb d) lb o f e i) := by
      intro e
      induction e with
      | zero =>
        intro i hi
        exact Ev.end_ fun k => by rw [spec_reGoOn.l0, if_neg (by omega)]; rfl
      | succ e ihe =>
        intro i hi
        have next := ihe (i + 1) (by omega)
        have hat := atF_le (lb := lb) (o := o) (f := f) hlast.1 i
        have hsp := farF_spec o (lb.getD i 0) (i : Int) (o.length - lastF f o.length) (lastF f o.length)
        rw [show farF o (lb.getD i 0) (i : Int) (o.length - lastF f o.length) (lastF f o.length) = atF lb o f i from rfl] at hsp
        refine Ev.step (f := fun k => (spec_l1Has.f k o (i : Int)).bind fun t240 => (if t240 = true then (spec_reGoOn.l0 k lb (o.length : Int) ((lastF f o.length : Nat) : Int) lb (lb.length : Int) ((i + 1 : Nat) : Int) o f) else (spec_reGoOn.l1 k lb (o.length : Int) ((lastF f o.length : Nat) : Int) (i : Int) (lb.getD i 0) ((lastF f o.length : Nat) : Int) lb (lb.length : Int) (i : Int) o f))) (fun k => by
          rw [spec_reGoOn.l0, if_pos (by omega), if_pos (by omega), if_pos (by omega), rd_nat, wrap_next (n := lb.length) (by omega) (by omega)]) ?_
        refine Ev.bind (rl_has_ev o (i : Int) (by omega)) ?_
        rw [tryV]
        by_cases hm : (i : Int) ∈ o
        · simp only [hm, decide_true, if_true]
          exact next
        · simp only [hm, decide_false, Bool.false_eq_true, if_false]
          -- one far number that is tried: past, or not
          have go : ∀ (g : Nat) (R : RV), lastF f o.length ≤ g → g ≤ o.length →
              (∀ b : Bool, (b = true ↔ (lastF f o.length < g ∧ o.getD (g - 1) 0 > (i : Int)) ∨ lab o g (i : Int) ≠ lb.getD i 0) → Ev (fun k => spec_reGoOn.j3 k lb (o.length : Int) ((lastF f o.length : Nat) : Int) (i : Int) (lb.getD i 0) (g : Int) lb (lb.length : Int) (i : Int) b o f) R) →
              Ev (fun k => spec_reGoOn.l1 k lb (o.length : Int) ((lastF f o.length : Nat) : Int) (i : Int) (lb.getD i 0) (g : Int) lb (lb.length : Int) (i : Int) o f) R := by
            intro g R hg1 hg2 h
            by_cases c : lastF f o.length < g
            · have hw : wrap64 ((g : Int) - 1) = ((g - 1 : Nat) : Int) := by rw [wrap_id (by omega) (by omega)]; omega
              by_cases c2 : o.getD (g - 1) 0 > (i : Int)
              · refine Ev.one (h true ⟨fun _ => .inl ⟨c, c2⟩, fun _ => rfl⟩) fun k => ?_
                rw [spec_reGoOn.l1, if_pos (by omega), if_pos (by omega), hw, if_pos (by omega), if_pos (by omega), rd_nat, if_pos c2]
              · refine Ev.step (f := fun k => (spec_reCount.f k o (g : Int) (i : Int)).bind fun t242 => (spec_reGoOn.j3 k lb (o.length : Int) ((lastF f o.length : Nat) : Int) (i : Int) (lb.getD i 0) (g : Int) lb (lb.length : Int) (i : Int) (t242 != lb.getD i 0) o f)) (fun k => by
                  rw [spec_reGoOn.l1, if_pos (by omega), if_pos (by omega), hw, if_pos (by omega), if_pos (by omega), rd_nat, if_neg c2]) ?_
                refine Ev.bind (reCount_ev o g (i : Int) hm (by omega)) ?_
                exact h _ ⟨fun e => .inr (bne_iff_ne.1 e), fun e => bne_iff_ne.2 (e.resolve_left fun q => c2 q.2)⟩
            · refine Ev.step (f := fun k => (spec_reCount.f k o (g : Int) (i : Int)).bind fun t243 => (spec_reGoOn.j3 k lb (o.length : Int) ((lastF f o.length : Nat) : Int) (i : Int) (lb.getD i 0) (g : Int) lb (lb.length : Int) (i : Int) (t243 != lb.getD i 0) o f)) (fun k => by
                rw [spec_reGoOn.l1, if_pos (by omega), if_neg (by omega)]) ?_
              refine Ev.bind (reCount_ev o g (i : Int) hm (by omega)) ?_
              exact h _ ⟨fun e => .inr (bne_iff_ne.1 e), fun e => bne_iff_ne.2 (e.resolve_left fun q => c q.1)⟩
          have past : ∀ (g : Nat) (R : RV), g ≤ o.length → Ev (fun k => spec_reGoOn.l1 k lb (o.length : Int) ((lastF f o.length : Nat) : Int) (i : Int) (lb.getD i 0) ((g + 1 : Nat) : Int) lb (lb.length : Int) (i : Int) o f) R →
              Ev (fun k => spec_reGoOn.j3 k lb (o.length : Int) ((lastF f o.length : Nat) : Int) (i : Int) (lb.getD i 0) (g : Int) lb (lb.length : Int) (i : Int) true o f) R := fun g R hg h =>
            Ev.one h fun k => by rw [spec_reGoOn.j3, if_pos rfl, wrap_next (n := g + 1) (by omega) (by omega)]
          -- behind the number that fits, none does
          have behind : ∀ e' g, g + e' = o.length + 1 → atF lb o f i < g → Ev (fun k => spec_reGoOn.l1 k lb (o.length : Int) ((lastF f o.length : Nat) : Int) (i : Int) (lb.getD i 0) (g : Int) lb (lb.length : Int) (i : Int) o f) (tryV (goV lb d) lb o f e (i + 1)) := by
            intro e'
            induction e' with
            | zero =>
              intro g hg hlt
              refine Ev.one next fun k => ?_
              rw [spec_reGoOn.l1, if_neg (by omega), wrap_next (n := lb.length) (by omega) (by omega)]
            | succ e' ihb =>
              intro g hg hlt
              refine go g _ (by omega) (by omega) (fun b hb => ?_)
              have hbt : b = true := by
                rw [hb]
                by_cases c2 : o.getD (g - 1) 0 > (i : Int)
                · exact .inl ⟨by omega, c2⟩
                · right
                  have hne : o.getD (g - 1) 0 ≠ (i : Int) := fun q => hm (by rw [← q]; exact getD_mem' (by omega))
                  have h1 := lab_far o (g - 1) (i : Int) (by omega)
                  rw [show g - 1 + 1 = g by omega, if_pos (by omega)] at h1
                  have h2 := lab_mono o (i : Int) (atF lb o f i) (g - 1 - atF lb o f i) (by omega)
                  rw [show atF lb o f i + (g - 1 - atF lb o f i) = g - 1 by omega] at h2
                  have h3 := hsp.2.2.2 (by omega)
                  omega
              subst hbt
              exact past g _ (by omega) (ihb (g + 1) (by omega) (by omega))
          have upto : ∀ e' g, g + e' = atF lb o f i → lastF f o.length ≤ g → Ev (fun k => spec_reGoOn.l1 k lb (o.length : Int) ((lastF f o.length : Nat) : Int) (i : Int) (lb.getD i 0) (g : Int) lb (lb.length : Int) (i : Int) o f)
              (if lab o (atF lb o f i) (i : Int) = lb.getD i 0 then (if (goV lb d (o ++ [(i : Int)]) (f ++ [((atF lb o f i : Nat) : Int)])).2.2 = true then goV lb d (o ++ [(i : Int)]) (f ++ [((atF lb o f i : Nat) : Int)]) else tryV (goV lb d) lb o f e (i + 1)) else tryV (goV lb d) lb o f e (i + 1)) := by
            intro e'
            induction e' with
            | zero =>
              intro g hg hlg
              obtain rfl : g = atF lb o f i := by omega
              refine go (atF lb o f i) _ (by omega) (by omega) (fun b hb => ?_)
              have bh := behind (o.length - atF lb o f i) (atF lb o f i + 1) (by omega) (by omega)
              by_cases c : lab o (atF lb o f i) (i : Int) = lb.getD i 0
              · rw [if_pos c]
                have hbf : b = false := by
                  cases b with
                  | false => rfl
                  | true =>
                    rcases hb.1 rfl with ⟨q1, q2⟩ | q
                    · have h1 := lab_far o (atF lb o f i - 1) (i : Int) (by omega)
                      rw [show atF lb o f i - 1 + 1 = atF lb o f i by omega, if_neg (by omega)] at h1
                      have h2 := hsp.2.2.1 (atF lb o f i - 1) (by omega) (by omega)
                      omega
                    · exact absurd c q
                subst hbf
                have rec_ := ihd (o ++ [(i : Int)]) (f ++ [((atF lb o f i : Nat) : Int)]) (by simp; omega) (by simp [hf]) (hk.snoc (by omega))
                have hw := wrap_next (i := atF lb o f i) (n := atF lb o f i + 1) (by omega) (by omega)
                refine Ev.step (f := fun k => (spec_reGoOn.f k (o ++ [(i : Int)]) (f ++ [((atF lb o f i : Nat) : Int)]) lb).bind fun bt263 => (if bt263.2.2 = true then (some (bt263.1, bt263.2.1, true)) else (spec_reGoOn.l1 k lb (o.length : Int) ((lastF f o.length : Nat) : Int) (i : Int) (lb.getD i 0) ((atF lb o f i + 1 : Nat) : Int) lb (lb.length : Int) (i : Int) o f))) (fun k => by
                  rw [spec_reGoOn.j3, if_neg (by decide), rl_own_eq o (by omega), rl_own_eq f (by omega), hw]
                  simp only [Option.bind_some, List.length_singleton]
                  rw [if_pos (by omega), if_pos (by omega)]) ?_
                refine Ev.bind rec_ ?_
                generalize goV lb d (o ++ [(i : Int)]) (f ++ [((atF lb o f i : Nat) : Int)]) = R at *
                obtain ⟨r1, r2, r3⟩ := R
                cases r3 with
                | true => simp only [if_true]; exact Ev.now _
                | false => simp only [Bool.false_eq_true, if_false]; exact bh
              · rw [if_neg c]
                obtain rfl : b = true := hb.2 (.inr c)
                exact past _ _ (by omega) bh
            | succ e' ihu =>
              intro g hg hlg
              have hlt := hsp.2.2.1 g hlg (by omega)
              refine go g _ (by omega) (by omega) (fun b hb => ?_)
              obtain rfl : b = true := hb.2 (.inr (by omega))
              exact past g _ (by omega) (ihu (g + 1) (by omega) (by omega))
          exact upto (atF lb o f i - lastF f o.length) (lastF f o.length) (by omega) (Nat.le_refl _)
    have start := loop lb.length 0 (by omega)
    by_cases hp : o.length = 0
    · refine Ev.step (f := fun k => spec_reGoOn.j0 k lb (o.length : Int) 0 o f) (fun k => by rw [spec_reGoOn.f, if_neg (by omega), if_neg (by omega)]) ?_
      refine Ev.one start fun k => ?_
      rw [spec_reGoOn.j0]
      simp [lastF, hp]
    · have hw : wrap64 ((o.length : Int) - 1) = ((o.length - 1 : Nat) : Int) := by rw [wrap_id (by omega) (by omega)]; omega
      refine Ev.step (f := fun k => spec_reGoOn.j0 k lb (o.length : Int) ((lastF f o.length : Nat) : Int) o f) (fun k => by rw [spec_reGoOn.f, if_neg (by omega), if_pos (by omega), hw, if_pos (by omega), if_pos (by omega), rd_nat, hlast.2 hp]) ?_
      refine Ev.one start fun k => ?_
      rw [spec_reGoOn.j0]
      simp
end
end Go.Proofs.Ytaeepkgclaacjaa.G
namespace ParkT
/-- The first free place from a on, of d places. -/
def fwdF (S : Nat → Bool) : Nat → Nat → Option Nat
  | 0, _ => none
  | d + 1, a => if S a = false then some a else fwdF S d (a + 1)
theorem fwdF_some {S : Nat → Bool} : ∀ {d a p : Nat}, fwdF S d a = some p → a ≤ p ∧ p < a + d ∧ S p = false ∧ ∀ q, a ≤ q → q < p → S q = true
  | 0, a, p, h => by simp [fwdF] at h
  | d + 1, a, p, h => by
    unfold fwdF at h
    split at h
    · obtain rfl := Option.some.inj h
      exact ⟨Nat.le_refl _, by omega, ‹_›, fun q h1 h2 => by omega⟩
    · rename_i hs
      obtain ⟨h1, h2, h3, h4⟩ := fwdF_some h
      refine ⟨by omega, by omega, h3, fun q hq1 hq2 => ?_⟩
      rcases Nat.lt_or_ge a q with h5 | h5
      · exact h4 q (by omega) hq2
      · have : q = a := by omega
        rw [this]; simpa using hs
/-- How many of the places a, .., a + d - 1 are taken. -/
def cnt (S : Nat → Bool) : Nat → Nat → Nat
  | 0, _ => 0
  | d + 1, a => (if S a = true then 1 else 0) + cnt S d (a + 1)
def put (S : Nat → Bool) (p : Nat) : Nat → Bool := fun q => decide (q = p) || S q
/-- No more places are taken from any place on. -/
def Dom (N : Nat) (S' S : Nat → Bool) : Prop := ∀ j, j ≤ N → cnt S' (N - j) j ≤ cnt S (N - j) j
theorem Dom.refl (N : Nat) (S : Nat → Bool) : Dom N S S := fun _ _ => Nat.le_refl _
def driveS (N : Nat) : (Nat → Bool) → List Nat → List (Option Nat)
  | _, [] => []
  | S, a :: l => match fwdF S (N - a) a with
    | none => none :: driveS N S l
    | some p => some p :: driveS N (put S p) l
end ParkT
namespace Go.Proofs.Ytaeepkgclaacjaa.G
open Go.RowKit Go.Proofs.YtaeepkgclaacjaaW.PrintWords Go.Proofs.YtaeepkgclaacjaaW.PrintLast Go.Proofs.YtaeepkgclaacjaaW.PrintMore
set_option linter.unusedVariables false
set_option linter.unusedSimpArgs false
/-- Every car finds a place. -/
def allP (N : Nat) : (Nat → Bool) → List Nat → Bool
  | _, [] => true
  | S, a :: l => match ParkT.fwdF S (N - a) a with
    | none => false
    | some p => allP N (ParkT.put S p) l
theorem allP_lt {N : Nat} : ∀ (l : List Nat) (S : Nat → Bool), allP N S l = true → ∀ a ∈ l, a < N
  | [], _, _, a, h => by simp at h
  | b :: l, S, h, a, ha => by
    rw [allP] at h
    cases e : ParkT.fwdF S (N - b) b with
    | none => rw [e] at h; cases h
    | some p =>
      rw [e] at h
      have hb := ParkT.fwdF_some e
      rcases List.mem_cons.1 ha with rfl | ha
      · omega
      · exact allP_lt l _ h a ha
def valP : Option Nat → Int
  | none => -1
  | some p => p
theorem allP_iff {N : Nat} : ∀ (l : List Nat) (S : Nat → Bool), allP N S l = !decide ((-1 : Int) ∈ (ParkT.driveS N S l).map valP)
  | [], _ => by simp [allP, ParkT.driveS]
  | a :: l, S => by
    rw [allP, ParkT.driveS]
    cases e : ParkT.fwdF S (N - a) a with
    | none => simp [valP]
    | some p =>
      simp only [List.map_cons, List.mem_cons, valP, allP_iff l]
      congr 1
      have : ¬ ((-1 : Int) = (p : Int)) := by omega
      simp [this]
def occ (x : List Int) (q : Nat) : Bool := decide ((q : Int) ∈ x)
theorem occ_none (x : List Int) : occ (x ++ [-1]) = occ x := by
  funext q
  unfold occ
  have : ¬ ((q : Int) = -1) := by omega
  simp [this]
theorem occ_some (x : List Int) (p : Nat) : occ (x ++ [(p : Int)]) = ParkT.put (occ x) p := by
  funext q
  unfold occ ParkT.put
  have : ((q : Int) = (p : Int)) ↔ q = p := by omega
  simp [this, Bool.or_comm]
theorem l1Has_l0 (x : List Int) (a : Int) (hn : x.length ≤ 4611686018427387904) : ∀ (d i : Nat), i + d = x.length → Ev (fun k => spec_l1Has.l0 k a x (x.length : Int) i) (decide (a ∈ x.drop i)) := by
  intro d
  induction d with
  | zero =>
    intro i hd
    refine Ev.end_ fun k => ?_
    rw [spec_l1Has.l0, if_neg (by omega), List.drop_eq_nil_of_le (by omega)]
    simp
  | succ d ih =>
    intro i hd
    have e1 := drop_getD (l := x) (i := i) (by omega)
    by_cases h : x.getD i 0 = a
    · refine Ev.end_ fun k => ?_
      rw [spec_l1Has.l0, if_pos (by omega), if_pos (by omega), if_pos (by omega), rd_nat, if_pos h, e1, h, decide_eq_true (List.mem_cons_self)]
    · refine Ev.one (f := fun k => spec_l1Has.l0 k a x (x.length : Int) ((i + 1 : Nat) : Int)) ?_ fun k => ?_
      · have := ih (i + 1) (by omega)
        have e : decide (a ∈ x.drop i) = decide (a ∈ x.drop (i + 1)) := by
          rw [e1]
          have : ¬ a = x.getD i 0 := fun e => h e.symm
          simp only [List.mem_cons, this, false_or]
        rw [e]; exact this
      · rw [spec_l1Has.l0, if_pos (by omega), if_pos (by omega), if_pos (by omega), rd_nat, if_neg h, wrap_next (n := x.length) (by omega) hn]
theorem l1Has_ev (x : List Int) (a : Int) (hn : x.length ≤ 4611686018427387904) : Ev (fun k => spec_l1Has.f k x a) (decide (a ∈ x)) := by
  unfold spec_l1Has.f
  have := l1Has_l0 x a hn x.length 0 (by omega)
  simpa using this
theorem paDrive_l1 (N : Nat) (hN : N ≤ 1000) (x l : List Int) (hx : x.length ≤ 1000) (len : Int) (i : Int) (r : List Int) : ∀ (d a : Nat), a + d = N → Ev (fun k => spec_paDrive.l0 k (N : Int) (x ++ [valP (ParkT.fwdF (occ x) d a)]) l len (wrap64 (i + 1))) r → Ev (fun k => spec_paDrive.l1 k (N : Int) x (a : Int) l len i) r := by
  intro d
  induction d with
  | zero =>
    intro a ha h
    refine Ev.one h fun k => ?_
    rw [spec_paDrive.l1, if_neg (by omega), if_pos (by omega), if_pos (by omega)]
    rfl
  | succ d ih =>
    intro a ha h
    rw [ParkT.fwdF] at h
    refine Ev.step (f := fun k => (spec_l1Has.f k x (a : Int)).bind fun t369 => (if t369 = true then (spec_paDrive.l1 k (N : Int) x ((a + 1 : Nat) : Int) l len i) else (spec_paDrive.l0 k (N : Int) (x ++ [(a : Int)]) l len (wrap64 (i + 1))))) (fun k => by rw [spec_paDrive.l1, if_pos (by omega), wrap_next (n := N) (by omega) (by omega), if_neg (show ¬ ((a : Int) ≥ (N : Int)) by omega), if_pos (by omega)]) ?_
    refine Ev.bind (l1Has_ev x _ (by omega)) ?_
    by_cases hh : occ x a = true
    · rw [if_neg (by rw [hh]; simp)] at h
      have e : decide ((a : Int) ∈ x) = true := hh
      simp only [e, if_true]
      exact ih (a + 1) (by omega) h
    · rw [if_pos (by simpa using hh)] at h
      have e : decide ((a : Int) ∈ x) = false := by simpa [occ] using hh
      simp only [e, Bool.false_eq_true, if_false]
      exact h
def natL (l : List Int) : List Nat := l.map Int.toNat
theorem paDrive_l0 (l : List Int) (N : Nat) (hN : N ≤ 1000) (hl : l.length ≤ 900) (hr : ∀ j, j < l.length → 0 ≤ l.getD j 0 ∧ l.getD j 0 ≤ N) : ∀ (d i : Nat) (x : List Int), i + d = l.length → x.length ≤ i → Ev (fun k => spec_paDrive.l0 k (N : Int) x l (l.length : Int) i) (x ++ (ParkT.driveS N (occ x) (natL (l.drop i))).map valP) := by
  intro d
  induction d with
  | zero =>
    intro i x hd hx
    refine Ev.end_ fun k => ?_
    rw [spec_paDrive.l0, if_neg (by omega), List.drop_eq_nil_of_le (by omega)]
    simp [natL, ParkT.driveS]
  | succ d ih =>
    intro i x hd hx
    have hi : i < l.length := by omega
    have hri := hr i hi
    obtain ⟨a, ha⟩ : ∃ a : Nat, l.getD i 0 = a := ⟨(l.getD i 0).toNat, by omega⟩
    refine Ev.one (f := fun k => spec_paDrive.l1 k (N : Int) x (a : Int) l (l.length : Int) (i : Int)) ?_ fun k => by rw [spec_paDrive.l0, if_pos (by omega), if_pos (by omega), if_pos (by omega), rd_nat, ha]
    refine paDrive_l1 N hN x l (by omega) _ _ _ (N - a) a (by omega) ?_
    rw [wrap_next (n := l.length) hi (by omega)]
    have := ih (i + 1) (x ++ [valP (ParkT.fwdF (occ x) (N - a) a)]) (by omega) (by simp; omega)
    have e : x ++ (ParkT.driveS N (occ x) (natL (l.drop i))).map valP = x ++ [valP (ParkT.fwdF (occ x) (N - a) a)] ++ (ParkT.driveS N (occ (x ++ [valP (ParkT.fwdF (occ x) (N - a) a)])) (natL (l.drop (i + 1)))).map valP := by
      rw [drop_getD hi, ha]
      show x ++ (ParkT.driveS N (occ x) ((a : Int).toNat :: natL (l.drop (i + 1)))).map valP = _
      rw [Int.toNat_natCast, ParkT.driveS]
      cases hf : ParkT.fwdF (occ x) (N - a) a with
      | none => simp [valP, occ_none]
      | some p => simp [valP, occ_some]
    rw [e]
    exact this
def parkB (l : List Int) : Bool := decide (l.length ≤ 8) && (l.all fun x => decide (0 ≤ x ∧ x ≤ (l.length : Int) - 1)) && allP l.length (fun _ => false) (natL l)
theorem all_get {l : List Int} {lo hi : Int} (h : (l.all fun x => decide (lo ≤ x ∧ x ≤ hi)) = true) {j : Nat} (hj : j < l.length) : lo ≤ l.getD j 0 ∧ l.getD j 0 ≤ hi := by
  rw [List.all_eq_true] at h
  have := h l[j] (List.getElem_mem hj)
  rw [List.getD_eq_getElem?_getD, List.getElem?_eq_getElem hj]
  simpa using this
theorem paParking_ev (l : List Int) (hn : l.length ≤ 4611686018427387904) : Ev (fun k => spec_paParking.f k l) (parkB l) := by
  unfold spec_paParking.f parkB
  by_cases h8 : l.length ≤ 8
  · simp only [show ((l.length : Int) ≤ 8) from by omega, if_true]
    rw [decide_eq_true h8, Bool.true_and, wrap_id (x := (l.length : Int) - 1) (by omega) (by omega)]
    refine Ev.bind (l1All_ev l _ _ hn) ?_
    cases ha : (l.all fun x => decide (0 ≤ x ∧ x ≤ (l.length : Int) - 1)) with
    | false => simp only [Bool.false_eq_true, if_false, Bool.false_and]; exact Ev.now _
    | true =>
      simp only [if_true, Bool.true_and]
      unfold spec_paAll.f
      have hd : Ev (fun k => spec_paDrive.f k l (l.length : Int)) ((ParkT.driveS l.length (fun _ => false) (natL l)).map valP) := by
        unfold spec_paDrive.f
        have := paDrive_l0 l l.length (by omega) (by omega) (fun j hj => by have := all_get ha hj; omega) l.length 0 [] (by omega) (by simp)
        have eo : occ [] = fun _ => false := by funext q; simp [occ]
        rw [eo] at this
        simpa using this
      have hlen : ∀ (l : List Nat) (N : Nat) (S : Nat → Bool), (ParkT.driveS N S l).length = l.length := by
        intro l
        induction l with
        | nil => intro N S; rfl
        | cons a l ih =>
          intro N S
          rw [ParkT.driveS]
          cases ParkT.fwdF S (N - a) a <;> simp [ih]
      refine Ev.bind ?_ (Ev.now _)
      refine Ev.bind hd ?_
      refine Ev.bind (l1Has_ev _ _ (by rw [List.length_map, hlen]; simp [natL]; omega)) ?_
      rw [allP_iff]
      exact Ev.now _
  · simp only [show ¬ ((l.length : Int) ≤ 8) from by omega, if_false]
    rw [decide_eq_false h8, Bool.false_and, Bool.false_and]
    exact Ev.now _
def taken (x : List Bool) (q : Nat) : Bool := x.getD q false
theorem drive_l1 (N : Nat) (hN : N ≤ 1000) (x : List Bool) (hx : x.length = N) (o l : List Int) (ho : o.length ≤ 1000) (len i : Int) (r : List Int × Bool) :
    ∀ (d a : Nat), a + d = N → (match ParkT.fwdF (taken x) d a with | none => r = ([], false) | some p => Ev (fun k => impl_drive.l0 k (N : Int) (x.set p true) (o ++ [(p : Int)]) l len (wrap64 (i + 1))) r) → Ev (fun k => impl_drive.l1 k (N : Int) x o (a : Int) l len i) r := by
  intro d
  induction d with
  | zero =>
    intro a ha h
    rw [ParkT.fwdF] at h
    subst h
    exact Ev.end_ fun k => by rw [impl_drive.l1, if_neg (by omega), if_pos (by omega)]
  | succ d ih =>
    intro a ha h
    rw [ParkT.fwdF] at h
    have hrd : rdOf false x (a : Int) = taken x a := by simp [rdOf, taken]
    by_cases hh : taken x a = true
    · rw [if_neg (by rw [hh]; simp)] at h
      refine Ev.one (ih (a + 1) (by omega) h) fun k => ?_
      rw [impl_drive.l1, if_pos (by omega), if_pos (by omega), if_pos (by omega), if_pos (by rw [hrd]; exact hh), wrap_next (n := N) (by omega) (by omega)]
    · rw [if_pos (by simpa using hh)] at h
      simp only at h
      refine Ev.one h fun k => ?_
      rw [impl_drive.l1, if_pos (by omega), if_pos (by omega), if_pos (by omega), if_neg (by rw [hrd]; exact hh), if_neg (by omega), if_pos (by omega), Int.toNat_natCast]
theorem drive_past (N : Nat) (x : List Bool) (o l : List Int) (len i a : Int) (ha : (N : Int) ≤ a) : Ev (fun k => impl_drive.l1 k (N : Int) x o a l len i) (([] : List Int), false) :=
  Ev.end_ fun k => by rw [impl_drive.l1, if_neg (by omega), if_pos (by omega)]
theorem taken_set {x : List Bool} {p : Nat} (hp : p < x.length) : taken (x.set p true) = ParkT.put (taken x) p := by
  funext q
  show (x.set p true).getD q false = (decide (q = p) || x.getD q false)
  rw [List.getD_eq_getElem?_getD, List.getD_eq_getElem?_getD, List.getElem?_set]
  by_cases e : p = q
  · subst e; simp [hp]
  · have : ¬ q = p := fun h => e h.symm
    simp [e, this]
/-- The places, where every car finds one. -/
def outP' (N : Nat) : (Nat → Bool) → List Nat → List Int
  | _, [] => []
  | S, a :: l => match ParkT.fwdF S (N - a) a with
    | none => []
    | some p => (p : Int) :: outP' N (ParkT.put S p) l
theorem drive_l0 (l : List Int) (N : Nat) (hN : N ≤ 1000) (hl : l.length ≤ 900) (hr : ∀ j, j < l.length → 0 ≤ l.getD j 0) : ∀ (d i : Nat) (x : List Bool) (o : List Int), i + d = l.length → x.length = N → o.length ≤ i → Ev (fun k => impl_drive.l0 k (N : Int) x o l (l.length : Int) i) (if allP N (taken x) (natL (l.drop i)) = true then (o ++ outP' N (taken x) (natL (l.drop i)), true) else ([], false)) := by
  intro d
  induction d with
  | zero =>
    intro i x o hd hx ho
    refine Ev.end_ fun k => ?_
    rw [impl_drive.l0, if_neg (by omega), List.drop_eq_nil_of_le (by omega)]
    simp [natL, allP, outP']
  | succ d ih =>
    intro i x o hd hx ho
    have hi : i < l.length := by omega
    have hri := hr i hi
    obtain ⟨a, ha⟩ : ∃ a : Nat, l.getD i 0 = a := ⟨(l.getD i 0).toNat, by omega⟩
    refine Ev.one (f := fun k => impl_drive.l1 k (N : Int) x o (a : Int) l (l.length : Int) (i : Int)) ?_ fun k => by rw [impl_drive.l0, if_pos (by omega), if_pos (by omega), if_pos (by omega), rd_nat, ha]
    have e0 : natL (l.drop i) = a :: natL (l.drop (i + 1)) := by
      rw [drop_getD hi, ha]
      show (a : Int).toNat :: natL (l.drop (i + 1)) = _
      rw [Int.toNat_natCast]
    rw [e0, allP, outP']
    by_cases hlt : a < N
    · refine drive_l1 N hN x hx o l (by omega) _ _ _ (N - a) a (by omega) ?_
      cases hf : ParkT.fwdF (taken x) (N - a) a with
      | none => simp
      | some p =>
        have hp := ParkT.fwdF_some hf
        simp only
        rw [wrap_next (n := l.length) hi (by omega)]
        have := ih (i + 1) (x.set p true) (o ++ [(p : Int)]) (by omega) (by simpa using hx) (by simp; omega)
        rw [taken_set (by omega)] at this
        simpa using this
    · have e1 : N - a = 0 := by omega
      rw [e1, ParkT.fwdF]
      simp only [Bool.false_eq_true, if_false]
      exact drive_past N x o l _ _ _ (by omega)
theorem isParking_ev (l : List Int) : Ev (fun k => impl_isParking.f k l) (parkB l) := by
  unfold impl_isParking.f impl_areCars.f
  by_cases h8 : l.length ≤ 8
  · simp only [show ((l.length : Int) ≤ 8) from by omega, if_true, impl_areBetween.f, Option.bind_some]
    cases hb : (l.all fun x => decide (0 ≤ x) && decide (x ≤ 99)) with
    | false =>
      simp only [Bool.false_eq_true, if_false]
      have : parkB l = false := by
        unfold parkB
        rw [decide_eq_true h8, Bool.true_and]
        have h1 : (l.all fun x => decide (0 ≤ x ∧ x ≤ (l.length : Int) - 1)) = false := by
          rw [List.all_eq_false] at hb ⊢
          obtain ⟨x, hx, hn⟩ := hb
          refine ⟨x, hx, ?_⟩
          simp at hn ⊢
          omega
        rw [h1, Bool.false_and]
      rw [this]
      exact Ev.now _
    | true =>
      simp only [if_true]
      have hr : ∀ j, j < l.length → 0 ≤ l.getD j 0 := by
        intro j hj
        rw [List.all_eq_true] at hb
        have := hb l[j] (List.getElem_mem hj)
        rw [List.getD_eq_getElem?_getD, List.getElem?_eq_getElem hj]
        simp at this ⊢
        exact this.1
      have hd : Ev (fun k => impl_drive.f k l (l.length : Int)) (if allP l.length (fun _ => false) (natL l) = true then (outP' l.length (fun _ => false) (natL l), true) else ([], false)) := by
        unfold impl_drive.f
        simp only [show (0 : Int) ≤ (l.length : Int) by omega, Int.toNat_natCast, show l.length ≤ 281474976710656 by omega, if_true]
        have := drive_l0 l l.length (by omega) (by omega) hr l.length 0 (List.replicate l.length false) [] (by omega) (by simp) (by simp)
        have et : taken (List.replicate l.length false) = fun _ => false := by
          funext q
          unfold taken
          rw [List.getD_eq_getElem?_getD, List.getElem?_replicate]
          split <;> rfl
        rw [et] at this
        simpa using this
      refine Ev.bind hd ?_
      have e : parkB l = allP l.length (fun _ => false) (natL l) := by
        unfold parkB
        rw [decide_eq_true h8, Bool.true_and]
        cases ha : allP l.length (fun _ => false) (natL l) with
        | false => rw [Bool.and_false]
        | true =>
          rw [Bool.and_true, List.all_eq_true]
          intro x hx
          have h1 := allP_lt _ _ ha x.toNat (List.mem_map.2 ⟨x, hx, rfl⟩)
          obtain ⟨j, hj, rfl⟩ := List.getElem_of_mem hx
          have h2 := hr j hj
          rw [List.getD_eq_getElem?_getD, List.getElem?_eq_getElem hj] at h2
          simp at h2
          exact decide_eq_true (by omega)
      rw [e]
      cases allP l.length (fun _ => false) (natL l) with
      | true => simp only [if_true]; exact Ev.now _
      | false => simp only [Bool.false_eq_true, if_false]; exact Ev.now _
  · simp only [show ¬ ((l.length : Int) ≤ 8) from by omega, if_false, Option.bind_some, Bool.false_eq_true]
    unfold parkB
    rw [decide_eq_false h8, Bool.false_and, Bool.false_and]
    exact Ev.now _
end Go.Proofs.Ytaeepkgclaacjaa.G
namespace Go.Proofs.Ytaeepkgclaacjaa.Pure
open Go.RowKit Go.Proofs.Ytaeepkgclaacjaa.G Go.Proofs.YtaeepkgclaacjaaW.PrintWords Go.Proofs.YtaeepkgclaacjaaW.PrintLast
set_option linter.unusedVariables false
set_option linter.unusedSimpArgs false
def rlV (l : List Int) : RV := if parkB l = true then goV l l.length [] [] else ([], [], false)
theorem park_len {l : List Int} (h : parkB l = true) : l.length ≤ 8 := by
  unfold parkB at h
  simp only [Bool.and_eq_true, decide_eq_true_eq] at h
  exact h.1.1
theorem rlV_len (l : List Int) : (rlV l).1.length ≤ 8 ∧ (rlV l).2.1.length ≤ 8 := by
  unfold rlV
  split
  · rename_i h
    have := goV_len l l.length [] []
    have := park_len h
    simp only [List.length_nil, Nat.zero_add] at *
    omega
  · simp
theorem impl_Label_ev (l : List Int) : Ev (fun k => impl_RegionOfLabel.f k l) (rlV l) := by
  unfold impl_RegionOfLabel.f rlV
  refine Ev.bind (isParking_ev l) ?_
  cases h : parkB l with
  | false => simp only [Bool.false_eq_true, if_false]; exact Ev.now _
  | true =>
    simp only [if_true]
    refine Ev.bind (regionOf_ev l (park_len h) l.length [] [] (by simp) rfl (fun j hj => by simp at hj)) ?_
    exact Ev.now _
theorem spec_Label_ev (l : List Int) (hn : l.length ≤ 4611686018427387904) : Ev (fun k => spec_RegionOfLabel.f k l) (rlV l) := by
  unfold spec_RegionOfLabel.f rlV
  refine Ev.bind (paParking_ev l hn) ?_
  cases h : parkB l with
  | false => simp only [Bool.false_eq_true, if_false]; exact Ev.now _
  | true =>
    simp only [if_true]
    refine Ev.bind (reGoOn_ev l (park_len h) l.length [] [] (by simp) rfl (fun j hj => by simp at hj)) ?_
    exact Ev.now _
theorem FnExactRegionOfLabel : laws_FnExactRegionOfLabel.Pure := by
  intro l0 hm hb hw
  refine Ev.rounds ?_
  unfold laws_FnExactRegionOfLabel.f
  have hl := rlV_len l0
  by_cases h : (l0.length : Int) > 1048576
  · simp only [h, if_true]; exact Ev.now _
  · simp only [h, if_false]
    have hn : l0.length ≤ 1048576 := by omega
    refine Ev.bind (toIntS_ev l0 (by omega)) ?_
    refine Ev.bind (spec_Label_ev l0 (by omega)) ?_
    refine Ev.bind (toIntS_ev l0 (by omega)) ?_
    refine Ev.bind (impl_Label_ev l0) ?_
    refine Ev.bind (rl_eqRegion_ev _ _ _ _ (by omega) (by omega) rfl rfl) ?_
    simp only [if_true, bne_self_eq_false]
    refine Ev.step (fun k => by rw [laws_FnExactRegionOfLabel.j0, if_neg (by decide)]) ?_
    refine Ev.bind (toIntS_ev l0 (by omega)) ?_
    refine Ev.bind (eqIntS_ev l0 l0 (by omega)) ?_
    simp only [decide_true, if_true]
    refine Ev.bind (markIntS_ev l0 1 (by omega) (by omega)) ?_
    simp only [nneg, if_false]
    refine Ev.bind (rl_eqRegion_ev _ _ _ _ (by omega) (by omega) rfl rfl) ?_
    simp only [if_true, bne_self_eq_false]
    refine Ev.step (fun k => by rw [laws_FnExactRegionOfLabel.j1, if_neg (by decide)]) ?_
    refine Ev.bind (rl_mark_ev _ _ (by omega) (by omega)) ?_
    refine Ev.bind (rl_held_ev _ _ (by omega) (by omega)) ?_
    simp only [show ¬ ((1 : Int) + ((rlV l0).1.length : Int) + ((rlV l0).2.1.length : Int) < 0) by omega, if_false, if_true]
    refine Ev.bind (toIntS_ev l0 (by omega)) ?_
    refine Ev.bind (impl_Label_ev l0) ?_
    refine Ev.bind (rl_eqRegion_ev _ _ _ _ (by omega) (by omega) rfl rfl) ?_
    simp only [if_true, bne_self_eq_false]
    refine Ev.step (fun k => by rw [laws_FnExactRegionOfLabel.j2, if_neg (by decide)]) ?_
    refine Ev.bind (rl_held_ev _ _ (by omega) (by omega)) ?_
    simp only [show ¬ ((1 : Int) + ((rlV l0).1.length : Int) + ((rlV l0).2.1.length : Int) < 0) by omega, if_false, if_true]
    exact Ev.now _
end Go.Proofs.Ytaeepkgclaacjaa.Pure
namespace Go.Proofs.YtaeepkgclaacjaaW.PrintWords
open Go.ChangeShapes Go.WideShapes
theorem sized_ints {H : Type} {enc : TypeId × Value → H} {P : Program} {W : World} {base : Nat} {spare : Nat → Bool} {held : Bool} {t e : TypeId} {k : IntKind} {a : Option Addr} {len cap : Nat} {d : DataW H} {ps : List MemPlace} {ts : List TypeId} {ds : List (DataW H)} {j : Nat}
    (hsz : (DataW.weightsEach P ts ds).all (· ≤ reachBytes) = true) (ht : ts[j]? = some t) (hd : ds[j]? = some d) (hu : P.underlying t = some (.slice e)) (he : P.underlying e = some (.int k)) (hc : P.cellsOf e = 1) {B : Nat} (hB : P.bytesOf e = B)
    (h : DataW.Trod enc P W base spare held t (.slice a len cap) d ps) : len * B ≤ 140737488351232 := by
  obtain ⟨fuel, hf⟩ := h
  rcases open_ints hu he hc hf with ⟨hcs, _⟩ | ⟨x, l, c, zs, hcs, _, hl, _, hz, hx, _, _⟩
  · simp [Value.cells] at hcs
    obtain ⟨rfl, rfl, rfl⟩ := hcs
    simp
  · simp [Value.cells] at hcs
    obtain ⟨rfl, rfl, rfl⟩ := hcs
    obtain ⟨hx, _⟩ := Prod.mk.inj hx
    subst hx
    have z := sized_slice hsz ht hd hu
    rw [hB] at z
    have hl2 : len ≤ zs.length := by
      rw [hz]
      split
      · exact hl
      · exact Nat.le_refl _
    have h1 : (lits (H := H) k (zs.take len)).length + (lits (H := H) k (zs.drop len)).length = zs.length := by
      simp [lits]
      omega
    rw [h1] at z
    exact Nat.le_trans (Nat.mul_le_mul_right _ hl2) z
end Go.Proofs.YtaeepkgclaacjaaW.PrintWords
namespace Go.Proofs.Ytaeepkgclaacjaa.fnExactRegionOfLabel
open Go.ChangeShapes Go.WideShapes Go.ChangeAt Go.RowKit
open Go.ChangeMaps (open_string shut_string)
set_option linter.unusedVariables false
theorem own : ownKnob Try.prog.godebug = none := by kernel_rfl
theorem laidOut : laidOutB Try.prog = true := by kernel_rfl
def IsRow (k : IntKind) (w : World) (a : Option Addr) (len cap : Nat) (zs : List Int) : Prop :=
  (a = none ∧ len = 0 ∧ cap = 0 ∧ zs = []) ∨
  ∃ x, a = some x ∧ len ≤ cap ∧ cap ≤ maxLen ∧ zs.length = cap ∧ (∀ i, i < zs.length → w.cell? (x.add i) = some (.int k (zs.getD i 0))) ∧ ∀ n ∈ zs, (Lit.int k n).wf = true
set_option maxRecDepth 100000 in
theorem lifted (os : Os) (started : os.Started) (H : Type) (enc : TypeId × Value → H) :
    ReturnsInHanded {} Try.checked os 4 .any (Rows.fnExactRegionOfLabelSpec.pre6 enc Try.prog Try.f4 Rows.fnExactRegionOfLabelRow.domain false) (Rows.fnExactRegionOfLabelSpec.post enc Try.prog Try.f4 false true false false) := by
  refine returnsInHanded_of_change_sized (C := Try.checked) own started (by kernel_rfl) Try.func4
    (ChangeSpec.witness6 (enc := enc) (C := Try.checked) false ⟨#[], #[.slice none 0 0], []⟩ 8 (by kernel_rfl) (by kernel_rfl) (by kernel_rfl) (by kernel_rfl)) ?_
  intro W base args ds gs before hval0 hW hcnd hsz0 _
  have hsz : (DataW.weightsEach Try.prog (Try.f4.params.toList ++ Rows.fnExactRegionOfLabelSpec.plain.varTypes Try.prog) (ds ++ gs)).all (· ≤ reachBytes) = true := hsz0
  have hval : ∀ (j : Nat) t v, Try.f4.params[j]? = some t → args[j]? = some v → Value.okWide Try.prog W .any base t v := hval0
  have hW' := hW
  obtain ⟨p, q, hA0, hV, rfl, hfz, hnd⟩ := hW
  have hA : DataW.TrodAll enc Try.prog W 0 (fun _ => true) true Try.f4.params.toList args.toList ds p := hA0
  rw [Try.params4] at hA hval hsz
  obtain ⟨v0, vs0, d0, ds0, p0, q0, hargs, rfl, rfl, h0, r0⟩ := trodAll_cons hA
  obtain ⟨rfl, rfl, rfl⟩ := trodAll_nil r0
  obtain rfl : args = #[v0] := by cases args; simp_all
  obtain ⟨rfl, rfl⟩ := trodVars_none hV
  obtain ⟨a0, len0, cap0, rfl⟩ := okWide_slice Try.underlying22 (hval 0 22 v0 rfl rfl)
  have k0 := h0
  have lt0 : ∀ x ∈ p0, x.block < W.heap.size := by obtain ⟨m, hm⟩ := k0; exact DataW.trod_lt m _ _ _ hm
  obtain ⟨z0, w0⟩ : ∃ zs, IsRow .i64 W a0 len0 cap0 zs := by
    obtain ⟨fuel, hf⟩ := h0
    rcases open_ints Try.underlying22 Try.underlying3 (by kernel_rfl) hf with ⟨hcs, _⟩ | ⟨x, l, c, zs, hcs, _, hl, hm, hz, _, hcell, hwz⟩
    · simp [Value.cells] at hcs
      obtain ⟨rfl, rfl, rfl⟩ := hcs
      exact ⟨[], .inl ⟨rfl, rfl, rfl, rfl⟩⟩
    · simp [Value.cells] at hcs
      obtain ⟨rfl, rfl, rfl⟩ := hcs
      exact ⟨zs, .inr ⟨_, rfl, hl, hm, by simpa using hz, hcell, hwz⟩⟩
  have y0 : len0 * 8 ≤ 140737488351232 := Go.Proofs.YtaeepkgclaacjaaW.PrintWords.sized_ints hsz (j := 0) (t := 22) rfl rfl Try.underlying22 Try.underlying3 (by kernel_rfl) (by kernel_rfl) h0
  clear hA0 hval0 hsz0 hsz
  refine (G.laws_FnExactRegionOfLabel.walk Pure.FnExactRegionOfLabel a0 len0 cap0 z0 W w0 y0).mono fun e W' ⟨he, bel⟩ => ?_
  subst he
  exact ⟨_, rfl, _, _, _, [], _, [], hW', trodAll_mk1 (shut_bool Try.underlying4 _), (trodAll_cons_mk (Below.trod laidOut (by kernel_rfl) (of_decide_eq_true (by kernel_rfl)) k0 bel lt0) trodAll_mk0), rfl, bel.frame _, fun h => by cases h⟩
theorem over : Rows.fnExactRegionOfLabelRow.holds Try.pinned (OpenSpec.ofChange Rows.fnExactRegionOfLabelSpec) :=
  OpenClaim.holds_of_wide 4 Try.f4 rfl rfl rfl rfl rfl rfl rfl ⟨rfl, rfl, rfl, rfl, rfl⟩ rfl rfl rfl rfl rfl (by kernel_rfl) Try.func4 (by kernel_rfl)
    (of_decide_eq_true (by kernel_rfl)) (by unfold Func.isWrapper; first | (rw [if_pos (by decide +kernel)]; kernel_rfl) | (rw [if_neg (by decide +kernel)]; exact ⟨rfl, rfl⟩))
    (fun os started H enc _ => lifted os started H enc)
theorem proved : Rows.FnExactRegionOfLabelSaid := over
#print axioms proved
end Go.Proofs.Ytaeepkgclaacjaa.fnExactRegionOfLabel
namespace Go.Proofs.Ytaeepkgclaacjaa
/-- The row, under a short name, for the claim. -/
theorem fnExactRegionOfLabel_holds : Rows.FnExactRegionOfLabelSaid := fnExactRegionOfLabel.proved
end Go.Proofs.Ytaeepkgclaacjaa
