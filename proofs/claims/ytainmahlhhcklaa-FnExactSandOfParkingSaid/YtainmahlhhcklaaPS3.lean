/- Pure facts on printed functions: settling, in the reference and in the program. -/
import Derived.Test.YtainmahlhhcklaaGx20
import Derived.Test.YtainmahlhhcklaaGx21
import Derived.Test.YtainmahlhhcklaaGx23
import Derived.Test.YtainmahlhhcklaaGx24
import Derived.Test.YtainmahlhhcklaaPS1
import Derived.Test.YtainmahlhhcklaaGvS
namespace Go.Proofs.Ytainmahlhhcklaa.G
open Go.RowKit Go.Proofs.YtainmahlhhcklaaW.PrintWords Go.Proofs.YtainmahlhhcklaaW.PrintLast Go.Proofs.YtainmahlhhcklaaW.PrintMore
set_option linter.unusedVariables false
set_option linter.unusedSimpArgs false

theorem get_le_sum : ∀ {c : List Int}, SandT.Nonneg c → ∀ j, c.getD j 0 ≤ c.sum
  | [], _, j => by simp
  | x :: c, h, 0 => by
    have := SandT.nn_sum (c := c) (fun j => by simpa using h (j + 1))
    simp; omega
  | x :: c, h, j + 1 => by
    have h0 := h 0
    have := get_le_sum (c := c) (fun j => by simpa using h (j + 1)) j
    simp at h0 this ⊢; omega
theorem sum_le {B : Int} : ∀ {c : List Int}, (∀ j, c.getD j 0 ≤ B) → 0 ≤ B → c.sum ≤ c.length * B
  | [], _, _ => by simp
  | x :: c, h, hB => by
    have h0 := h 0
    have := sum_le (c := c) (fun j => by simpa using h (j + 1)) hB
    simp only [List.getD_cons_zero] at h0
    simp only [List.sum_cons, List.length_cons]
    push_cast
    rw [Int.add_mul]; omega
/-- Sand that is far from the ends of the numbers. -/
structure Mild (c : List Int) : Prop where
  nn : SandT.Nonneg c
  len : c.length ≤ 1000
  sum : c.sum ≤ 1000000
theorem Mild.get {c : List Int} (h : Mild c) (j : Nat) : -1000000 ≤ c.getD j 0 ∧ c.getD j 0 ≤ 1000000 := by
  have := get_le_sum h.nn j
  have := h.nn j
  have := h.sum
  omega
theorem Mild.topl {c : List Int} (h : Mild c) {i : Nat} (e : SandT.first c = some i) : Mild (SandT.topl c i) := by
  have hi := SandT.first_some e
  exact ⟨SandT.nn_topl h.nn hi.2, by simpa using h.len, by rw [SandT.sum_topl _ _ hi.1]; have := h.sum; omega⟩
theorem sandB_nn {l : List Int} (h : sandB l = true) : SandT.Nonneg l := fun j => (sandB_get h j).1
theorem sandB_sum {l : List Int} (h : sandB l = true) : l.sum ≤ 480 := by
  have := sum_le (c := l) (B := 60) (fun j => (sandB_get h j).2) (by omega)
  have := sandB_len h
  omega
theorem sandB_mild {l : List Int} (h : sandB l = true) : Mild l := ⟨sandB_nn h, by have := sandB_len h; omega, by have := sandB_sum h; omega⟩
theorem plus_sum (a b : List Int) (h : a.length = b.length) : (SandT.plus a b).sum = a.sum + b.sum := by
  induction a generalizing b with
  | nil =>
    have : b = [] := List.length_eq_zero_iff.1 h.symm
    subst this; simp [SandT.plus]
  | cons x a ih =>
    cases b with
    | nil => simp at h
    | cons y b =>
      have e : SandT.plus (x :: a) (y :: b) = (x + y) :: SandT.plus a b := by
        simp [SandT.plus, List.mapIdx_cons]
      rw [e, List.sum_cons, ih b (by simpa using h)]
      simp only [List.sum_cons]; omega
theorem plus_mild {a b : List Int} (ha : SandT.Nonneg a) (hb : SandT.Nonneg b) (h : a.length = b.length) (hl : a.length ≤ 1000) (hs : a.sum + b.sum ≤ 1000000) : Mild (SandT.plus a b) := ⟨SandT.nn_plus ha hb, by simpa using hl, by rw [plus_sum _ _ h]; exact hs⟩

def asI (s : List Nat) : List Int := s.map fun (i : Nat) => (i : Int)
theorem asI_len (s : List Nat) : (asI s).length = s.length := by simp [asI]
theorem stab_len : ∀ (N : Nat) {c : List Int}, SandT.Nonneg c → c.sum ≤ N → (SandT.stab c).2.length ≤ N := by
  intro N
  induction N with
  | zero =>
    intro c h hs
    cases e : SandT.first c with
    | none => rw [SandT.stab_end e]; simp
    | some i =>
      have hi := SandT.first_some e
      have := SandT.nn_sum (SandT.nn_topl h hi.2)
      rw [SandT.sum_topl _ _ hi.1] at this
      omega
  | succ N ih =>
    intro c h hs
    cases e : SandT.first c with
    | none => rw [SandT.stab_end e]; simp
    | some i =>
      have hi := SandT.first_some e
      rw [SandT.stab_step h e]
      have := ih (SandT.nn_topl h hi.2) (by rw [SandT.sum_topl _ _ hi.1]; omega)
      simpa using this
theorem stab_mild {c : List Int} (h : Mild c) : Mild (SandT.stab c).1 := by
  refine ⟨SandT.nn_stab h.nn, by simpa using h.len, ?_⟩
  have key : ∀ (N : Nat) {c : List Int}, SandT.Nonneg c → c.sum ≤ N → (SandT.stab c).1.sum ≤ c.sum := by
    intro N
    induction N with
    | zero =>
      intro c h hs
      cases e : SandT.first c with
      | none => rw [SandT.stab_end e]; exact Int.le_refl _
      | some i =>
        have hi := SandT.first_some e
        have := SandT.nn_sum (SandT.nn_topl h hi.2)
        rw [SandT.sum_topl _ _ hi.1] at this
        omega
    | succ N ih =>
      intro c h hs
      cases e : SandT.first c with
      | none => rw [SandT.stab_end e]; exact Int.le_refl _
      | some i =>
        have hi := SandT.first_some e
        rw [SandT.stab_step h e]
        show (SandT.stab (SandT.topl c i)).1.sum ≤ c.sum
        have := ih (SandT.nn_topl h hi.2) (by rw [SandT.sum_topl _ _ hi.1]; omega)
        rw [SandT.sum_topl _ _ hi.1] at this
        omega
  have := key c.sum.toNat h.nn (by omega)
  have := h.sum
  omega

theorem reSettle_l0 : ∀ (N : Nat) (c out : List Int), Mild c → c.sum ≤ N → out.length + N ≤ 2000000 → Ev (fun k => spec_reSettle.l0 k c out (firstI c)) ((SandT.stab c).1, out ++ asI (SandT.stab c).2) := by
  have stop : ∀ (c out : List Int), SandT.first c = none → Ev (fun k => spec_reSettle.l0 k c out (firstI c)) ((SandT.stab c).1, out ++ asI (SandT.stab c).2) := by
    intro c out e
    refine Ev.end_ fun k => ?_
    rw [spec_reSettle.l0, firstI, e, if_neg (by simp), SandT.stab_end e]
    simp [asI]
  intro N
  induction N with
  | zero =>
    intro c out h hs ho
    cases e : SandT.first c with
    | none => exact stop c out e
    | some i =>
      have hi := SandT.first_some e
      have := SandT.nn_sum (h.topl e).nn
      rw [SandT.sum_topl _ _ hi.1] at this
      omega
  | succ N ih =>
    intro c out h hs ho
    cases e : SandT.first c with
    | none => exact stop c out e
    | some i =>
      have hi := SandT.first_some e
      have hl := h.len
      have fi : firstI c = (i : Int) := by rw [firstI, e]
      rw [fi]
      refine Ev.step (f := fun k => (spec_reTopple.f k c (i : Int)).bind fun t => (if out.length < 17592186044416 then ((spec_reFirst.f k t).bind fun u => (spec_reSettle.l0 k t (out ++ [(i : Int)]) u)) else none)) (fun k => by rw [spec_reSettle.l0, if_pos (by omega)]) ?_
      refine Ev.bind (reTopple_ev c h.len (by omega) h.get i) ?_
      simp only [show out.length < 17592186044416 by omega, if_true]
      refine Ev.bind (reFirst_ev _ (by rw [SandT.length_topl]; omega)) ?_
      have := ih (SandT.topl c i) (out ++ [(i : Int)]) (h.topl e) (by rw [SandT.sum_topl _ _ hi.1]; omega) (by simp; omega)
      rw [SandT.stab_step h.nn e]
      simpa [asI] using this
theorem reSettle_ev {c : List Int} (h : Mild c) : Ev (fun k => spec_reSettle.f k c) ((SandT.stab c).1, asI (SandT.stab c).2) := by
  have hl := h.len
  unfold spec_reSettle.f spec_l1Own.f
  simp only [Option.bind_some, List.length_nil, show 0 + c.length < 17592186044416 by omega, if_true, List.nil_append]
  refine Ev.bind (reFirst_ev _ (by omega)) ?_
  have h0 := SandT.nn_sum h.nn
  have h1 := h.sum
  have := reSettle_l0 c.sum.toNat c [] h (by omega) (by simp; omega)
  simpa using this

theorem firstUp_eq (c : List Int) : firstUp c = firstI c := by
  unfold firstUp firstI
  cases e : SandT.first c with
  | none =>
    refine idxF_miss _ _ _ fun j hj => ?_
    have := SandT.first_none e j hj
    simpa using this
  | some i =>
    have hi := SandT.first_some e
    have := idxF_hit (fun x => decide ((c.length : Int) ≤ x)) c i 0 hi.1 (fun j hj => ?_) (by simpa using hi.2)
    · simpa using this
    · unfold SandT.first at e
      rw [List.findIdx?_eq_some_iff_getElem] at e
      obtain ⟨h1, _, h3⟩ := e
      have := h3 j hj
      rw [List.getD_eq_getElem?_getD, List.getElem?_eq_getElem (by omega)]
      simpa using this
theorem topple_at (l : List Int) (hl : l.length ≤ 1000) {B : Int} (hB : B ≤ 1000000) (hb : ∀ j, -B ≤ l.getD j 0 ∧ l.getD j 0 ≤ B) (i : Nat) (hi : i < l.length) : impl_topple.f 2000 l (i : Int) = some (SandT.topl l i) := by
  have hR : (l.map (· + 1)).length = l.length := by simp
  have hg : ∀ q, q < l.length → (l.map (· + 1)).getD q 0 = l.getD q 0 + 1 := by
    intro q hq
    simp [List.getD_eq_getElem?_getD, List.getElem?_eq_getElem hq]
  have key : ∀ (d k q : Nat), q + d = l.length → d < k → impl_topple.l0 k (mixed (l.map (· + 1)) l q) (i : Int) (l.length : Int) q = some (SandT.topl l i) := by
    intro d
    induction d with
    | zero =>
      intro k q hd hk
      obtain ⟨k, rfl⟩ := succ_of hk
      obtain rfl : q = l.length := by omega
      have hbi := hb i
      rw [mixed_full hR, impl_topple.l0, if_neg (by omega), if_pos (by omega), if_pos (by omega), rd_nat, hg i hi, Int.toNat_natCast, List.length_map, wrap_id (x := (l.length : Int) + 1) (by omega) (by omega), wrap_id (by omega) (by omega)]
      congr 1
      rw [SandT.topl]
      congr 1
      omega
    | succ d ih =>
      intro k q hd hk
      obtain ⟨k, rfl⟩ := succ_of (Nat.lt_of_le_of_lt (Nat.zero_le _) hk)
      have hq : q < l.length := by omega
      have hbq := hb q
      rw [impl_topple.l0, if_pos (by omega), if_pos (by omega), if_pos (by rw [length_mixed hR]; omega), rd_nat, getD_mixed hR hq, Int.toNat_natCast, wrap_id (x := l.getD q 0 + 1) (by omega) (by omega), set_mixed hR hq (hg q hq), wrap_next (n := l.length) hq (by omega)]
      exact ih k (q + 1) (by omega) (by omega)
  have := key l.length 2000 0 (by omega) (by omega)
  unfold impl_topple.f
  simpa [mixed_zero] using this
theorem settle_go : ∀ (N k : Nat) (c out : List Int), N < k → Mild c → c.sum ≤ N → out.length + N ≤ 2000000 → impl_settle.go k c out = some ((SandT.stab c).1, out ++ asI (SandT.stab c).2) := by
  have stop : ∀ (k : Nat) (c out : List Int), SandT.first c = none → impl_settle.go (k + 1) c out = some ((SandT.stab c).1, out ++ asI (SandT.stab c).2) := by
    intro k c out e
    rw [impl_settle.go, firstUp_eq, firstI, e, if_pos (by simp), SandT.stab_end e]
    simp [asI]
  intro N
  induction N with
  | zero =>
    intro k c out hk h hs ho
    obtain ⟨k, rfl⟩ := succ_of hk
    cases e : SandT.first c with
    | none => exact stop k c out e
    | some i =>
      have hi := SandT.first_some e
      have := SandT.nn_sum (h.topl e).nn
      rw [SandT.sum_topl _ _ hi.1] at this
      omega
  | succ N ih =>
    intro k c out hk h hs ho
    obtain ⟨k, rfl⟩ := succ_of (Nat.lt_of_le_of_lt (Nat.zero_le _) hk)
    cases e : SandT.first c with
    | none => exact stop k c out e
    | some i =>
      have hi := SandT.first_some e
      have hl := h.len
      have fi : firstUp c = (i : Int) := by rw [firstUp_eq, firstI, e]
      rw [impl_settle.go, fi, if_neg (by omega), topple_at c h.len (by omega) h.get i hi.1, Option.bind_some, if_pos (by omega)]
      have := ih k (SandT.topl c i) (out ++ [(i : Int)]) (by omega) (h.topl e) (by rw [SandT.sum_topl _ _ hi.1]; omega) (by simp; omega)
      rw [SandT.stab_step h.nn e, this]
      simp [asI]
theorem settle_eq {c : List Int} (h : Mild c) : impl_settle.f c = some ((SandT.stab c).1, asI (SandT.stab c).2) := by
  have hl := h.len
  have h0 := SandT.nn_sum h.nn
  have h1 := h.sum
  unfold impl_settle.f
  rw [if_pos (by omega), settle_go 1000000 1000002 c [] (by omega) h (by omega) (by simp)]
  simp

/-! ### StabilizeSand -/
def cnt (n : Nat) (s : List Nat) : List Int := (List.range n).map fun j => ((s.count j : Nat) : Int)
theorem cnt_len (n : Nat) (s : List Nat) : (cnt n s).length = n := by simp [cnt]
theorem cnt_get {n : Nat} (s : List Nat) {j : Nat} (hj : j < n) : (cnt n s).getD j 0 = (s.count j : Int) := by simp [cnt, List.getD_eq_getElem?_getD, hj]
theorem cnt_nil (n : Nat) : cnt n [] = List.replicate n 0 := by
  apply List.ext_getElem
  · simp [cnt]
  · intro j h1 h2; simp [cnt]
theorem cnt_snoc {n : Nat} (s : List Nat) {i : Nat} (hi : i < n) : (cnt n s).set i ((s.count i : Int) + 1) = cnt n (s ++ [i]) := by
  apply List.ext_getElem
  · simp [cnt]
  · intro j h1 h2
    rw [List.getElem_set]
    simp only [cnt, List.getElem_map, List.getElem_range, List.count_append, List.count_singleton]
    by_cases e : i = j
    · subst e; simp
    · simp [e]
def stabV (l : List Int) : List Int × List Int × Bool := if sandB l = true then ((SandT.stab l).1, cnt l.length (SandT.stab l).2, true) else ([], [], false)
theorem stab_lt (c : List Int) : ∀ i ∈ (SandT.stab c).2, i < c.length := SandT.legal_lt _ _ (SandT.stab_legal c)
theorem asI_get (s : List Nat) {q : Nat} (hq : q < s.length) : (asI s).getD q 0 = ((s[q] : Nat) : Int) := by simp [asI, List.getD_eq_getElem?_getD, hq]
theorem spec_stab_l0 (r : List Int) (n : Nat) (s : List Nat) (hs : ∀ i ∈ s, i < n) (hl : s.length ≤ 4000000) : Ev (fun k => spec_StabilizeSand.l0 k r (List.replicate n 0) (asI s) ((asI s).length : Int) 0) (r, cnt n s, true) := by
  have := Ev.up0 s.length (fun q => cnt n (s.take q)) (fun k x q => spec_StabilizeSand.l0 k r x (asI s) ((asI s).length : Int) q) (r, cnt n s, true) (fun q hq h => Ev.one h fun k => ?_) (Ev.end_ fun k => ?_)
  · simpa [cnt_nil] using this
  · have hm : s[q] ∈ s := List.getElem_mem _
    have hlt := hs _ hm
    have hc : (s.take q).count s[q] ≤ q := Nat.le_trans List.count_le_length (by simp; omega)
    rw [spec_StabilizeSand.l0, if_pos (by rw [asI_len]; omega), if_pos (by omega), if_pos (by rw [asI_len]; omega), rd_nat, asI_get s hq, if_pos (by omega), if_pos (by rw [cnt_len]; omega), rd_nat, cnt_get _ hlt, Int.toNat_natCast, wrap_id (x := (((s.take q).count s[q] : Nat) : Int) + 1) (by omega) (by omega), cnt_snoc _ hlt, ← List.take_succ_eq_append_getElem hq, wrap_next (n := s.length) hq (by omega)]
  · rw [spec_StabilizeSand.l0, if_neg (by rw [asI_len]; omega), List.take_length]
theorem impl_stab_l0 (r : List Int) (n : Nat) (s : List Nat) (hs : ∀ i ∈ s, i < n) (hl : s.length ≤ 4000000) : Ev (fun k => impl_StabilizeSand.l0 k r (List.replicate n 0) (asI s) ((asI s).length : Int) 0) (r, cnt n s, true) := by
  have := Ev.up0 s.length (fun q => cnt n (s.take q)) (fun k x q => impl_StabilizeSand.l0 k r x (asI s) ((asI s).length : Int) q) (r, cnt n s, true) (fun q hq h => Ev.one h fun k => ?_) (Ev.end_ fun k => ?_)
  · simpa [cnt_nil] using this
  · have hm : s[q] ∈ s := List.getElem_mem _
    have hlt := hs _ hm
    have hc : (s.take q).count s[q] ≤ q := Nat.le_trans List.count_le_length (by simp; omega)
    rw [impl_StabilizeSand.l0, if_pos (by rw [asI_len]; omega), if_pos (by omega), if_pos (by rw [asI_len]; omega), rd_nat, asI_get s hq, if_pos (by omega), if_pos (by rw [cnt_len]; omega), rd_nat, cnt_get _ hlt, Int.toNat_natCast, wrap_id (x := (((s.take q).count s[q] : Nat) : Int) + 1) (by omega) (by omega), cnt_snoc _ hlt, ← List.take_succ_eq_append_getElem hq, wrap_next (n := s.length) hq (by omega)]
  · rw [impl_StabilizeSand.l0, if_neg (by rw [asI_len]; omega), List.take_length]
theorem spec_StabilizeSand_ev (l : List Int) (hn : l.length ≤ 4611686018427387904) : Ev (fun k => spec_StabilizeSand.f k l) (stabV l) := by
  unfold spec_StabilizeSand.f stabV
  refine Ev.bind (reSand_ev l hn) ?_
  by_cases h : sandB l = true
  · have hm := sandB_mild h
    have hl := sandB_len h
    simp only [h, if_true]
    refine Ev.bind (reSettle_ev hm) ?_
    simp only [show (0 : Int) ≤ (l.length : Int) by omega, Int.toNat_natCast, show l.length ≤ 35184372088832 by omega, if_true]
    exact spec_stab_l0 _ _ _ (stab_lt l) (Nat.le_trans (stab_len 480 hm.nn (sandB_sum h)) (by omega))
  · simp only [h, if_false]
    exact Ev.now _
theorem impl_StabilizeSand_ev (l : List Int) : Ev (fun k => impl_StabilizeSand.f k l) (stabV l) := by
  unfold impl_StabilizeSand.f stabV
  simp only [isSand_eq, Option.bind_some]
  by_cases h : sandB l = true
  · have hm := sandB_mild h
    have hl := sandB_len h
    simp only [h, if_true, settle_eq hm, Option.bind_some]
    simp only [show (0 : Int) ≤ (l.length : Int) by omega, Int.toNat_natCast, show l.length ≤ 35184372088832 by omega, if_true]
    exact impl_stab_l0 _ _ _ (stab_lt l) (Nat.le_trans (stab_len 480 hm.nn (sandB_sum h)) (by omega))
  · simp only [h, if_false]
    exact Ev.now _
theorem stabV_len (l : List Int) : (stabV l).1.length ≤ 8 ∧ (stabV l).2.1.length ≤ 8 := by
  unfold stabV
  split
  · rename_i h; have := sandB_len h; simp [cnt_len]; omega
  · simp

/-! ### AddSand -/
theorem rePlus_ev {a b : List Int} (h : a.length = b.length) (hl : a.length ≤ 1000) (ha : ∀ j, -1000000 ≤ a.getD j 0 ∧ a.getD j 0 ≤ 1000000) (hb : ∀ j, -1000000 ≤ b.getD j 0 ∧ b.getD j 0 ≤ 1000000) : Ev (fun k => spec_rePlus.f k a b) (SandT.plus a b) := by
  unfold spec_rePlus.f
  have := Ev.up0 a.length (fun q => (SandT.plus a b).take q) (fun k s q => spec_rePlus.l0 k b s a (a.length : Int) q) (SandT.plus a b) (fun q hq h' => Ev.one h' fun k => ?_) (Ev.end_ fun k => ?_)
  · exact this
  · have hlt : ((SandT.plus a b).take q).length < 17592186044416 := by rw [List.length_take]; omega
    have hg := SandT.get_plus a b q hq
    have := ha q
    have := hb q
    rw [spec_rePlus.l0, if_pos (by omega), if_pos (by omega), if_pos (by omega), if_pos (by omega), if_pos hlt, rd_nat, rd_nat, wrap_id (x := a.getD q 0 + b.getD q 0) (by omega) (by omega), take_snoc (by simpa using hq) hg, wrap_next (n := a.length) hq (by omega)]
  · rw [spec_rePlus.l0, if_neg (by omega), List.take_of_length_le (by simp)]
theorem added_ev {a b : List Int} (h : a.length = b.length) (hl : a.length ≤ 1000) (ha : ∀ j, -1000000 ≤ a.getD j 0 ∧ a.getD j 0 ≤ 1000000) (hb : ∀ j, -1000000 ≤ b.getD j 0 ∧ b.getD j 0 ≤ 1000000) : Ev (fun k => impl_added.f k a b) (SandT.plus a b) := by
  unfold impl_added.f
  simp only [Clone_eq a (by omega), Option.bind_some]
  have hR : (SandT.plus a b).length = a.length := by simp
  have := Ev.up0 b.length (fun q => mixed (SandT.plus a b) a q) (fun k s q => impl_added.l0 k s b (b.length : Int) q) (SandT.plus a b) (fun q hq h' => Ev.one h' fun k => ?_) (Ev.end_ fun k => ?_)
  · simpa [mixed_zero] using this
  · have hq' : q < a.length := by omega
    have hg := SandT.get_plus a b q hq'
    have := ha q
    have := hb q
    rw [impl_added.l0, if_pos (by omega), if_pos (by omega), if_pos (by omega), if_pos (by rw [length_mixed hR]; omega), rd_nat, rd_nat, getD_mixed hR hq', Int.toNat_natCast, wrap_id (x := a.getD q 0 + b.getD q 0) (by omega) (by omega), set_mixed hR hq' hg, wrap_next (n := b.length) hq (by omega)]
  · rw [impl_added.l0, if_neg (by omega), ← h, mixed_full hR]
def addB (a b : List Int) : Bool := sandB a && sandB b && decide (a.length = b.length)
def addV (a b : List Int) : List Int × Bool := if addB a b = true then ((SandT.stab (SandT.plus a b)).1, true) else ([], false)
theorem addB_mild {a b : List Int} (h : addB a b = true) : Mild (SandT.plus a b) ∧ a.length = b.length ∧ Mild a ∧ Mild b ∧ a.length ≤ 8 := by
  simp only [addB, Bool.and_eq_true, decide_eq_true_eq] at h
  obtain ⟨⟨h1, h2⟩, h3⟩ := h
  have := sandB_sum h1
  have := sandB_sum h2
  have := sandB_len h1
  exact ⟨plus_mild (sandB_nn h1) (sandB_nn h2) h3 (by omega) (by omega), h3, sandB_mild h1, sandB_mild h2, by omega⟩
theorem spec_AddSand_ev (a b : List Int) (ha : a.length ≤ 4611686018427387904) (hb : b.length ≤ 4611686018427387904) : Ev (fun k => spec_AddSand.f k a b) (addV a b) := by
  unfold spec_AddSand.f
  refine Ev.bind (reSand_ev a ha) ?_
  by_cases h1 : sandB a = true
  · simp only [h1, if_true]
    refine Ev.bind (reSand_ev b hb) ?_
    by_cases h2 : sandB b = true
    · simp only [h2, if_true]
      by_cases h3 : a.length = b.length
      · have hB : addB a b = true := by simp [addB, h1, h2, h3]
        obtain ⟨m1, _, m2, m3, _⟩ := addB_mild hB
        refine Ev.step (f := fun k => (spec_rePlus.f k a b).bind fun t563 => ((spec_reSettle.f k t563).bind fun bt566 => (some (bt566.1, true)))) (fun k => by rw [spec_AddSand.j0, if_neg (by simp [h3])]) ?_
        refine Ev.bind (rePlus_ev h3 m2.len m2.get m3.get) ?_
        refine Ev.bind (reSettle_ev m1) ?_
        rw [addV, if_pos hB]
        exact Ev.now _
      · have hB : ¬ addB a b = true := by simp [addB, h3]
        rw [addV, if_neg hB]
        exact Ev.end_ fun k => by rw [spec_AddSand.j0, if_pos (by simp; omega)]
    · have hB : ¬ addB a b = true := by simp [addB, h2]
      simp only [h2, Bool.false_eq_true, if_false, addV, hB]
      exact Ev.end_ fun k => by rw [spec_AddSand.j0, if_pos rfl]
  · have hB : ¬ addB a b = true := by simp [addB, h1]
    simp only [h1, Bool.false_eq_true, if_false, addV, hB]
    exact Ev.end_ fun k => by rw [spec_AddSand.j0, if_pos rfl]
theorem impl_AddSand_ev (a b : List Int) : Ev (fun k => impl_AddSand.f k a b) (addV a b) := by
  unfold impl_AddSand.f
  simp only [isSand_eq, Option.bind_some]
  by_cases h1 : sandB a = true
  · simp only [h1, if_true]
    by_cases h2 : sandB b = true
    · simp only [h2, if_true]
      by_cases h3 : a.length = b.length
      · have hB : addB a b = true := by simp [addB, h1, h2, h3]
        obtain ⟨m1, _, m2, m3, _⟩ := addB_mild hB
        refine Ev.step (f := fun k => (impl_added.f k a b).bind fun t580 => ((impl_settle.f t580).bind fun bt583 => (some (bt583.1, true)))) (fun k => by rw [impl_AddSand.j0, if_neg (by simp [h3])]) ?_
        refine Ev.bind (added_ev h3 m2.len m2.get m3.get) ?_
        rw [settle_eq m1, addV, if_pos hB]
        exact Ev.now _
      · have hB : ¬ addB a b = true := by simp [addB, h3]
        rw [addV, if_neg hB]
        exact Ev.end_ fun k => by rw [impl_AddSand.j0, if_pos (by simp; omega)]
    · have hB : ¬ addB a b = true := by simp [addB, h2]
      simp only [h2, Bool.false_eq_true, if_false, addV, hB]
      exact Ev.end_ fun k => by rw [impl_AddSand.j0, if_pos rfl]
  · have hB : ¬ addB a b = true := by simp [addB, h1]
    simp only [h1, Bool.false_eq_true, if_false, addV, hB]
    exact Ev.end_ fun k => by rw [impl_AddSand.j0, if_pos rfl]
theorem addV_len (a b : List Int) : (addV a b).1.length ≤ 8 := by
  unfold addV
  split
  · rename_i h; have := addB_mild h; simp; omega
  · simp

end Go.Proofs.Ytainmahlhhcklaa.G
