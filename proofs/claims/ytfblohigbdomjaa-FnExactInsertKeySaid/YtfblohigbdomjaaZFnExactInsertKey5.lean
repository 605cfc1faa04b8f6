/- The law FnExactInsertKey: part 5 of the printed functions and the facts on them that its row leans on (merged by this session's slim.py). -/
import Derived.Test.YtfblohigbdomjaaZFnExactInsertKey4
namespace Go.Proofs.Ytfblohigbdomjaa.G
open Go.RowKit Go.Proofs.YtfblohigbdomjaaW.PrintWords Go.Proofs.YtfblohigbdomjaaW.PrintLast Go.Proofs.YtfblohigbdomjaaW.PrintMore
set_option linter.unusedVariables false
set_option linter.unusedSimpArgs false
theorem markIntS_l0 (n : Nat) (hn : n ≤ 1152921504606846976) (m : Int) (hm : 0 ≤ m ∧ m ≤ 1152921504606846976) : ∀ (d k i : Nat) (a : List Int), a.length = n → i + d = n → d < k → a.take i = rise i m → laws_markIntS.l0 k a (m + i) i = some (m + n, rise n m) := by
  intro d
  induction d with
  | zero =>
    intro k i a hl hd hk ht
    obtain ⟨k, rfl⟩ := succ_of hk
    obtain rfl : i = n := by omega
    rw [List.take_of_length_le (by omega)] at ht
    rw [laws_markIntS.l0, if_neg (by omega), ht]
  | succ d ih =>
    intro k i a hl hd hk ht
    obtain ⟨k, rfl⟩ := succ_of hk
    rw [laws_markIntS.l0, if_pos (by omega), if_pos (by omega), wrap_next (n := n) (by omega) (by omega), Int.toNat_natCast, wrap_id (x := m + i + 1) (by omega) (by omega)]
    have := ih k (i + 1) (a.set i (m + i)) (by simpa using hl) (by omega) (by omega) (by
      apply List.ext_getElem
      · simp [rise]; omega
      · intro j h1 h2
        simp only [List.length_take, List.length_set] at h1
        simp only [List.getElem_take, List.getElem_set, rise, List.getElem_map, List.getElem_range]
        by_cases e : i = j
        · subst e; simp
        · have hj : j < i := by omega
          have : (a.take i)[j]? = (rise i m)[j]? := by rw [ht]
          rw [List.getElem?_eq_getElem (by simp; omega), List.getElem?_eq_getElem (by simp [rise]; omega)] at this
          simp [rise] at this
          simp [e, this])
    rw [show m + (i : Int) + 1 = m + ((i + 1 : Nat) : Int) by push_cast; omega]
    exact this
theorem markIntS_ev (a : List Int) (m : Int) (hm : 0 ≤ m ∧ m ≤ 1152921504606846976) (hn : a.length ≤ 1152921504606846976) : Ev (fun k => laws_markIntS.f k a m) (m + a.length, rise a.length m) := by
  refine Ev.of_all a.length fun k hk => ?_
  unfold laws_markIntS.f
  have := markIntS_l0 a.length hn m hm a.length k 0 a rfl (by omega) hk (by simp [rise])
  simpa using this
theorem heldIntS_l0 (n : Nat) (hn : n ≤ 1152921504606846976) (m : Int) (hm : 0 ≤ m ∧ m ≤ 1152921504606846976) : ∀ (d k i : Nat), i + d = n → d < k → laws_heldIntS.l0 k (rise n m) (m + i) i = some (m + n) := by
  intro d
  have hl : (rise n m).length = n := by simp [rise]
  induction d with
  | zero =>
    intro k i hd hk
    obtain ⟨k, rfl⟩ := succ_of hk
    obtain rfl : i = n := by omega
    rw [laws_heldIntS.l0, if_neg (by omega)]
  | succ d ih =>
    intro k i hd hk
    obtain ⟨k, rfl⟩ := succ_of hk
    rw [laws_heldIntS.l0, if_pos (by omega), if_pos (by omega), rd_nat, getD_rise _ _ _ (by omega), if_pos rfl, wrap_next (n := n) (by omega) (by omega), wrap_id (x := m + i + 1) (by omega) (by omega)]
    rw [show m + (i : Int) + 1 = m + ((i + 1 : Nat) : Int) by push_cast; omega]
    exact ih k (i + 1) (by omega) (by omega)
theorem heldIntS_ev (n : Nat) (m : Int) (hm : 0 ≤ m ∧ m ≤ 1152921504606846976) (hn : n ≤ 1152921504606846976) : Ev (fun k => laws_heldIntS.f k (rise n m) m) (m + n) := by
  refine Ev.of_all n fun k hk => ?_
  unfold laws_heldIntS.f
  have := heldIntS_l0 n hn m hm n k 0 (by omega) hk
  simpa using this
theorem l1In_eq (a b c : Int) : spec_l1In.f a b c = some (decide (b ≤ a ∧ a ≤ c)) := by
  unfold spec_l1In.f
  split
  · rename_i h; congr 1; rw [Bool.eq_iff_iff]; simp; omega
  · rename_i h; congr 1; rw [Bool.eq_iff_iff]; simp; omega
theorem l1All_l0 (l : List Int) (lo hi : Int) (hn : l.length ≤ 4611686018427387904) : ∀ (d k i : Nat), i + d = l.length → d < k → spec_l1All.l0 k lo hi l (l.length : Int) i = some ((l.drop i).all fun x => decide (lo ≤ x ∧ x ≤ hi)) := by
  intro d
  induction d with
  | zero =>
    intro k i hd hk
    obtain ⟨k, rfl⟩ := succ_of hk
    rw [spec_l1All.l0, if_neg (by omega), List.drop_of_length_le (by omega)]; rfl
  | succ d ih =>
    intro k i hd hk
    obtain ⟨k, rfl⟩ := succ_of hk
    rw [spec_l1All.l0, if_pos (by omega), if_pos (by omega), if_pos (by omega), l1In_eq, Option.bind_some, rd_nat, wrap_next (n := l.length) (by omega) hn, ih k (i + 1) (by omega) (by omega), drop_getD (l := l) (i := i) (by omega), List.all_cons]
    split
    · rename_i h; rw [h, Bool.true_and]
    · rename_i h; rw [Bool.not_eq_true] at h; rw [h, Bool.false_and]
theorem l1All_ev (l : List Int) (lo hi : Int) (hn : l.length ≤ 4611686018427387904) : Ev (fun k => spec_l1All.f k l lo hi) (l.all fun x => decide (lo ≤ x ∧ x ≤ hi)) := by
  refine Ev.of_all l.length fun k hk => ?_
  have := l1All_l0 l lo hi hn l.length k 0 (by omega) hk
  simpa [spec_l1All.f] using this
theorem nneg (n : Nat) : ((1 : Int) + (n : Int) < 0) = False := by simp; omega
theorem eqTable_ev (a b : List Int) (hn : a.length ≤ 4611686018427387904) : Ev (fun k => laws_eqTable.f k a b) (decide (a = b)) := by
  unfold laws_eqTable.f
  refine Ev.bind (eqIntS_ev a b hn) ?_
  cases decide (a = b) with
  | true => simp only [if_true]; exact Ev.now _
  | false => simp only [Bool.false_eq_true, if_false]; exact Ev.now _
theorem markTable_ev (a : List Int) (m : Int) (hm : 0 ≤ m ∧ m ≤ 1152921504606846976) (hn : a.length ≤ 1152921504606846976) : Ev (fun k => laws_markTable.f k a m) (m + a.length, rise a.length m) := by
  unfold laws_markTable.f
  exact Ev.bind (markIntS_ev a m hm hn) (Ev.now _)
theorem heldTable_ev (n : Nat) (m : Int) (hm : 0 ≤ m ∧ m ≤ 1152921504606846976) (hn : n ≤ 1152921504606846976) : Ev (fun k => laws_heldTable.f k (rise n m) m) (m + n) := by
  unfold laws_heldTable.f
  refine Ev.bind (heldIntS_ev n m hm hn) ?_
  simp only [show ¬ (m + (n : Int) < 0) by omega, if_false]
  exact Ev.now _
theorem toTable_ev (l : List Int) (hn : l.length ≤ 35184372088832) : Ev (fun k => laws_toTable.f k l) l := by
  unfold laws_toTable.f
  exact Ev.bind (toIntS_ev l hn) (Ev.now _)
theorem between_eq (a b c : Int) : impl_between.f a b c = some (decide (b ≤ a ∧ a ≤ c)) := by
  unfold impl_between.f
  by_cases h : a ≥ b
  · rw [if_pos h]; congr 1; simp; omega
  · rw [if_neg h]; congr 1; simp; omega
theorem isSize_eq (a : Int) : impl_isSize.f a = some (decide (2 ≤ a ∧ a ≤ 12)) := by unfold impl_isSize.f; rw [between_eq]; rfl
theorem szTable_eq (l : List Int) (hn : l.length ≤ 4611686018427387904) : laws_szTable.f l 1048576 = some (if (l.length : Int) > 1048576 then -1 else 1048576 - (l.length : Int)) := by
  unfold laws_szTable.f laws_szIntS.f
  rw [wrap_id (x := 1048576 - (l.length : Int)) (by omega) (by omega)]
  by_cases h : (l.length : Int) > 1048576
  · rw [if_pos (by omega), if_pos h]; rfl
  · rw [if_neg (by omega), if_neg h, Option.bind_some, if_neg (by omega)]
theorem l1Has_l0 (x : List Int) (a : Int) (hn : x.length ≤ 4611686018427387904) : ∀ (d i : Nat), i + d = x.length → Ev (fun k => spec_l1Has.l0 k a x (x.length : Int) i) (decide (a ∈ x.drop i)) := by
  intro d
  induction d with
  | zero =>
    intro i hd
    refine Ev.end_ fun k => ?_
    rw [spec_l1Has.l0, if_neg (by omega), List.drop_eq_nil_of_le (by omega)]
    simp
  | succ d ih =>
    intro i hd
    have e1 := drop_getD (l := x) (i := i) (by omega)
    by_cases h : x.getD i 0 = a
    · refine Ev.end_ fun k => ?_
      rw [spec_l1Has.l0, if_pos (by omega), if_pos (by omega), if_pos (by omega), rd_nat, if_pos h, e1, h, decide_eq_true (List.mem_cons_self)]
    · refine Ev.one (f := fun k => spec_l1Has.l0 k a x (x.length : Int) ((i + 1 : Nat) : Int)) ?_ fun k => ?_
      · have := ih (i + 1) (by omega)
        have e : decide (a ∈ x.drop i) = decide (a ∈ x.drop (i + 1)) := by
          rw [e1]
          have : ¬ a = x.getD i 0 := fun e => h e.symm
          simp only [List.mem_cons, this, false_or]
        rw [e]; exact this
      · rw [spec_l1Has.l0, if_pos (by omega), if_pos (by omega), if_pos (by omega), rd_nat, if_neg h, wrap_next (n := x.length) (by omega) hn]
theorem l1Has_ev (x : List Int) (a : Int) (hn : x.length ≤ 4611686018427387904) : Ev (fun k => spec_l1Has.f k x a) (decide (a ∈ x)) := by
  unfold spec_l1Has.f
  have := l1Has_l0 x a hn x.length 0 (by omega)
  simpa using this
/-- The first place of a number, -1 where it is not. -/
def ixF (l : List Int) (a : Int) : Nat → Nat → Int
  | 0, _ => -1
  | d + 1, i => if l.getD i 0 = a then (i : Int) else ixF l a d (i + 1)
theorem ixF_spec (l : List Int) (a : Int) : ∀ (d i : Nat), i + d = l.length → (ixF l a d i = -1 ∧ a ∉ l.drop i) ∨ (∃ j : Nat, ixF l a d i = j ∧ j < l.length ∧ l.getD j 0 = a ∧ a ∈ l.drop i)
  | 0, i, h => by left; rw [List.drop_of_length_le (by omega)]; exact ⟨rfl, by simp⟩
  | d + 1, i, h => by
    rw [ixF, drop_getD (by omega)]
    by_cases c : l.getD i 0 = a
    · right; rw [if_pos c]; exact ⟨i, rfl, by omega, c, by rw [c]; simp⟩
    · rw [if_neg c]
      rcases ixF_spec l a d (i + 1) (by omega) with ⟨h1, h2⟩ | ⟨j, h1, h2, h3, h4⟩
      · left; exact ⟨h1, by simp only [List.mem_cons, not_or]; exact ⟨fun e => c e.symm, h2⟩⟩
      · right; exact ⟨j, h1, h2, h3, by simp [h4]⟩
theorem index_l0 (l : List Int) (a : Int) (hn : l.length ≤ 4611686018427387904) : ∀ (d i : Nat), i + d = l.length → Ev (fun k => slices_Index_int_int.l0 k l a (l.length : Int) i) (ixF l a d i) := by
  intro d
  induction d with
  | zero =>
    intro i hd
    exact Ev.end_ fun k => by rw [slices_Index_int_int.l0, if_neg (by omega)]; rfl
  | succ d ih =>
    intro i hd
    rw [ixF]
    by_cases c : l.getD i 0 = a
    · rw [if_pos c]
      refine Ev.end_ fun k => ?_
      rw [slices_Index_int_int.l0, if_pos (by omega), if_pos (by omega), if_pos (by omega), rd_nat, if_pos c.symm]
    · rw [if_neg c]
      refine Ev.one (ih (i + 1) (by omega)) fun k => ?_
      rw [slices_Index_int_int.l0, if_pos (by omega), if_pos (by omega), if_pos (by omega), rd_nat, if_neg (fun e => c e.symm), wrap_next (n := l.length) (by omega) hn]
theorem index_ev (l : List Int) (a : Int) (hn : l.length ≤ 4611686018427387904) : Ev (fun k => slices_Index_int_int.f k l a) (ixF l a l.length 0) := by
  unfold slices_Index_int_int.f
  exact index_l0 l a hn l.length 0 (by omega)
theorem containsI_ev (l : List Int) (a : Int) (hn : l.length ≤ 4611686018427387904) : Ev (fun k => slices_Contains_int_int.f k l a) (decide (a ∈ l)) := by
  unfold slices_Contains_int_int.f
  refine Ev.bind (index_ev l a hn) ?_
  have e : decide (ixF l a l.length 0 ≥ 0) = decide (a ∈ l) := by
    rcases ixF_spec l a l.length 0 (by omega) with ⟨h1, h2⟩ | ⟨j, h1, h2, h3, h4⟩
    · rw [List.drop_zero] at h2
      rw [h1, decide_eq_false h2]; decide
    · rw [List.drop_zero] at h4
      rw [h1, decide_eq_true h4]; exact decide_eq_true (by omega)
  rw [e]
  exact Ev.now _
def costN (n key at_ : Nat) : Nat := (at_ + n - key % n) % n
theorem cost_arith {n key at_ : Nat} (hn : 0 < n) (hn2 : n ≤ 1000) (hk : key ≤ 1000) (ha : at_ < n) : Int.tmod (wrap64 ((wrap64 ((at_ : Int) - (Int.tmod (key : Int) (n : Int)))) + (n : Int))) (n : Int) = (costN n key at_ : Nat) := by
  have e1 : Int.tmod (key : Int) (n : Int) = ((key % n : Nat) : Int) := rfl
  have hlt := Nat.mod_lt key hn
  rw [e1, wrap_id (x := (at_ : Int) - ((key % n : Nat) : Int)) (by omega) (by omega), wrap_id (by omega) (by omega)]
  rw [show (at_ : Int) - ((key % n : Nat) : Int) + (n : Int) = ((at_ + n - key % n : Nat) : Int) by omega]
  rfl
theorem costN_lt {n key at_ : Nat} (hn : 0 < n) : costN n key at_ < n := Nat.mod_lt _ hn
theorem prCost_eq {n key at_ : Nat} (hn : 0 < n) (hn2 : n ≤ 1000) (hk : key ≤ 1000) (ha : at_ < n) : spec_prCost.f (key : Int) (at_ : Int) (n : Int) = some ((costN n key at_ : Nat) : Int) := by
  unfold spec_prCost.f
  rw [if_neg (by omega), cost_arith hn hn2 hk ha]
theorem tcost_eq {l : List Int} {key at_ : Nat} (hn2 : l.length ≤ 1000) (hk : key ≤ 1000) (ha : at_ < l.length) (hg : l.getD at_ 0 = (key : Int)) : impl_Table_cost.f l (at_ : Int) = some ((costN l.length key at_ : Nat) : Int) := by
  unfold impl_Table_cost.f
  rw [if_pos (by omega), if_pos (by omega), if_neg (by omega), rd_nat, hg, cost_arith (by omega) hn2 hk ha]
/-- No free cell among the key's c cells from the s-th on. -/
def wayF (l : List Int) (key : Nat) : Nat → Nat → Bool
  | _, 0 => true
  | s, c + 1 => decide (0 ≤ l.getD ((key + s) % l.length) 0) && wayF l key (s + 1) c
def okCell (l : List Int) (i : Nat) : Bool := decide (l.getD i 0 < 0) || (!decide (l.getD i 0 ∈ l.take i) && wayF l (l.getD i 0).toNat 0 (costN l.length (l.getD i 0).toNat i))
def okFrom (l : List Int) : Nat → Nat → Bool
  | 0, _ => true
  | d + 1, i => okCell l i && okFrom l d (i + 1)
def tblB (l : List Int) : Bool := decide (2 ≤ (l.length : Int) ∧ (l.length : Int) ≤ 12) && (l.all fun x => decide (-1 ≤ x ∧ x ≤ 999)) && decide ((-1 : Int) ∈ l) && okFrom l l.length 0
/-- The cell that lies so far back is the key's own one, so far on. -/
theorem back_cell {n key at_ c j : Nat} (hn : 0 < n) (ha : at_ < n) (hc : costN n key at_ = c) (hj : j ≤ c) (h1 : 1 ≤ j) : (at_ + n - j) % n = (key + (c - j)) % n := by
  have hk := Nat.mod_lt key hn
  have hcn : c < n := by rw [← hc]; exact costN_lt hn
  have e : (key + (c - j)) % n = (key % n + (c - j)) % n := (Nat.mod_add_mod key n (c - j)).symm
  rw [e]
  unfold costN at hc
  rcases Nat.lt_or_ge at_ (key % n) with h | h
  · rw [Nat.mod_eq_of_lt (show at_ + n - key % n < n by omega)] at hc
    rw [show key % n + (c - j) = at_ + n - j by omega]
  · have : (at_ + n - key % n) % n = at_ - key % n := by
      rw [show at_ + n - key % n = (at_ - key % n) + n by omega, Nat.add_mod_right, Nat.mod_eq_of_lt (by omega)]
    rw [this] at hc
    rw [show at_ + n - j = (key % n + (c - j)) + n by omega, Nat.add_mod_right]
end Go.Proofs.Ytfblohigbdomjaa.G
namespace Go.Proofs.Ytfblohigbdomjaa.G
open Go.RowKit Go.Proofs.YtfblohigbdomjaaW.PrintWords Go.Proofs.YtfblohigbdomjaaW.PrintLast Go.Proofs.YtfblohigbdomjaaW.PrintMore
set_option linter.unusedVariables false
set_option linter.unusedSimpArgs false
section
variable (l : List Int) (hn : 2 ≤ l.length) (hn2 : l.length ≤ 12) (hr : ∀ j, j < l.length → -1 ≤ l.getD j 0 ∧ l.getD j 0 ≤ 999)
include hn hn2 hr
theorem sp_way (key i c : Nat) (hk : key ≤ 1000) (hi : i < l.length) (hc : costN l.length key i = c) (r : Bool) (h : Ev (fun k => spec_prGood.l0 k (l.length : Int) l (l.length : Int) (wrap64 ((i : Int) + 1)) l) r) : ∀ (j : Nat), j ≤ c →
    Ev (fun k => spec_prGood.l1 k (l.length : Int) (i : Int) (j : Int) l (l.length : Int) (i : Int) l) (if wayF l key (c - j) j = true then r else false) := by
  have hcn : c < l.length := by rw [← hc]; exact costN_lt (by omega)
  intro j
  induction j with
  | zero =>
    intro _
    rw [wayF, if_pos rfl]
    exact Ev.one h fun k => by rw [spec_prGood.l1, if_neg (by omega)]
  | succ j ih =>
    intro hj
    have hcell := back_cell (n := l.length) (by omega) hi hc hj (by omega)
    have e1 : Int.tmod (wrap64 ((wrap64 ((i : Int) - ((j + 1 : Nat) : Int))) + (l.length : Int))) (l.length : Int) = (((key + (c - (j + 1))) % l.length : Nat) : Int) := by
      rw [wrap_id (x := (i : Int) - ((j + 1 : Nat) : Int)) (by omega) (by omega), wrap_id (by omega) (by omega), ← hcell, show (i : Int) - ((j + 1 : Nat) : Int) + (l.length : Int) = ((i + l.length - (j + 1) : Nat) : Int) by omega]
      rfl
    have hm := Nat.mod_lt (key + (c - (j + 1))) (show 0 < l.length by omega)
    have hv := hr _ hm
    rw [wayF, show c - (j + 1) + 1 = c - j by omega]
    by_cases hf : l.getD ((key + (c - (j + 1))) % l.length) 0 = -1
    · rw [show decide (0 ≤ l.getD ((key + (c - (j + 1))) % l.length) 0) = false from decide_eq_false (by omega), Bool.false_and, if_neg (by decide)]
      refine Ev.end_ fun k => ?_
      rw [spec_prGood.l1, if_pos (by omega), if_neg (by omega), e1, if_pos (by omega), if_pos (by omega), rd_nat, if_pos hf]
    · rw [show decide (0 ≤ l.getD ((key + (c - (j + 1))) % l.length) 0) = true from decide_eq_true (by omega), Bool.true_and]
      refine Ev.one (ih (by omega)) fun k => ?_
      rw [spec_prGood.l1, if_pos (by omega), if_neg (by omega), e1, if_pos (by omega), if_pos (by omega), rd_nat, if_neg hf, wrap_id (x := ((j + 1 : Nat) : Int) - 1) (by omega) (by omega), show ((j + 1 : Nat) : Int) - 1 = (j : Int) by omega]
theorem im_way (key i c : Nat) (hk : key ≤ 1000) (hi : i < l.length) (hc : c < l.length) (r : Bool) (h : Ev (fun k => impl_isTable.l0 k l (l.length : Int) (wrap64 ((i : Int) + 1)) l) r) : ∀ (d s : Nat), s + d = c →
    Ev (fun k => impl_isTable.l1 k (key : Int) l (l.length : Int) (i : Int) (c : Int) (s : Int) l) (if wayF l key s d = true then r else false) := by
  have hr0 := hr
  intro d
  induction d with
  | zero =>
    intro s hs
    rw [wayF, if_pos rfl]
    exact Ev.one h fun k => by rw [impl_isTable.l1, if_neg (by omega)]
  | succ d ih =>
    intro s hs
    have e1 : Int.tmod (wrap64 ((key : Int) + (s : Int))) (l.length : Int) = (((key + s) % l.length : Nat) : Int) := by
      rw [wrap_id (by omega) (by omega), show (key : Int) + (s : Int) = ((key + s : Nat) : Int) by omega]
      rfl
    have hm := Nat.mod_lt (key + s) (show 0 < l.length by omega)
    rw [wayF]
    by_cases hf : l.getD ((key + s) % l.length) 0 < 0
    · rw [show decide (0 ≤ l.getD ((key + s) % l.length) 0) = false from decide_eq_false (by omega), Bool.false_and, if_neg (by decide)]
      refine Ev.end_ fun k => ?_
      rw [impl_isTable.l1, if_pos (by omega), if_neg (by omega), e1, if_pos (by omega), if_pos (by omega), rd_nat, if_pos hf]
    · rw [show decide (0 ≤ l.getD ((key + s) % l.length) 0) = true from decide_eq_true (by omega), Bool.true_and]
      refine Ev.one (ih (s + 1) (by omega)) fun k => ?_
      rw [impl_isTable.l1, if_pos (by omega), if_neg (by omega), e1, if_pos (by omega), if_pos (by omega), rd_nat, if_neg hf, wrap_next (n := 1000) (by omega) (by omega)]
theorem sp_good_l0 : ∀ (d i : Nat), i + d = l.length → Ev (fun k => spec_prGood.l0 k (l.length : Int) l (l.length : Int) (i : Int) l) (okFrom l d i) := by
  intro d
  induction d with
  | zero =>
    intro i hd
    exact Ev.end_ fun k => by rw [spec_prGood.l0, if_neg (by omega)]; rfl
  | succ d ih =>
    intro i hd
    have hi : i < l.length := by omega
    have hv := hr i hi
    rw [okFrom, okCell]
    by_cases hf : l.getD i 0 = -1
    · rw [show decide (l.getD i 0 < 0) = true from decide_eq_true (by omega), Bool.true_or, Bool.true_and]
      refine Ev.one (ih (i + 1) (by omega)) fun k => ?_
      rw [spec_prGood.l0, if_pos (by omega), if_pos (by omega), if_pos (by omega), rd_nat, if_pos hf, wrap_next (n := l.length) hi (by omega)]
    · rw [show decide (l.getD i 0 < 0) = false from decide_eq_false (by omega), Bool.false_or]
      obtain ⟨key, hkey⟩ : ∃ key : Nat, l.getD i 0 = key := ⟨(l.getD i 0).toNat, by omega⟩
      rw [hkey, Int.toNat_natCast]
      refine Ev.step (f := fun k => (spec_l1Has.f k (l.take i) (key : Int)).bind fun t169 => (if t169 = true then (some false) else (spec_prGood.l1 k (l.length : Int) (i : Int) ((costN l.length key i : Nat) : Int) l (l.length : Int) (i : Int) l))) (fun k => by
        rw [spec_prGood.l0, if_pos (by omega), if_pos (by omega), if_pos (by omega), rd_nat, if_neg hf, if_pos (by omega), Int.toNat_natCast, hkey, prCost_eq (by omega) (by omega) (by omega) hi]; rfl) ?_
      refine Ev.bind (l1Has_ev _ _ (by simp; omega)) ?_
      cases hh : decide ((key : Int) ∈ l.take i) with
      | true => simp only [if_true, Bool.not_true, Bool.false_and]; exact Ev.now _
      | false =>
        simp only [Bool.false_eq_true, if_false, Bool.not_false, Bool.true_and]
        have h0 := ih (i + 1) (by omega)
        have hw := sp_way l hn hn2 hr key i (costN l.length key i) (by omega) hi rfl _ (by rw [wrap_next (n := l.length) hi (by omega)]; exact h0) (costN l.length key i) (Nat.le_refl _)
        rw [Nat.sub_self] at hw
        cases hww : wayF l key 0 (costN l.length key i) with
        | true => rw [hww, if_pos rfl] at hw; rw [Bool.true_and]; exact hw
        | false => rw [hww, if_neg (by decide)] at hw; rw [Bool.false_and]; exact hw
theorem im_good_l0 : ∀ (d i : Nat), i + d = l.length → Ev (fun k => impl_isTable.l0 k l (l.length : Int) (i : Int) l) (okFrom l d i) := by
  intro d
  induction d with
  | zero =>
    intro i hd
    exact Ev.end_ fun k => by rw [impl_isTable.l0, if_neg (by omega)]; rfl
  | succ d ih =>
    intro i hd
    have hi : i < l.length := by omega
    have hv := hr i hi
    rw [okFrom, okCell]
    by_cases hf : l.getD i 0 < 0
    · rw [decide_eq_true hf, Bool.true_or, Bool.true_and]
      refine Ev.one (ih (i + 1) (by omega)) fun k => ?_
      rw [impl_isTable.l0, if_pos (by omega), if_pos (by omega), if_pos (by omega), rd_nat, if_pos hf, wrap_next (n := l.length) hi (by omega)]
    · rw [decide_eq_false hf, Bool.false_or]
      obtain ⟨key, hkey⟩ : ∃ key : Nat, l.getD i 0 = key := ⟨(l.getD i 0).toNat, by omega⟩
      have htc := tcost_eq (l := l) (key := key) (at_ := i) (by omega) (by omega) hi hkey
      rw [hkey, Int.toNat_natCast]
      refine Ev.step (f := fun k => (slices_Contains_int_int.f k (l.take i) (key : Int)).bind fun t195 => (if t195 = true then (some false) else (impl_isTable.l1 k (key : Int) l (l.length : Int) (i : Int) ((costN l.length key i : Nat) : Int) 0 l))) (fun k => by
        rw [impl_isTable.l0, if_pos (by omega), if_pos (by omega), if_pos (by omega), rd_nat, if_neg hf, if_pos (by omega), Int.toNat_natCast, hkey, htc]; rfl) ?_
      refine Ev.bind (containsI_ev _ _ (by simp; omega)) ?_
      cases hh : decide ((key : Int) ∈ l.take i) with
      | true => simp only [if_true, Bool.not_true, Bool.false_and]; exact Ev.now _
      | false =>
        simp only [Bool.false_eq_true, if_false, Bool.not_false, Bool.true_and]
        have h0 := ih (i + 1) (by omega)
        have hw := im_way l hn hn2 hr key i (costN l.length key i) (by omega) hi (costN_lt (by omega)) _ (by rw [wrap_next (n := l.length) hi (by omega)]; exact h0) (costN l.length key i) 0 (by omega)
        cases hww : wayF l key 0 (costN l.length key i) with
        | true => rw [hww, if_pos rfl] at hw; rw [Bool.true_and]; exact hw
        | false => rw [hww, if_neg (by decide)] at hw; rw [Bool.false_and]; exact hw
end
end Go.Proofs.Ytfblohigbdomjaa.G
namespace Go.Proofs.Ytfblohigbdomjaa.G
open Go.RowKit Go.Proofs.YtfblohigbdomjaaW.PrintWords Go.Proofs.YtfblohigbdomjaaW.PrintLast Go.Proofs.YtfblohigbdomjaaW.PrintMore
set_option linter.unusedVariables false
set_option linter.unusedSimpArgs false
theorem allT_get {l : List Int} {lo hi : Int} (h : (l.all fun x => decide (lo ≤ x ∧ x ≤ hi)) = true) {j : Nat} (hj : j < l.length) : lo ≤ l.getD j 0 ∧ l.getD j 0 ≤ hi := by
  rw [List.all_eq_true] at h
  have := h l[j] (List.getElem_mem hj)
  rw [List.getD_eq_getElem?_getD, List.getElem?_eq_getElem hj]
  simpa using this
theorem areBetween_eq (l : List Int) (lo hi : Int) : impl_areBetween.f l lo hi = some (l.all fun x => decide (lo ≤ x ∧ x ≤ hi)) := by
  unfold impl_areBetween.f
  congr 2
  funext x
  rw [Bool.eq_iff_iff]; simp
theorem prGood_ev (l : List Int) (hn : l.length ≤ 4611686018427387904) : Ev (fun k => spec_prGood.f k l) (tblB l) := by
  unfold spec_prGood.f tblB
  simp only [l1In_eq, Option.bind_some]
  have stop : Ev (fun k => spec_prGood.j0 k (l.length : Int) true l) false := Ev.end_ fun k => by rw [spec_prGood.j0, if_pos rfl]
  by_cases h1 : 2 ≤ (l.length : Int) ∧ (l.length : Int) ≤ 12
  · rw [decide_eq_true h1]
    simp only [if_true, Bool.true_and]
    refine Ev.bind (l1All_ev l (-1) 999 hn) ?_
    cases h2 : (l.all fun x => decide (-1 ≤ x ∧ x ≤ 999)) with
    | false => simp only [Bool.false_eq_true, if_false, Bool.false_and]; exact stop
    | true =>
      simp only [if_true, Bool.true_and]
      refine Ev.bind (l1Has_ev l (-1) hn) ?_
      cases h3 : decide ((-1 : Int) ∈ l) with
      | false => simp only [Bool.not_false, Bool.false_and]; exact stop
      | true =>
        simp only [Bool.not_true, Bool.true_and]
        exact Ev.one (sp_good_l0 l (by omega) (by omega) (fun j hj => allT_get h2 hj) l.length 0 (by omega)) fun k => by rw [spec_prGood.j0, if_neg (by decide)]; rfl
  · rw [decide_eq_false h1]
    simp only [Bool.false_eq_true, if_false, Bool.false_and]
    exact stop
theorem isTable_ev (l : List Int) (hn : l.length ≤ 4611686018427387904) : Ev (fun k => impl_isTable.f k l) (tblB l) := by
  unfold impl_isTable.f tblB
  simp only [isSize_eq, areBetween_eq, Option.bind_some]
  have stop : Ev (fun k => impl_isTable.j0 k true l) false := Ev.end_ fun k => by rw [impl_isTable.j0, if_pos rfl]
  by_cases h1 : 2 ≤ (l.length : Int) ∧ (l.length : Int) ≤ 12
  · rw [decide_eq_true h1]
    simp only [if_true, Bool.true_and]
    cases h2 : (l.all fun x => decide (-1 ≤ x ∧ x ≤ 999)) with
    | false => simp only [Bool.false_eq_true, if_false, Bool.false_and]; exact stop
    | true =>
      simp only [if_true, Bool.true_and]
      refine Ev.bind (containsI_ev l (-1) hn) ?_
      cases h3 : decide ((-1 : Int) ∈ l) with
      | false => simp only [Bool.not_false, Bool.false_and]; exact stop
      | true =>
        simp only [Bool.not_true, Bool.true_and]
        exact Ev.one (im_good_l0 l (by omega) (by omega) (fun j hj => allT_get h2 hj) l.length 0 (by omega)) fun k => by rw [impl_isTable.j0, if_neg (by decide)]; rfl
  · rw [decide_eq_false h1]
    simp only [Bool.false_eq_true, if_false, Bool.false_and]
    exact stop
theorem tblB_parts {l : List Int} (h : tblB l = true) : 2 ≤ l.length ∧ l.length ≤ 12 ∧ (∀ j, j < l.length → -1 ≤ l.getD j 0 ∧ l.getD j 0 ≤ 999) ∧ (-1 : Int) ∈ l := by
  unfold tblB at h
  simp only [Bool.and_eq_true, decide_eq_true_eq] at h
  exact ⟨by omega, by omega, fun j hj => allT_get h.1.1.2 hj, h.1.2⟩
theorem sortZ_perm (l : List Int) : (sortZ l).Perm l := List.mergeSort_perm l _
theorem keysZ_eq (l : List Int) : keysZ l = (sortZ l).filter fun x => decide (0 ≤ x) := by
  unfold keysZ
  congr 1
  funext x
  unfold negKey
  rw [Bool.eq_iff_iff]
  simp
theorem keysZ_perm (l : List Int) : (keysZ l).Perm (l.filter fun x => decide (0 ≤ x)) := by
  rw [keysZ_eq]
  exact (sortZ_perm l).filter _
theorem keysZ_len (l : List Int) : (keysZ l).length ≤ l.length := by
  rw [(keysZ_perm l).length_eq]
  exact List.length_filter_le _ _
theorem keys_f {l : List Int} (h : tblB l = true) : impl_Table_keys.f l = some (keysZ l) := by
  obtain ⟨h1, h2, h3, h4⟩ := tblB_parts h
  unfold impl_Table_keys.f
  rw [if_pos ⟨by omega, by omega⟩]
def manyTo (l : List Int) : Nat → Nat
  | 0 => 0
  | q + 1 => manyTo l q + (if l.getD q 0 = -1 then 0 else 1)
theorem manyTo_le (l : List Int) : ∀ q, manyTo l q ≤ q
  | 0 => by simp [manyTo]
  | q + 1 => by have := manyTo_le l q; rw [manyTo]; split <;> omega
theorem manyTo_eq (l : List Int) (hr : ∀ j, j < l.length → -1 ≤ l.getD j 0) : ∀ q, q ≤ l.length → manyTo l q = ((l.take q).filter fun x => decide (0 ≤ x)).length
  | 0, _ => by simp [manyTo]
  | q + 1, h => by
    have := hr q (by omega)
    rw [manyTo, manyTo_eq l hr q (by omega), take_succ_getD (by omega), List.filter_append, List.length_append]
    congr 1
    by_cases e : l.getD q 0 = -1
    · rw [if_pos e, e]; rfl
    · rw [if_neg e, List.filter_cons, if_pos (decide_eq_true (by omega))]; rfl
theorem prMany_ev (l : List Int) (hn : l.length ≤ 1000000) : Ev (fun k => spec_prMany.f k l) ((manyTo l l.length : Nat) : Int) := by
  unfold spec_prMany.f
  have := Ev.up0 l.length (fun q => ((manyTo l q : Nat) : Int)) (fun k s q => spec_prMany.l0 k s l (l.length : Int) q) ((manyTo l l.length : Nat) : Int) (fun q hq h => ?_) (Ev.end_ fun k => ?_)
  · simpa [manyTo] using this
  · have hm := manyTo_le l q
    refine Ev.one h fun k => ?_
    rw [spec_prMany.l0, if_pos (by omega), if_pos (by omega), if_pos (by omega), rd_nat, wrap_next (n := l.length) hq (by omega), manyTo]
    by_cases hf : l.getD q 0 = -1
    · rw [if_pos hf, if_pos hf]; rfl
    · rw [if_neg hf, if_neg hf, wrap_next (n := 2000000) (by omega) (by omega)]
  · rw [spec_prMany.l0, if_neg (by omega)]
theorem many_keysZ {l : List Int} (hr : ∀ j, j < l.length → -1 ≤ l.getD j 0) : manyTo l l.length = (keysZ l).length := by
  rw [manyTo_eq l hr l.length (Nat.le_refl _), List.take_length, (keysZ_perm l).length_eq]
end Go.Proofs.Ytfblohigbdomjaa.G
namespace TabT
/-- A place on a circle of n, from below 2 n. -/
def cy (n i : Nat) : Nat := if i < n then i else i - n
theorem cy_mod {n i : Nat} (h : i < 2 * n) : i % n = cy n i := by
  unfold cy
  split
  · exact Nat.mod_eq_of_lt ‹_›
  · rw [Nat.mod_eq_sub_mod (by omega), Nat.mod_eq_of_lt (by omega)]
theorem cy_lt {n i : Nat} (h : i < 2 * n) : cy n i < n := by unfold cy; split <;> omega
/-- Is the cell used? -/
def us (t : List Int) (i : Nat) : Bool := decide (0 ≤ t.getD i (-1))
theorem us_lt {t : List Int} {i : Nat} (h : us t i = true) : i < t.length := by
  rcases Nat.lt_or_ge i t.length with h1 | h1
  · exact h1
  · rw [us, List.getD_eq_getElem?_getD, List.getElem?_eq_none h1] at h; simp at h
theorem getD_set (t : List Int) (p i : Nat) (k d : Int) (hp : p < t.length) : (t.set p k).getD i d = if i = p then k else t.getD i d := by
  rw [List.getD_eq_getElem?_getD, List.getElem?_set, List.getD_eq_getElem?_getD]
  by_cases e : p = i
  · subst e; simp [hp]
  · simp [e, Ne.symm e]
theorem us_set (t : List Int) (p i : Nat) (k : Int) (hp : p < t.length) (hk : 0 ≤ k) : us (t.set p k) i = (decide (i = p) || us t i) := by
  unfold us
  rw [getD_set _ _ _ _ _ hp]
  by_cases e : i = p
  · simp [e, hk]
  · simp [e]
/-- The first free cell from a on: how far it is. -/
def ffFrom (t : List Int) (a : Nat) : Nat → Nat → Nat
  | 0, d => d
  | k + 1, d => if us t (cy t.length (a + d)) = true then ffFrom t a k (d + 1) else d
def ff (t : List Int) (a : Nat) : Nat := ffFrom t a t.length 0
theorem ffFrom_eq (t : List Int) (a : Nat) (e : Nat) (hf : us t (cy t.length (a + e)) = false) :
    ∀ (k d : Nat), d ≤ e → e < d + k → (∀ m, d ≤ m → m < e → us t (cy t.length (a + m)) = true) → ffFrom t a k d = e
  | 0, d, h1, h2, _ => by omega
  | k + 1, d, h1, h2, hu => by
    unfold ffFrom
    by_cases c : d = e
    · subst c; rw [hf]; simp
    · rw [if_pos (hu d (Nat.le_refl _) (by omega))]
      exact ffFrom_eq t a e hf k (d + 1) (by omega) (by omega) (fun m h3 h4 => hu m (by omega) h4)
theorem ff_eq {t : List Int} {a e : Nat} (he : e < t.length) (hf : us t (cy t.length (a + e)) = false) (hu : ∀ m, m < e → us t (cy t.length (a + m)) = true) : ff t a = e :=
  ffFrom_eq t a e hf _ 0 (Nat.zero_le _) (by omega) (fun m _ h => hu m h)
/-- A least number. -/
theorem least_nat {p : Nat → Prop} [DecidablePred p] : ∀ (N : Nat), p N → ∃ e, e ≤ N ∧ p e ∧ ∀ m, m < e → ¬ p m
  | 0, h => ⟨0, Nat.le_refl _, h, fun m hm => absurd hm (Nat.not_lt_zero _)⟩
  | N + 1, h => by
    by_cases hx : ∃ m, m ≤ N ∧ p m
    · obtain ⟨m, hm, hp⟩ := hx
      obtain ⟨e, he, hpe, hle⟩ := least_nat m hp
      exact ⟨e, by omega, hpe, hle⟩
    · exact ⟨N + 1, Nat.le_refl _, h, fun m hm hp => hx ⟨m, by omega, hp⟩⟩
/-- There is a free cell. -/
def Free (t : List Int) : Prop := ∃ i, i < t.length ∧ us t i = false
theorem ff_spec {t : List Int} (hF : Free t) {a : Nat} (ha : a < t.length) :
    ff t a < t.length ∧ us t (cy t.length (a + ff t a)) = false ∧ ∀ m, m < ff t a → us t (cy t.length (a + m)) = true := by
  obtain ⟨i, hi, hu⟩ := hF
  have hx : us t (cy t.length (a + cy t.length (i + t.length - a))) = false := by
    have : cy t.length (a + cy t.length (i + t.length - a)) = i := by unfold cy; split <;> split <;> omega
    rw [this]; exact hu
  obtain ⟨e, he, hpe, hle⟩ := least_nat (p := fun e => us t (cy t.length (a + e)) = false) _ hx
  have hlt : e < t.length := by have : cy t.length (i + t.length - a) < t.length := cy_lt (by omega); omega
  have := ff_eq hlt hpe (fun m hm => by simpa using hle m hm)
  rw [this]
  exact ⟨hlt, hpe, fun m hm => by simpa using hle m hm⟩
/-- A key's own cell. -/
def own (n : Nat) (k : Int) : Nat := (k % (n : Int)).toNat
theorem own_lt {n : Nat} (hn : 0 < n) (k : Int) : own n k < n := by
  unfold own
  have := Int.emod_lt_of_pos k (show (0 : Int) < n by omega)
  have := Int.emod_nonneg k (show (n : Int) ≠ 0 by omega)
  omega
/-- Where a key goes. -/
def pos (t : List Int) (k : Int) : Nat := cy t.length (own t.length k + ff t (own t.length k))
def ins (t : List Int) (k : Int) : List Int := t.set (pos t k) k
@[simp] theorem length_ins (t : List Int) (k : Int) : (ins t k).length = t.length := by simp [ins]
/-- What a key costs in a cell. -/
def cost (n i : Nat) (k : Int) : Nat := cy n (i + n - own n k)
theorem cost_lt {n i : Nat} (hi : i < n) (k : Int) : cost n i k < n := cy_lt (by have := own_lt (n := n) (by omega) k; omega)
theorem own_cost {n i : Nat} (hi : i < n) (k : Int) : cy n (own n k + cost n i k) = i := by
  have := own_lt (n := n) (by omega) k
  unfold cost cy; split <;> split <;> omega
theorem pos_lt {t : List Int} (hF : Free t) (k : Int) : pos t k < t.length := by
  have hn : 0 < t.length := by obtain ⟨i, hi, _⟩ := hF; omega
  have ho := own_lt hn k
  have := (ff_spec hF ho).1
  exact cy_lt (by omega)
/-- The sum of all costs. -/
def costs (t : List Int) : List Nat := t.mapIdx fun i k => if 0 ≤ k then cost t.length i k else 0
/-- Alike in their used cells. -/
def Alike (t u : List Int) : Prop := t.length = u.length ∧ ∀ i, us t i = us u i
theorem Alike.refl (t : List Int) : Alike t t := ⟨rfl, fun _ => rfl⟩
theorem Alike.symm {t u : List Int} (h : Alike t u) : Alike u t := ⟨h.1.symm, fun i => (h.2 i).symm⟩
theorem Alike.trans {t u v : List Int} (h : Alike t u) (k : Alike u v) : Alike t v := ⟨h.1.trans k.1, fun i => (h.2 i).trans (k.2 i)⟩
theorem Alike.free {t u : List Int} (h : Alike t u) (hF : Free t) : Free u := by
  obtain ⟨i, hi, hu⟩ := hF
  exact ⟨i, by have := h.1; omega, by rw [← h.2]; exact hu⟩
/-- How many cells are used. -/
def many (t : List Int) : Nat := (t.filter fun k => decide (0 ≤ k)).length
theorem free_of_many : ∀ (t : List Int), many t < t.length → Free t
  | [], h => by simp [many] at h
  | k :: t, h => by
    by_cases hk : 0 ≤ k
    · have : many t < t.length := by simp only [many, List.filter_cons, hk, decide_true, if_true, List.length_cons] at h ⊢; omega
      obtain ⟨i, hi, hu⟩ := free_of_many t this
      exact ⟨i + 1, by simp; omega, by simpa [us] using hu⟩
    · exact ⟨0, by simp, by simp [us]; omega⟩
theorem many_set : ∀ (t : List Int) (p : Nat) (k : Int), us t p = false → p < t.length → 0 ≤ k → many (t.set p k) = many t + 1
  | [], p, k, _, h, _ => by simp at h
  | x :: t, 0, k, hu, _, hk => by have : ¬ 0 ≤ x := by simpa [us] using hu
                                  simp [many, this, hk]
  | x :: t, p + 1, k, hu, hp, hk => by
    have := many_set t p k (by simpa [us] using hu) (by simpa using hp) hk
    simp only [many, List.set_cons_succ, List.filter_cons] at this ⊢
    split
    · simp only [List.length_cons]; omega
    · omega
/-- All keys, in order. -/
def insAll (t : List Int) (ks : List Int) : List Int := ks.foldl ins t
@[simp] theorem length_insAll (ks : List Int) : ∀ (t : List Int), (insAll t ks).length = t.length := by
  induction ks with
  | nil => intro t; rfl
  | cons k ks ih => intro t; simp only [insAll, List.foldl_cons] at ih ⊢; rw [ih]; simp
structure Valid (t : List Int) : Prop where
  free : Free t
  ge : ∀ i, i < t.length → -1 ≤ t.getD i (-1)
  nodup : ∀ i j, us t i = true → us t j = true → t.getD i (-1) = t.getD j (-1) → i = j
  path : ∀ i, us t i = true → ∀ m, m < cost t.length i (t.getD i (-1)) → us t (cy t.length (own t.length (t.getD i (-1)) + m)) = true
/-- A part of a table. -/
def Part (p t : List Int) : Prop := p.length = t.length ∧ ∀ i, us p i = true → us t i = true ∧ p.getD i (-1) = t.getD i (-1)
/-- The key of a cell may come next. -/
def Ready (t p : List Int) (i : Nat) : Prop := us t i = true ∧ us p i = false ∧ ∀ m, m < cost t.length i (t.getD i (-1)) → us p (cy t.length (own t.length (t.getD i (-1)) + m)) = true
theorem exists_ready {t p : List Int} (hV : Valid t) (hne : ∃ i, us t i = true ∧ us p i = false) : ∃ i, Ready t p i := by
  obtain ⟨g, hg, hgu⟩ := hV.free
  obtain ⟨i0, h1, h2⟩ := hne
  have hi0 := us_lt h1
  have hx : 1 ≤ cy t.length (i0 + t.length - g) ∧ us t (cy t.length (g + cy t.length (i0 + t.length - g))) = true ∧ us p (cy t.length (g + cy t.length (i0 + t.length - g))) = false := by
    have e : cy t.length (g + cy t.length (i0 + t.length - g)) = i0 := by unfold cy; split <;> split <;> omega
    rw [e]
    refine ⟨?_, h1, h2⟩
    have : i0 ≠ g := fun e => by rw [e, hgu] at h1; cases h1
    unfold cy; split <;> omega
  obtain ⟨e, he, ⟨he1, hp1, hp2⟩, hle⟩ := least_nat (p := fun e => 1 ≤ e ∧ us t (cy t.length (g + e)) = true ∧ us p (cy t.length (g + e)) = false) _ hx
  have hen : e < t.length := by have : cy t.length (i0 + t.length - g) < t.length := cy_lt (by omega); omega
  refine ⟨_, hp1, hp2, fun m hm => ?_⟩
  have hi := us_lt hp1
  generalize hk : t.getD (cy t.length (g + e)) (-1) = k at hm ⊢
  have hpath := hV.path _ hp1
  rw [hk] at hpath
  have ho := own_lt (n := t.length) (by omega) k
  have hc := cost_lt hi k
  have hoc := own_cost hi k
  generalize hcc : cost t.length (cy t.length (g + e)) k = c at *
  generalize own t.length k = o at *
  have hce : c < e := by
    rcases Nat.lt_or_ge c e with h | h
    · exact h
    · have := hpath (c - e) (by omega)
      have e1 : cy t.length (o + (c - e)) = g := by revert hoc; unfold cy; split <;> split <;> split <;> omega
      rw [e1, hgu] at this; cases this
  have hu := hpath m hm
  have e2 : cy t.length (o + m) = cy t.length (g + (e - c + m)) := by revert hoc; unfold cy; split <;> split <;> split <;> split <;> omega
  rw [e2] at hu ⊢
  cases hq : us p (cy t.length (g + (e - c + m))) with
  | true => rfl
  | false => exact absurd ⟨by omega, hu, hq⟩ (hle (e - c + m) (by omega))
theorem Part.free {p t : List Int} (hP : Part p t) (hF : Free t) : Free p := by
  obtain ⟨i, hi, hu⟩ := hF
  refine ⟨i, by rw [hP.1]; exact hi, ?_⟩
  cases h : us p i with
  | false => rfl
  | true => rw [(hP.2 i h).1] at hu; cases hu
/-- The key that may come next comes to its cell. -/
theorem ready_pos {t p : List Int} (hP : Part p t) {i : Nat} (hR : Ready t p i) : pos p (t.getD i (-1)) = i := by
  have hi := us_lt hR.1
  have : ff p (own t.length (t.getD i (-1))) = cost t.length i (t.getD i (-1)) := by
    apply ff_eq
    · rw [hP.1]; exact cost_lt hi _
    · rw [hP.1, own_cost hi]; exact hR.2.1
    · intro m hm; rw [hP.1]; exact hR.2.2 m hm
  unfold pos
  rw [hP.1, this, own_cost hi]
theorem Part.set {p t : List Int} (hP : Part p t) {i : Nat} (hu : us t i = true) : Part (p.set i (t.getD i (-1))) t := by
  have hi := us_lt hu
  refine ⟨by simpa using hP.1, fun j hj => ?_⟩
  rw [us_set _ _ _ _ (by rw [hP.1]; exact hi) (by simpa [us] using hu)] at hj
  rw [getD_set _ _ _ _ _ (by rw [hP.1]; exact hi)]
  by_cases e : j = i
  · subst e; simp [hu]
  · simp [e] at hj ⊢; exact hP.2 j hj
/-- A part in which all cells are used that are used in the whole. -/
theorem Part.full {p t : List Int} (hP : Part p t) (hg : ∀ i, i < t.length → -1 ≤ t.getD i (-1)) (hp : ∀ i, i < p.length → -1 ≤ p.getD i (-1)) (h : ∀ i, us t i = true → us p i = true) : p = t := by
  apply List.ext_getElem hP.1
  intro i h1 h2
  have e1 : p.getD i (-1) = p[i] := by rw [List.getD_eq_getElem?_getD, List.getElem?_eq_getElem h1]; rfl
  have e2 : t.getD i (-1) = t[i] := by rw [List.getD_eq_getElem?_getD, List.getElem?_eq_getElem h2]; rfl
  cases hu : us t i with
  | true => rw [← e1, ← e2]; exact (hP.2 i (h i hu)).2
  | false =>
    have hq : us p i = false := by
      cases hq : us p i with
      | false => rfl
      | true => rw [(hP.2 i hq).1] at hu; cases hu
    have a := hg i h2
    have b := hp i h1
    simp only [us, decide_eq_false_iff_not] at hu hq
    omega
/-- All but the paths through the hole are as in a table. -/
structure Holed (t : List Int) (h : Nat) : Prop where
  hole : h < t.length ∧ t.getD h (-1) = -1
  other : ∃ g, g < t.length ∧ g ≠ h ∧ us t g = false
  ge : ∀ i, i < t.length → -1 ≤ t.getD i (-1)
  nodup : ∀ i j, us t i = true → us t j = true → t.getD i (-1) = t.getD j (-1) → i = j
  path : ∀ i, us t i = true → ∀ m, m < cost t.length i (t.getD i (-1)) → cy t.length (own t.length (t.getD i (-1)) + m) ≠ h → us t (cy t.length (own t.length (t.getD i (-1)) + m)) = true
theorem Holed.valid {t : List Int} {h k : Nat} (hH : Holed t h) (hk : k < t.length) (h1 : 1 ≤ k) (hfree : us t (cy t.length (h + k)) = false)
    (hu : ∀ m, 1 ≤ m → m < k → us t (cy t.length (h + m)) = true ∧ cost t.length (cy t.length (h + m)) (t.getD (cy t.length (h + m)) (-1)) < m) : Valid t := by
  have hn : 0 < t.length := by omega
  have hh := hH.hole.1
  refine ⟨⟨h, hh, by rw [us, hH.hole.2]; rfl⟩, hH.ge, hH.nodup, fun i hi m hm => ?_⟩
  by_cases e : cy t.length (own t.length (t.getD i (-1)) + m) = h
  · -- the cell i lies behind the hole, before the free cell
    exfalso
    have hil := us_lt hi
    have ho := own_lt hn (t.getD i (-1))
    have hc := cost_lt hil (t.getD i (-1))
    have hoc := own_cost hil (t.getD i (-1))
    have hpath := hH.path i hi
    generalize hcc : cost t.length i (t.getD i (-1)) = c at *
    generalize own t.length (t.getD i (-1)) = o at *
    -- i = h + (c - m)
    have ei : i = cy t.length (h + (c - m)) := by revert e hoc; unfold cy; split <;> split <;> split <;> omega
    rcases Nat.lt_or_ge (c - m) k with hlt | hge
    · have := (hu (c - m) (by omega) hlt).2
      rw [← ei, hcc] at this
      omega
    · have hne : cy t.length (o + (m + k)) = cy t.length (h + k) := by revert e; unfold cy; split <;> split <;> split <;> omega
      rcases Nat.lt_or_ge (m + k) c with hmk | hmk
      · have := hpath (m + k) hmk (by rw [hne]; unfold cy; split <;> omega)
        rw [hne, hfree] at this; cases this
      · have : c - m = k := by omega
        rw [this] at ei
        rw [ei, hfree] at hi; cases hi
  · exact hH.path i hi m hm e
def keys (t : List Int) : List Int := t.filter fun k => decide (0 ≤ k)
theorem keys_set : ∀ (t : List Int) (p : Nat) (k : Int), p < t.length → us t p = false → 0 ≤ k → (keys (t.set p k)).Perm (k :: keys t)
  | [], p, k, h, _, _ => by simp at h
  | x :: t, 0, k, _, hu, hk => by
    have : ¬ 0 ≤ x := by simpa [us] using hu
    simp [keys, this, hk]
  | x :: t, p + 1, k, h, hu, hk => by
    have ih := keys_set t p k (by simpa using h) (by simpa [us] using hu) hk
    simp only [keys, List.set_cons_succ, List.filter_cons] at ih ⊢
    split
    · exact (ih.cons x).trans (List.Perm.swap _ _ _)
    · exact ih
theorem mem_keys {t : List Int} {k : Int} : k ∈ keys t ↔ ∃ i, us t i = true ∧ t.getD i (-1) = k := by
  unfold keys
  rw [List.mem_filter, List.mem_iff_getElem]
  constructor
  · rintro ⟨⟨i, hi, rfl⟩, hk⟩
    have e : t.getD i (-1) = t[i] := by rw [List.getD_eq_getElem?_getD, List.getElem?_eq_getElem hi]; rfl
    exact ⟨i, by rw [us, e]; exact hk, e⟩
  · rintro ⟨i, hu, rfl⟩
    have hi := us_lt hu
    have e : t.getD i (-1) = t[i] := by rw [List.getD_eq_getElem?_getD, List.getElem?_eq_getElem hi]; rfl
    exact ⟨⟨i, hi, e.symm⟩, by rw [us] at hu; exact hu⟩
def empty (n : Nat) : List Int := List.replicate n (-1)
theorem us_empty (n i : Nat) : us (empty n) i = false := by
  unfold us empty
  rw [List.getD_eq_getElem?_getD, List.getElem?_replicate]
  split <;> simp
theorem keys_empty (n : Nat) : keys (empty n) = [] := by
  unfold keys empty
  rw [List.filter_eq_nil_iff]
  intro x hx
  rw [List.mem_replicate] at hx
  simp [hx.2]
theorem Part.keys_le {p t : List Int} (hP : Part p t) : many p ≤ many t := by
  have key : ∀ (p t : List Int), p.length = t.length → (∀ i, us p i = true → us t i = true) → many p ≤ many t := by
    intro p
    induction p with
    | nil => intro t _ _; simp [many]
    | cons x p ih =>
      intro t hl hu
      cases t with
      | nil => simp at hl
      | cons y t =>
        have h0 := hu 0
        have := ih t (by simpa using hl) (fun i hi => by simpa [us] using hu (i + 1) (by simpa [us] using hi))
        simp [us] at h0
        simp only [many, List.filter_cons] at this ⊢
        by_cases hx : 0 ≤ x
        · have hy := h0 hx
          simp only [hx, hy, decide_true, if_true, List.length_cons]; omega
        · simp only [hx, decide_false, Bool.false_eq_true, if_false]
          split
          · simp only [List.length_cons]; omega
          · omega
  exact key p t hP.1 (fun i hi => (hP.2 i hi).1)
/-- From a part, the keys that are left in an order that makes the table. -/
theorem complete {t : List Int} (hV : Valid t) : ∀ (d : Nat) (p : List Int), Part p t → (∀ i, i < p.length → -1 ≤ p.getD i (-1)) → many t ≤ many p + d → ∃ ks, insAll p ks = t ∧ (keys p ++ ks).Perm (keys t) ∧ many p + ks.length = many t := by
  intro d
  induction d with
  | zero =>
    intro p hP hg hm
    refine ⟨[], ?_, ?_⟩
    · show p = t
      apply Classical.byContradiction
      intro hne
      have : ∃ i, us t i = true ∧ us p i = false := by
        apply Classical.byContradiction
        intro hn
        exact hne (hP.full hV.ge hg fun i hi => by
          cases h : us p i with
          | true => rfl
          | false => exact absurd ⟨i, hi, h⟩ hn)
      obtain ⟨i, hi, hpi⟩ := this
      have := Part.keys_le (hP.set hi)
      rw [many_set p i _ hpi (by rw [hP.1]; exact us_lt hi) (by simpa [us] using hi)] at this
      omega
    · have hle := hP.keys_le
      have : p = t := by
        apply Classical.byContradiction
        intro hne
        have : ∃ i, us t i = true ∧ us p i = false := by
          apply Classical.byContradiction
          intro hn
          exact hne (hP.full hV.ge hg fun i hi => by
            cases h : us p i with
            | true => rfl
            | false => exact absurd ⟨i, hi, h⟩ hn)
        obtain ⟨i, hi, hpi⟩ := this
        have := Part.keys_le (hP.set hi)
        rw [many_set p i _ hpi (by rw [hP.1]; exact us_lt hi) (by simpa [us] using hi)] at this
        omega
      rw [this]; simp
  | succ d ih =>
    intro p hP hg hm
    by_cases hx : ∃ i, us t i = true ∧ us p i = false
    · obtain ⟨i, hR⟩ := exists_ready hV hx
      have hk : 0 ≤ t.getD i (-1) := by have := hR.1; rw [us] at this; exact of_decide_eq_true this
      have hip : i < p.length := by rw [hP.1]; exact us_lt hR.1
      have e : ins p (t.getD i (-1)) = p.set i (t.getD i (-1)) := by rw [ins, ready_pos hP hR]
      obtain ⟨ks, h1, h2, h3⟩ := ih (ins p (t.getD i (-1))) (by rw [e]; exact hP.set hR.1) (by
        intro j hj
        rw [e, getD_set _ _ _ _ _ hip]
        split
        · omega
        · exact hg j (by simpa using hj)) (by rw [e, many_set p i _ hR.2.1 hip hk]; omega)
      rw [e, many_set p i _ hR.2.1 hip hk] at h3
      refine ⟨t.getD i (-1) :: ks, h1, ?_, by simp; omega⟩
      have hp := keys_set p i _ hip hR.2.1 hk
      rw [← e] at hp
      refine List.Perm.trans ?_ h2
      refine List.Perm.trans ?_ (hp.symm.append_right ks)
      rw [List.cons_append]
      exact List.perm_middle
    · have : p = t := hP.full hV.ge hg fun i hi => by
          cases h : us p i with
          | true => rfl
          | false => exact absurd ⟨i, hi, h⟩ hx
      exact ⟨[], by rw [this]; rfl, by rw [this]; simp, by rw [this]; rfl⟩
theorem Part.empty (t : List Int) : Part (empty t.length) t := ⟨by simp [TabT.empty], fun i hi => by rw [us_empty] at hi; cases hi⟩
theorem ge_empty (n : Nat) : ∀ i, i < (empty n).length → -1 ≤ (empty n).getD i (-1) := by
  intro i _
  unfold empty
  rw [List.getD_eq_getElem?_getD, List.getElem?_replicate]
  split <;> simp
theorem Valid.order {t : List Int} (hV : Valid t) : ∃ ks, insAll (empty t.length) ks = t ∧ ks.Perm (keys t) := by
  obtain ⟨ks, h1, h2, _⟩ := complete hV (many t) (empty t.length) (Part.empty t) (ge_empty _) (by omega)
  rw [keys_empty] at h2
  exact ⟨ks, h1, h2⟩
/-- A key in a cell comes ahead of another one in the next cell. -/
def Bef (n i : Nat) (x y : Int) : Prop := cost n (cy n (i + 1)) y < cost n i x + 1 ∨ cost n (cy n (i + 1)) y = cost n i x + 1 ∧ y < x
structure Robin (t : List Int) : Prop where
  valid : Valid t
  sorted : ∀ i, us t i = true → us t (cy t.length (i + 1)) = true → Bef t.length i (t.getD i (-1)) (t.getD (cy t.length (i + 1)) (-1))
def Over (n i : Nat) (h o : Int) : Prop := cost n i o < cost n i h ∨ cost n i h = cost n i o ∧ o < h
instance (n i : Nat) (h o : Int) : Decidable (Over n i h o) := by unfold Over; infer_instance
/-- What holds at a cell, with a key in hand. -/
structure Hand (t : List Int) (h : Int) (a : Nat) : Prop where
  robin : Robin t
  two : 2 ≤ t.length
  at_ : a < t.length
  pos : 0 ≤ h
  new : ∀ i, us t i = true → t.getD i (-1) ≠ h
  path : ∀ m, m < cost t.length a h → us t (cy t.length (own t.length h + m)) = true
  ahead : us t (cy t.length (a + t.length - 1)) = true → Bef t.length (cy t.length (a + t.length - 1)) (t.getD (cy t.length (a + t.length - 1)) (-1)) h
theorem cost_next {n a : Nat} (ha : a < n) (h2 : 2 ≤ n) (h : Int) (hc : cost n a h + 1 < n) : cost n (cy n (a + 1)) h = cost n a h + 1 := by
  have ho := own_lt (n := n) (by omega) h
  revert hc
  unfold cost cy
  generalize own n h = o at *
  split <;> split <;> split <;> omega
theorem prev_next {n a : Nat} (ha : a < n) (h2 : 2 ≤ n) : cy n (cy n (a + 1) + n - 1) = a := by unfold cy; split <;> split <;> omega
theorem next_prev {n a : Nat} (ha : a < n) (h2 : 2 ≤ n) : cy n (cy n (a + n - 1) + 1) = a := by unfold cy; split <;> split <;> omega
theorem next_ne {n a : Nat} (ha : a < n) (h2 : 2 ≤ n) : cy n (a + 1) ≠ a := by unfold cy; split <;> omega
/-- A key whose path is used up to a used cell costs less than n - 1 there. -/
theorem cost_small {t : List Int} (hF : Free t) {a : Nat} {h : Int} (ha : us t a = true) (hp : ∀ m, m < cost t.length a h → us t (cy t.length (own t.length h + m)) = true) : cost t.length a h + 1 < t.length := by
  have hal := us_lt ha
  have hc := cost_lt hal h
  have hoc := own_cost hal h
  have ho := own_lt (n := t.length) (by omega) h
  apply Classical.byContradiction
  intro hn
  obtain ⟨g, hg, hgu⟩ := hF
  have hcn : cost t.length a h = t.length - 1 := by omega
  generalize cost t.length a h = c at *
  generalize own t.length h = o at *
  -- the free cell is some o + m
  have e : cy t.length (o + cy t.length (g + t.length - o)) = g := by unfold cy; split <;> split <;> omega
  have hm : cy t.length (g + t.length - o) < t.length := cy_lt (by omega)
  rcases Nat.lt_or_ge (cy t.length (g + t.length - o)) c with h1 | h1
  · have := hp _ h1
    rw [e, hgu] at this; cases this
  · have : cy t.length (g + t.length - o) = c := by omega
    rw [this, hoc] at e
    rw [← e, ha] at hgu; cases hgu
theorem us_same {t : List Int} {a : Nat} {h : Int} (ha : us t a = true) (hh : 0 ≤ h) (i : Nat) : us (t.set a h) i = us t i := by
  rw [us_set _ _ _ _ (us_lt ha) hh]
  by_cases e : i = a
  · subst e; simp [ha]
  · simp [e]
theorem Hand.swap {t : List Int} {h : Int} {a : Nat} (H : Hand t h a) (hu : us t a = true) (ho : Over t.length a h (t.getD a (-1))) : Hand (t.set a h) (t.getD a (-1)) (cy t.length (a + 1)) := by
  have hal := H.at_
  have h2 := H.two
  have hV := H.robin.valid
  have us' : ∀ i, us (t.set a h) i = us t i := us_same hu H.pos
  have gd : ∀ i, (t.set a h).getD i (-1) = if i = a then h else t.getD i (-1) := fun i => getD_set _ _ _ _ _ hal
  have hl : (t.set a h).length = t.length := by simp
  obtain ⟨o, hoe⟩ : ∃ o, o = t.getD a (-1) := ⟨_, rfl⟩
  have hpo := hV.path a hu
  rw [← hoe] at ho hpo ⊢
  have ho0 : 0 ≤ o := by rw [us] at hu; rw [hoe]; exact of_decide_eq_true hu
  have hsm := cost_small hV.free hu hpo
  have hcn := cost_next hal h2 o hsm
  have hnew := H.new
  refine ⟨⟨⟨?_, ?_, ?_, ?_⟩, ?_⟩, by rw [hl]; exact h2, by rw [hl]; exact cy_lt (by omega), ho0, ?_, ?_, ?_⟩
  · obtain ⟨g, hg, hgu⟩ := hV.free
    exact ⟨g, by rw [hl]; exact hg, by rw [us']; exact hgu⟩
  · intro i hi
    rw [gd]
    split
    · have := H.pos; omega
    · exact hV.ge i (by rw [hl] at hi; exact hi)
  · intro i j hi hj
    rw [us'] at hi hj
    rw [gd, gd]
    split
    · split
      · intro _; omega
      · intro e; exact absurd e.symm (hnew j hj)
    · split
      · intro e; exact absurd e (hnew i hi)
      · exact hV.nodup i j hi hj
  · intro i hi m hm
    rw [us'] at hi
    rw [gd, hl] at hm ⊢
    rw [us']
    split
    · rename_i e; subst e; rw [if_pos rfl] at hm; exact H.path m hm
    · rename_i e; rw [if_neg e] at hm; exact hV.path i hi m hm
  · intro i hi hi1
    rw [us', hl] at hi1
    rw [us'] at hi
    rw [gd, gd, hl]
    have hil := us_lt hi
    by_cases e1 : i = a
    · subst e1
      rw [if_pos rfl, if_neg (next_ne hal h2)]
      have := H.robin.sorted i hi hi1
      rw [← hoe] at this
      unfold Bef at this ⊢
      unfold Over at ho
      omega
    · rw [if_neg e1]
      by_cases e2 : cy t.length (i + 1) = a
      · rw [if_pos e2]
        have ep : cy t.length (a + t.length - 1) = i := by rw [← e2]; exact prev_next hil h2
        have := H.ahead
        rw [ep] at this
        exact this hi
      · rw [if_neg e2]
        exact H.robin.sorted i hi hi1
  · intro i hi
    rw [us'] at hi
    rw [gd]
    split
    · intro e
      exact hnew a hu (by rw [← hoe, e])
    · rename_i e
      intro e'
      exact e (hV.nodup i a hi hu (by rw [e', hoe]))
  · intro m hm
    rw [hl] at hm ⊢
    rw [us']
    rw [hcn] at hm
    rcases Nat.lt_or_ge m (cost t.length a o) with h1 | h1
    · exact hpo m h1
    · have : m = cost t.length a o := by omega
      rw [this, own_cost hal]; exact hu
  · rw [hl, prev_next hal h2]
    intro _
    rw [gd, if_pos rfl]
    unfold Bef
    rw [hcn]
    unfold Over at ho
    omega
theorem Hand.put {t : List Int} {h : Int} {a : Nat} (H : Hand t h a) (hu : us t a = false) (hm : many t + 1 < t.length) : Robin (t.set a h) := by
  have hal := H.at_
  have h2 := H.two
  have hV := H.robin.valid
  have us' : ∀ i, us (t.set a h) i = (decide (i = a) || us t i) := fun i => us_set _ _ _ _ hal H.pos
  have gd : ∀ i, (t.set a h).getD i (-1) = if i = a then h else t.getD i (-1) := fun i => getD_set _ _ _ _ _ hal
  have hl : (t.set a h).length = t.length := by simp
  have ua : ∀ i, us t i = true → i ≠ a := fun i hi e => by rw [e, hu] at hi; cases hi
  refine ⟨⟨?_, ?_, ?_, ?_⟩, ?_⟩
  · exact free_of_many _ (by rw [many_set t a h hu hal H.pos, hl]; exact hm)
  · intro i hi
    rw [gd]
    split
    · have := H.pos; omega
    · exact hV.ge i (by rw [hl] at hi; exact hi)
  · intro i j hi hj
    rw [us'] at hi hj
    rw [gd, gd]
    by_cases e1 : i = a
    · by_cases e2 : j = a
      · intro _; omega
      · rw [if_pos e1, if_neg e2]
        simp [e2] at hj
        intro e; exact absurd e.symm (H.new j hj)
    · simp [e1] at hi
      by_cases e2 : j = a
      · rw [if_neg e1, if_pos e2]
        intro e; exact absurd e (H.new i hi)
      · simp [e2] at hj
        rw [if_neg e1, if_neg e2]
        exact hV.nodup i j hi hj
  · intro i hi m hm'
    rw [us'] at hi
    rw [gd, hl] at hm' ⊢
    rw [us']
    by_cases e1 : i = a
    · rw [if_pos e1] at hm' ⊢
      subst e1
      rw [H.path m hm']; simp
    · simp [e1] at hi
      rw [if_neg e1] at hm' ⊢
      rw [hV.path i hi m hm']; simp
  · intro i hi hi1
    rw [hl] at hi1 ⊢
    rw [us'] at hi hi1
    rw [gd, gd]
    by_cases e1 : i = a
    · subst e1
      have hne := next_ne hal h2
      rw [if_pos rfl, if_neg hne]
      simp [hne] at hi1
      -- the key behind has its own cell there
      have hil := us_lt hi1
      have hp := hV.path _ hi1
      have hc0 : cost t.length (cy t.length (i + 1)) (t.getD (cy t.length (i + 1)) (-1)) = 0 := by
        have hoc := own_cost hil (t.getD (cy t.length (i + 1)) (-1))
        have hlt := cost_lt hil (t.getD (cy t.length (i + 1)) (-1))
        have ho := own_lt (n := t.length) (by omega) (t.getD (cy t.length (i + 1)) (-1))
        generalize cost t.length (cy t.length (i + 1)) (t.getD (cy t.length (i + 1)) (-1)) = c at *
        generalize own t.length (t.getD (cy t.length (i + 1)) (-1)) = o at *
        rcases Nat.eq_zero_or_pos c with h0 | h0
        · exact h0
        · have := hp (c - 1) (by omega)
          have e : cy t.length (o + (c - 1)) = i := by revert hoc; unfold cy; split <;> split <;> split <;> omega
          rw [e, hu] at this; cases this
      unfold Bef
      rw [hc0]
      omega
    · simp [e1] at hi
      rw [if_neg e1]
      by_cases e2 : cy t.length (i + 1) = a
      · rw [if_pos e2]
        have ep : cy t.length (a + t.length - 1) = i := by rw [← e2]; exact prev_next (us_lt hi) h2
        have := H.ahead
        rw [ep] at this
        exact this hi
      · simp [e2] at hi1
        rw [if_neg e2]
        exact H.robin.sorted i hi hi1
theorem Robin.hand {t : List Int} (hR : Robin t) (h2 : 2 ≤ t.length) {k : Int} (hk : 0 ≤ k) (hn : k ∉ keys t) : Hand t k (own t.length k) := by
  have ho := own_lt (n := t.length) (by omega) k
  have hc : cost t.length (own t.length k) k = 0 := by unfold cost cy; split <;> omega
  refine ⟨hR, h2, ho, hk, ?_, ?_, ?_⟩
  · intro i hi e
    exact hn (mem_keys.2 ⟨i, hi, e⟩)
  · intro m hm; rw [hc] at hm; omega
  · intro _
    unfold Bef
    rw [next_prev ho h2, hc]
    omega
theorem Valid.empty {n : Nat} (h : 0 < n) : Valid (empty n) :=
  ⟨⟨0, by simp [TabT.empty, h], us_empty n 0⟩, ge_empty n, fun i j hi => (by rw [us_empty] at hi; cases hi), fun i hi => (by rw [us_empty] at hi; cases hi)⟩
theorem Robin.empty {n : Nat} (h : 0 < n) : Robin (empty n) := ⟨Valid.empty h, fun i hi => (by rw [us_empty] at hi; cases hi)⟩
/-- How far behind the cell g a key's own cell lies. -/
def off (n g : Nat) (k : Int) : Nat := cy n (own n k + n - g)
theorem off_spec {t : List Int} (hV : Valid t) {g : Nat} (hg : g < t.length) (hgu : us t g = false) {e : Nat} (he : e < t.length) (hu : us t (cy t.length (g + e)) = true) :
    1 ≤ off t.length g (t.getD (cy t.length (g + e)) (-1)) ∧ off t.length g (t.getD (cy t.length (g + e)) (-1)) + cost t.length (cy t.length (g + e)) (t.getD (cy t.length (g + e)) (-1)) = e ∧
      ∀ m, off t.length g (t.getD (cy t.length (g + e)) (-1)) ≤ m → m ≤ e → us t (cy t.length (g + m)) = true := by
  have hil := us_lt hu
  have hp := hV.path _ hu
  have ho := own_lt (n := t.length) (by omega) (t.getD (cy t.length (g + e)) (-1))
  have hoc := own_cost hil (t.getD (cy t.length (g + e)) (-1))
  have hcl := cost_lt hil (t.getD (cy t.length (g + e)) (-1))
  unfold off
  generalize cost t.length (cy t.length (g + e)) (t.getD (cy t.length (g + e)) (-1)) = c at *
  generalize own t.length (t.getD (cy t.length (g + e)) (-1)) = o at *
  have he1 : e ≠ 0 := by
    intro h0
    have : cy t.length (g + e) = g := by rw [h0]; unfold cy; split <;> omega
    rw [this, hgu] at hu; cases hu
  have hce : c < e := by
    rcases Nat.lt_or_ge c e with h | h
    · exact h
    · have := hp (c - e) (by omega)
      have e1 : cy t.length (o + (c - e)) = g := by revert hoc; unfold cy; split <;> split <;> split <;> omega
      rw [e1, hgu] at this; cases this
  have hof : cy t.length (o + t.length - g) = e - c := by revert hoc; unfold cy; split <;> split <;> split <;> omega
  rw [hof]
  refine ⟨by omega, by omega, fun m h1 h2 => ?_⟩
  rcases Nat.lt_or_ge m e with h3 | h3
  · have := hp (m - (e - c)) (by omega)
    have e2 : cy t.length (o + (m - (e - c))) = cy t.length (g + m) := by revert hoc; unfold cy; split <;> split <;> split <;> split <;> omega
    rwa [e2] at this
  · have : m = e := by omega
    rw [this]; exact hu
/-- Along used cells, keys come in one order. -/
def Lt (n g : Nat) (x y : Int) : Prop := off n g x < off n g y ∨ off n g x = off n g y ∧ y < x
theorem Lt.trans {n g : Nat} {x y z : Int} (h : Lt n g x y) (k : Lt n g y z) : Lt n g x z := by unfold Lt at *; omega
theorem Robin.next {t : List Int} (hR : Robin t) {g : Nat} (hg : g < t.length) (hgu : us t g = false) {e : Nat} (he : e + 1 < t.length) (h1 : us t (cy t.length (g + e)) = true) (h2 : us t (cy t.length (g + (e + 1))) = true) :
    Lt t.length g (t.getD (cy t.length (g + e)) (-1)) (t.getD (cy t.length (g + (e + 1))) (-1)) := by
  have s1 := off_spec hR.valid hg hgu (by omega) h1
  have s2 := off_spec hR.valid hg hgu he h2
  have en : cy t.length (cy t.length (g + e) + 1) = cy t.length (g + (e + 1)) := by unfold cy; split <;> split <;> split <;> omega
  have := hR.sorted _ h1
  rw [en] at this
  have := this h2
  unfold Bef at this
  rw [en] at this
  unfold Lt
  omega
end TabT
namespace Go.Proofs.Ytfblohigbdomjaa.G
open Go.RowKit Go.Proofs.YtfblohigbdomjaaW.PrintWords Go.Proofs.YtfblohigbdomjaaW.PrintLast Go.Proofs.YtfblohigbdomjaaW.PrintMore
set_option linter.unusedVariables false
set_option linter.unusedSimpArgs false
set_option linter.unusedSectionVars false
theorem t_g0 {t : List Int} {i : Nat} (h : i < t.length) : t.getD i (-1) = t.getD i 0 := by
  rw [List.getD_eq_getElem?_getD, List.getD_eq_getElem?_getD, List.getElem?_eq_getElem h]; rfl
theorem cy_self {n a : Nat} (h : a < n) : TabT.cy n (a + 0) = a := by unfold TabT.cy; split <;> omega
theorem cy_shift {n a d m : Nat} (ha : a < n) (hd : d + 1 < n) (hm : m ≤ d) : TabT.cy n (TabT.cy n (a + 1) + m) = TabT.cy n (a + (m + 1)) := by
  unfold TabT.cy; split <;> split <;> split <;> omega
theorem step_arith {n a : Nat} (ha : a < n) (hn : n ≤ 1000) : Int.tmod (wrap64 ((a : Int) + 1)) (n : Int) = ((TabT.cy n (a + 1) : Nat) : Int) := by
  rw [wrap_next (n := n) ha (by omega), ← TabT.cy_mod (by omega)]
  rfl
theorem own_arith (key n : Nat) : Int.tmod (key : Int) (n : Int) = ((TabT.own n (key : Int) : Nat) : Int) := by
  unfold TabT.own
  show ((key % n : Nat) : Int) = (((key : Int) % (n : Int)).toNat : Int)
  rw [show ((key : Int) % (n : Int)) = ((key % n : Nat) : Int) from rfl, Int.toNat_natCast]
theorem us_val {t : List Int} {i : Nat} (h : TabT.us t i = true) : 0 ≤ t.getD i 0 := by
  have hi := TabT.us_lt h
  rw [TabT.us, decide_eq_true_eq, t_g0 hi] at h
  exact h
theorem us_free {t : List Int} {i : Nat} (hi : i < t.length) (h : TabT.us t i = false) : t.getD i 0 < 0 := by
  rw [TabT.us, decide_eq_false_iff_not, t_g0 hi] at h
  omega
/-- What the cells of a table may hold. -/
def Cells (t : List Int) : Prop := ∀ i, i < t.length → -1 ≤ t.getD i 0 ∧ t.getD i 0 ≤ 999
theorem Cells.set {t : List Int} (h : Cells t) {p : Nat} {k : Int} (hp : p < t.length) (h0 : 0 ≤ k) (h9 : k ≤ 999) : Cells (t.set p k) := by
  intro i hi
  rw [List.length_set] at hi
  rw [TabT.getD_set _ _ _ _ _ hp]
  split
  · omega
  · exact h i hi
theorem Cells.empty (n : Nat) : Cells (TabT.empty n) := by
  intro i hi
  have hi2 : i < n := by simpa [TabT.empty] using hi
  unfold TabT.empty
  rw [List.getD_eq_getElem?_getD, List.getElem?_replicate, if_pos hi2]
  simp
theorem Cells.ins {t : List Int} (h : Cells t) (hF : TabT.Free t) {k : Int} (h0 : 0 ≤ k) (h9 : k ≤ 999) : Cells (TabT.ins t k) := h.set (TabT.pos_lt hF k) h0 h9
theorem ins_len (t : List Int) (k : Int) : (TabT.ins t k).length = t.length := by simp [TabT.ins]
end Go.Proofs.Ytfblohigbdomjaa.G
namespace Go.Proofs.Ytfblohigbdomjaa.G
open Go.RowKit Go.Proofs.YtfblohigbdomjaaW.PrintWords Go.Proofs.YtfblohigbdomjaaW.PrintLast Go.Proofs.YtfblohigbdomjaaW.PrintMore
set_option linter.unusedVariables false
set_option linter.unusedSimpArgs false
set_option linter.unusedSectionVars false
section
variable (t : List Int) (key : Nat) (hn : 1 ≤ t.length) (hn2 : t.length ≤ 1000) (hc : Cells t) (hk : key ≤ 999)
include hn hn2 hc hk
theorem sp_ins : ∀ (d a : Nat), a < t.length → d < t.length → (∀ m, m < d → TabT.us t (TabT.cy t.length (a + m)) = true) → TabT.us t (TabT.cy t.length (a + d)) = false →
    Ev (fun k => spec_prInsert.l0 k t (key : Int) (a : Int)) (((TabT.cy t.length (a + d) : Nat) : Int), t.set (TabT.cy t.length (a + d)) (key : Int)) := by
  intro d
  induction d with
  | zero =>
    intro a ha hd _ hf
    rw [cy_self ha] at hf ⊢
    have h1 := us_free ha hf
    have h2 := hc a ha
    refine Ev.end_ fun k => ?_
    rw [spec_prInsert.l0, if_pos (by omega), if_pos (by omega), rd_nat, if_pos (by omega), Int.toNat_natCast]
  | succ d ih =>
    intro a ha hd hu hf
    have h0 := hu 0 (by omega)
    rw [cy_self ha] at h0
    have h1 := us_val h0
    have hlt := TabT.cy_lt (n := t.length) (i := a + 1) (by omega)
    have := ih (TabT.cy t.length (a + 1)) hlt (by omega) (fun m hm => by rw [cy_shift ha hd (by omega)]; exact hu (m + 1) (by omega)) (by rw [cy_shift ha hd (Nat.le_refl _)]; exact hf)
    rw [cy_shift ha hd (Nat.le_refl _)] at this
    refine Ev.one this fun k => ?_
    rw [spec_prInsert.l0, if_pos (by omega), if_pos (by omega), rd_nat, if_neg (by omega), if_neg (by omega), step_arith ha hn2]
theorem im_ins : ∀ (d a : Nat), a < t.length → d < t.length → (∀ m, m < d → TabT.us t (TabT.cy t.length (a + m)) = true) → TabT.us t (TabT.cy t.length (a + d)) = false →
    Ev (fun k => impl_Table_insert.l0 k (key : Int) (a : Int) t) (((TabT.cy t.length (a + d) : Nat) : Int), t.set (TabT.cy t.length (a + d)) (key : Int)) := by
  intro d
  induction d with
  | zero =>
    intro a ha hd _ hf
    rw [cy_self ha] at hf ⊢
    have h1 := us_free ha hf
    have h2 := hc a ha
    refine Ev.end_ fun k => ?_
    rw [impl_Table_insert.l0, if_pos (by omega), if_pos (by omega), rd_nat, if_neg (by omega), Int.toNat_natCast]
  | succ d ih =>
    intro a ha hd hu hf
    have h0 := hu 0 (by omega)
    rw [cy_self ha] at h0
    have h1 := us_val h0
    have hlt := TabT.cy_lt (n := t.length) (i := a + 1) (by omega)
    have := ih (TabT.cy t.length (a + 1)) hlt (by omega) (fun m hm => by rw [cy_shift ha hd (by omega)]; exact hu (m + 1) (by omega)) (by rw [cy_shift ha hd (Nat.le_refl _)]; exact hf)
    rw [cy_shift ha hd (Nat.le_refl _)] at this
    refine Ev.one this fun k => ?_
    rw [impl_Table_insert.l0, if_pos (by omega), if_pos (by omega), rd_nat, if_pos (by omega), if_neg (by omega), step_arith ha hn2]
theorem prInsert_nat (hF : TabT.Free t) : Ev (fun k => spec_prInsert.f k t (key : Int)) (((TabT.pos t (key : Int) : Nat) : Int), TabT.ins t (key : Int)) := by
  unfold spec_prInsert.f
  have ho := TabT.own_lt (n := t.length) (by omega) (key : Int)
  have s := TabT.ff_spec hF ho
  have := sp_ins t key hn hn2 hc hk _ _ ho s.1 s.2.2 s.2.1
  have e : ((t.length : Int) = 0) = False := eq_false (by omega)
  simp only [e, if_false, own_arith]
  exact this
theorem tInsert_nat (hF : TabT.Free t) : Ev (fun k => impl_Table_insert.f k t (key : Int)) (((TabT.pos t (key : Int) : Nat) : Int), TabT.ins t (key : Int)) := by
  unfold impl_Table_insert.f
  have ho := TabT.own_lt (n := t.length) (by omega) (key : Int)
  have s := TabT.ff_spec hF ho
  have := im_ins t key hn hn2 hc hk _ _ ho s.1 s.2.2 s.2.1
  have e : ((t.length : Int) = 0) = False := eq_false (by omega)
  simp only [e, if_false, own_arith]
  exact this
end
end Go.Proofs.Ytfblohigbdomjaa.G
namespace Go.Proofs.Ytfblohigbdomjaa.G
open Go.RowKit Go.Proofs.YtfblohigbdomjaaW.PrintWords Go.Proofs.YtfblohigbdomjaaW.PrintLast Go.Proofs.YtfblohigbdomjaaW.PrintMore
set_option linter.unusedVariables false
set_option linter.unusedSimpArgs false
set_option linter.unusedSectionVars false
theorem prInsert_ev (t : List Int) (key : Int) (hn : 1 ≤ t.length) (hn2 : t.length ≤ 1000) (hc : Cells t) (hF : TabT.Free t) (h0 : 0 ≤ key) (h9 : key ≤ 999) : Ev (fun k => spec_prInsert.f k t key) (((TabT.pos t key : Nat) : Int), TabT.ins t key) := by
  obtain ⟨m, rfl⟩ : ∃ m : Nat, key = m := ⟨key.toNat, by omega⟩
  exact prInsert_nat t m hn hn2 hc (by omega) hF
theorem tInsert_ev (t : List Int) (key : Int) (hn : 1 ≤ t.length) (hn2 : t.length ≤ 1000) (hc : Cells t) (hF : TabT.Free t) (h0 : 0 ≤ key) (h9 : key ≤ 999) : Ev (fun k => impl_Table_insert.f k t key) (((TabT.pos t key : Nat) : Int), TabT.ins t key) := by
  obtain ⟨m, rfl⟩ : ∃ m : Nat, key = m := ⟨key.toNat, by omega⟩
  exact tInsert_nat t m hn hn2 hc (by omega) hF
/-- What holds when q of the keys are in. -/
structure Filled (n : Nat) (t : List Int) (q : Nat) : Prop where
  len_ : t.length = n
  cells : Cells t
  many_ : TabT.many t = q
theorem Filled.free {n q : Nat} {t : List Int} (h : Filled n t q) (hq : q < n) : TabT.Free t := TabT.free_of_many t (by rw [h.many_, h.len_]; exact hq)
end Go.Proofs.Ytfblohigbdomjaa.G
namespace Go.Proofs.Ytfblohigbdomjaa.Pure
open Go.RowKit Go.Proofs.Ytfblohigbdomjaa.G Go.Proofs.YtfblohigbdomjaaW.PrintWords Go.Proofs.YtfblohigbdomjaaW.PrintLast
set_option linter.unusedVariables false
set_option linter.unusedSimpArgs false
theorem tbl_Cells {l : List Int} (h : tblB l = true) : Cells l := by
  obtain ⟨h1, h2, h3, h4⟩ := tblB_parts h
  exact h3
theorem tbl_Free {l : List Int} (h : tblB l = true) : TabT.Free l := by
  obtain ⟨h1, h2, h3, h4⟩ := tblB_parts h
  obtain ⟨j, hj, e⟩ := List.getElem_of_mem h4
  refine ⟨j, hj, ?_⟩
  rw [TabT.us, decide_eq_false_iff_not, List.getD_eq_getElem?_getD, List.getElem?_eq_getElem hj, e]
  decide
def inV (l : List Int) (a : Int) : List Int × Int × Bool := if tblB l = true ∧ (0 ≤ a ∧ a ≤ 999) ∧ a ∉ l ∧ (keysZ l).length + 1 ≠ l.length then (TabT.ins l a, ((TabT.pos l a : Nat) : Int), true) else ([], 0, false)
theorem inV_len (l : List Int) (a : Int) : (inV l a).1.length ≤ l.length := by
  unfold inV
  split
  · rw [ins_len]; exact Nat.le_refl _
  · simp
theorem own_eq (l : List Int) (hn : l.length ≤ 1000000) : spec_l1Own.f l = some l := by
  unfold spec_l1Own.f
  simp only [Option.bind_some, List.nil_append, List.length_nil]
  rw [if_pos (by omega)]
theorem copied_eq (l : List Int) (hn : l.length ≤ 1000000) : impl_Table_copied.f l = some l := by
  unfold impl_Table_copied.f slices_Clone_int_int.f
  rw [if_pos (by omega)]
  rfl
theorem key_eq (a : Int) : spec_prKey.f a = some (decide (0 ≤ a ∧ a ≤ 999)) := by
  unfold spec_prKey.f
  rw [l1In_eq]; rfl
theorem isKey_eq' (a : Int) : impl_isKey.f a = some (decide (0 ≤ a ∧ a ≤ 999)) := by
  unfold impl_isKey.f
  rw [between_eq]; rfl
theorem spec_Insert_ev (l : List Int) (a : Int) (hn : l.length ≤ 4611686018427387904) : Ev (fun k => spec_InsertKey.f k l a) (inV l a) := by
  unfold spec_InsertKey.f
  have stop : Ev (fun k => spec_InsertKey.j0 k a true l) (([], 0, false) : List Int × Int × Bool) := Ev.end_ fun k => by rw [spec_InsertKey.j0, if_pos rfl]
  refine Ev.bind (prGood_ev l hn) ?_
  cases h : tblB l with
  | false =>
    rw [show inV l a = ([], 0, false) by unfold inV; rw [h]; simp]
    simp only [Bool.false_eq_true, if_false]
    exact stop
  | true =>
    obtain ⟨h1, h2, h3, h4⟩ := tblB_parts h
    simp only [if_true, key_eq, Option.bind_some, decide_eq_true_eq]
    by_cases ha : 0 ≤ a ∧ a ≤ 999
    · simp only [ha, and_self, if_true]
      refine Ev.bind (l1Has_ev l a hn) ?_
      by_cases hm : a ∈ l
      · rw [show inV l a = ([], 0, false) by unfold inV; rw [if_neg (fun e => e.2.2.1 hm)], decide_eq_true hm]
        simp only [if_true]
        exact stop
      · rw [decide_eq_false hm]
        simp only [Bool.false_eq_true, if_false]
        refine Ev.bind (prMany_ev l (by omega)) ?_
        rw [many_keysZ (fun j hj => (h3 j hj).1), wrap_id (x := (l.length : Int) - 1) (by omega) (by omega)]
        by_cases hq : (keysZ l).length + 1 = l.length
        · rw [show inV l a = ([], 0, false) by unfold inV; rw [if_neg (fun e => e.2.2.2 hq)], beq_iff_eq.mpr (show (((keysZ l).length : Nat) : Int) = (l.length : Int) - 1 by omega)]
          exact stop
        · rw [show inV l a = (TabT.ins l a, ((TabT.pos l a : Nat) : Int), true) by unfold inV; rw [if_pos ⟨h, ha, hm, hq⟩], beq_eq_false_iff_ne.mpr (show (((keysZ l).length : Nat) : Int) ≠ (l.length : Int) - 1 by omega)]
          refine Ev.step (f := fun k => (spec_l1Own.f l).bind fun t => (spec_prInsert.f k t a).bind fun bt => some (bt.2, bt.1, true)) (fun k => by rw [spec_InsertKey.j0, if_neg (by decide)]) ?_
          simp only [own_eq l (by omega), Option.bind_some]
          refine Ev.bind (prInsert_ev l a (by omega) (by omega) (tbl_Cells h) (tbl_Free h) ha.1 ha.2) ?_
          exact Ev.now _
    · rw [show inV l a = ([], 0, false) by unfold inV; rw [if_neg (fun e => ha e.2.1)]]
      simp only [ha, if_false]
      exact stop
theorem impl_Insert_ev (l : List Int) (a : Int) (hn : l.length ≤ 4611686018427387904) : Ev (fun k => impl_InsertKey.f k l a) (inV l a) := by
  unfold impl_InsertKey.f
  have stop : Ev (fun k => impl_InsertKey.j0 k a true l) (([], 0, false) : List Int × Int × Bool) := Ev.end_ fun k => by rw [impl_InsertKey.j0, if_pos rfl]
  refine Ev.bind (isTable_ev l hn) ?_
  cases h : tblB l with
  | false =>
    rw [show inV l a = ([], 0, false) by unfold inV; rw [h]; simp]
    simp only [Bool.false_eq_true, if_false]
    exact stop
  | true =>
    obtain ⟨h1, h2, h3, h4⟩ := tblB_parts h
    simp only [if_true, isKey_eq', Option.bind_some, decide_eq_true_eq]
    by_cases ha : 0 ≤ a ∧ a ≤ 999
    · simp only [ha, and_self, if_true]
      refine Ev.bind (containsI_ev l a hn) ?_
      by_cases hm : a ∈ l
      · rw [show inV l a = ([], 0, false) by unfold inV; rw [if_neg (fun e => e.2.2.1 hm)], decide_eq_true hm]
        simp only [if_true]
        exact stop
      · rw [decide_eq_false hm]
        have hkl := keysZ_len l
        simp only [Bool.false_eq_true, if_false, keys_f h, Option.bind_some]
        rw [wrap_id (x := ((keysZ l).length : Int) + 1) (by omega) (by omega)]
        by_cases hq : (keysZ l).length + 1 = l.length
        · rw [show inV l a = ([], 0, false) by unfold inV; rw [if_neg (fun e => e.2.2.2 hq)], beq_iff_eq.mpr (show ((keysZ l).length : Int) + 1 = (l.length : Int) by omega)]
          exact stop
        · rw [show inV l a = (TabT.ins l a, ((TabT.pos l a : Nat) : Int), true) by unfold inV; rw [if_pos ⟨h, ha, hm, hq⟩], beq_eq_false_iff_ne.mpr (show ((keysZ l).length : Int) + 1 ≠ (l.length : Int) by omega)]
          refine Ev.step (f := fun k => (impl_Table_copied.f l).bind fun t => (impl_Table_insert.f k t a).bind fun bt => some (bt.2, bt.1, true)) (fun k => by rw [impl_InsertKey.j0, if_neg (by decide)]) ?_
          simp only [copied_eq l (by omega), Option.bind_some]
          refine Ev.bind (tInsert_ev l a (by omega) (by omega) (tbl_Cells h) (tbl_Free h) ha.1 ha.2) ?_
          exact Ev.now _
    · rw [show inV l a = ([], 0, false) by unfold inV; rw [if_neg (fun e => ha e.2.1)]]
      simp only [ha, if_false]
      exact stop
theorem FnExactInsertKey (l0 : List Int) (a1 : Int) (hm : l0.length ≤ maxLen) (hb : l0.length * 8 ≤ 140737488351232) (hw : ∀ x ∈ l0, (Lit.int .i64 x).wf = true) (hw1 : (Lit.int .i64 a1).wf = true) : ∃ k, laws_FnExactInsertKey.f k l0 a1 = some true := by
  refine Ev.rounds ?_
  unfold laws_FnExactInsertKey.f
  rw [szTable_eq l0 (by omega)]
  simp only [Option.bind_some]
  have hv := inV_len l0 a1
  by_cases h : (l0.length : Int) > 1048576
  · rw [if_pos h]
    simp only [show ((-1 : Int) < 0) by decide, if_true]
    exact Ev.now _
  · rw [if_neg h]
    have hn : l0.length ≤ 1048576 := by omega
    simp only [show ¬ ((1048576 : Int) - (l0.length : Int) < 0) by omega, if_false]
    refine Ev.bind (toTable_ev l0 (by omega)) ?_
    refine Ev.bind (spec_Insert_ev l0 a1 (by omega)) ?_
    refine Ev.bind (toTable_ev l0 (by omega)) ?_
    refine Ev.bind (impl_Insert_ev l0 a1 (by omega)) ?_
    refine Ev.bind (eqTable_ev _ _ (by omega)) ?_
    simp only [decide_true, if_true, bne_self_eq_false]
    refine Ev.step (fun k => by rw [laws_FnExactInsertKey.j0, if_neg (by decide)]) ?_
    refine Ev.bind (toTable_ev l0 (by omega)) ?_
    refine Ev.bind (eqTable_ev l0 l0 (by omega)) ?_
    simp only [decide_true, if_true]
    refine Ev.bind (markTable_ev _ 1 (by omega) (by omega)) ?_
    simp only [nneg, if_false]
    refine Ev.bind (eqTable_ev _ _ (by omega)) ?_
    simp only [decide_true, if_true, bne_self_eq_false]
    refine Ev.step (fun k => by rw [laws_FnExactInsertKey.j1, if_neg (by decide)]) ?_
    refine Ev.bind (markTable_ev _ 1 (by omega) (by omega)) ?_
    refine Ev.bind (heldTable_ev _ 1 (by omega) (by omega)) ?_
    simp only [nneg, if_false, if_true]
    refine Ev.bind (toTable_ev l0 (by omega)) ?_
    refine Ev.bind (impl_Insert_ev l0 a1 (by omega)) ?_
    refine Ev.bind (eqTable_ev _ _ (by omega)) ?_
    simp only [decide_true, if_true, bne_self_eq_false]
    refine Ev.step (fun k => by rw [laws_FnExactInsertKey.j2, if_neg (by decide)]) ?_
    refine Ev.bind (heldTable_ev _ 1 (by omega) (by omega)) ?_
    simp only [nneg, if_false, if_true]
    exact Ev.now _
end Go.Proofs.Ytfblohigbdomjaa.Pure
namespace Go.Proofs.YtfblohigbdomjaaW.PrintWords
open Go.ChangeShapes Go.WideShapes
theorem sized_ints {H : Type} {enc : TypeId × Value → H} {P : Program} {W : World} {base : Nat} {spare : Nat → Bool} {held : Bool} {t e : TypeId} {k : IntKind} {a : Option Addr} {len cap : Nat} {d : DataW H} {ps : List MemPlace} {ts : List TypeId} {ds : List (DataW H)} {j : Nat}
    (hsz : (DataW.weightsEach P ts ds).all (· ≤ reachBytes) = true) (ht : ts[j]? = some t) (hd : ds[j]? = some d) (hu : P.underlying t = some (.slice e)) (he : P.underlying e = some (.int k)) (hc : P.cellsOf e = 1) {B : Nat} (hB : P.bytesOf e = B)
    (h : DataW.Trod enc P W base spare held t (.slice a len cap) d ps) : len * B ≤ 140737488351232 := by
  obtain ⟨fuel, hf⟩ := h
  rcases open_ints hu he hc hf with ⟨hcs, _⟩ | ⟨x, l, c, zs, hcs, _, hl, _, hz, hx, _, _⟩
  · simp [Value.cells] at hcs
    obtain ⟨rfl, rfl, rfl⟩ := hcs
    simp
  · simp [Value.cells] at hcs
    obtain ⟨rfl, rfl, rfl⟩ := hcs
    obtain ⟨hx, _⟩ := Prod.mk.inj hx
    subst hx
    have z := sized_slice hsz ht hd hu
    rw [hB] at z
    have hl2 : len ≤ zs.length := by
      rw [hz]
      split
      · exact hl
      · exact Nat.le_refl _
    have h1 : (lits (H := H) k (zs.take len)).length + (lits (H := H) k (zs.drop len)).length = zs.length := by
      simp [lits]
      omega
    rw [h1] at z
    exact Nat.le_trans (Nat.mul_le_mul_right _ hl2) z
end Go.Proofs.YtfblohigbdomjaaW.PrintWords
namespace Go.Proofs.Ytfblohigbdomjaa.fnExactInsertKey
open Go.ChangeShapes Go.WideShapes Go.ChangeAt Go.RowKit
open Go.ChangeMaps (open_string shut_string)
open Go.Proofs.YtfblohigbdomjaaW.PrintWords Go.Proofs.YtfblohigbdomjaaW.PrintLast Go.Proofs.YtfblohigbdomjaaW.PrintMore
set_option linter.unusedVariables false
set_option linter.unusedSimpArgs false
theorem own : ownKnob Try.prog.godebug = none := by kernel_rfl
theorem laidOut : laidOutB Try.prog = true := by kernel_rfl
def IsRow (k : IntKind) (w : World) (a : Option Addr) (len cap : Nat) (zs : List Int) : Prop :=
  (a = none ∧ len = 0 ∧ cap = 0 ∧ zs = []) ∨
  ∃ x, a = some x ∧ len ≤ cap ∧ cap ≤ maxLen ∧ zs.length = cap ∧ (∀ i, i < zs.length → w.cell? (x.add i) = some (.int k (zs.getD i 0))) ∧ ∀ n ∈ zs, (Lit.int k n).wf = true
set_option maxRecDepth 100000 in
theorem lifted (os : Os) (started : os.Started) (H : Type) (enc : TypeId × Value → H) :
    ReturnsInHanded {} Try.checked os 5 .any (Rows.fnExactInsertKeySpec.pre6 enc Try.prog Try.f5 Rows.fnExactInsertKeyRow.domain false) (Rows.fnExactInsertKeySpec.post enc Try.prog Try.f5 false true false false) := by
  refine returnsInHanded_of_change_sized (C := Try.checked) own started (by kernel_rfl) Try.func5
    (ChangeSpec.witness6 (enc := enc) (C := Try.checked) false ⟨#[], #[.agg #[.slice none 0 0], .int .i64 0], []⟩ 8 (by kernel_rfl) (by kernel_rfl) (by kernel_rfl) (by kernel_rfl)) ?_
  intro W base args ds gs before hval0 hW hcnd hsz0 _
  have hsz : (DataW.weightsEach Try.prog (Try.f5.params.toList ++ Rows.fnExactInsertKeySpec.plain.varTypes Try.prog) (ds ++ gs)).all (· ≤ reachBytes) = true := hsz0
  have hval : ∀ (j : Nat) t v, Try.f5.params[j]? = some t → args[j]? = some v → Value.okWide Try.prog W .any base t v := hval0
  have hW' := hW
  obtain ⟨p, q, hA0, hV, rfl, hfz, hnd⟩ := hW
  have hA : DataW.TrodAll enc Try.prog W 0 (fun _ => true) true Try.f5.params.toList args.toList ds p := hA0
  rw [Try.params5] at hA hval hsz
  obtain ⟨v0, vs0, d0, ds0, p0, q0, hargs, rfl, rfl, h0, r0⟩ := trodAll_cons hA
  obtain ⟨v1, vs1, d1, ds1, p1, q1, hargs1, rfl, rfl, h1, r1⟩ := trodAll_cons r0
  obtain ⟨rfl, rfl, rfl⟩ := trodAll_nil r1
  obtain rfl : args = #[v0, v1] := by cases args; simp_all
  obtain ⟨rfl, rfl⟩ := trodVars_none hV
  obtain ⟨cs0, rfl, hcs0⟩ := okWide_struct Try.underlying33 (hval 0 33 v0 rfl rfl)
  have k0 := h0
  have lt0 : ∀ x ∈ p0, x.block < W.heap.size := by obtain ⟨m, hm⟩ := k0; exact DataW.trod_lt m _ _ _ hm
  obtain ⟨a0, len0, cap0, z0, rfl, w0, y0⟩ : ∃ a len cap zs, cs0 = #[.slice a len cap] ∧ IsRow .i64 W a len cap zs ∧ len * 8 ≤ 140737488351232 := by
    obtain ⟨fuel, hf⟩ := h0
    obtain ⟨y, m, hx, _, hf0⟩ := trod_struct1 Try.underlying33 hf
    have hsize : cs0.size = 1 := hcs0.trans (by kernel_rfl)
    obtain ⟨u, rfl⟩ : ∃ u, cs0 = #[u] := Array.size_eq_one_iff.1 hsize
    have hone : Try.prog.cellsOf 22 = 1 := by kernel_rfl
    have hf1 : DataW.trod enc Try.prog W 0 (fun _ => true) true m 22 [u] = some y := by simpa [Value.cells, hone] using hf0
    obtain ⟨rfl, rfl⟩ := Prod.mk.inj hx
    have hsz1 : (DataW.weightsEach Try.prog [22] [y.1]).all (· ≤ reachBytes) = true := by
      rw [List.all_eq_true]
      intro b hb
      refine List.all_eq_true.1 hsz b (DataW.weights_mem_each (j := 0) rfl rfl b ?_)
      rw [DataW.weights, Try.underlying33]
      exact hb
    rcases open_ints Try.underlying22 Try.underlying3 (by kernel_rfl) hf1 with ⟨hcs, _⟩ | ⟨x, l, c, zs, hcs, _, hl, hm, hz, _, hcell, hwz⟩
    · obtain rfl : u = .slice none 0 0 := by simpa using hcs
      exact ⟨none, 0, 0, [], rfl, .inl ⟨rfl, rfl, rfl, rfl⟩, by omega⟩
    · obtain rfl : u = .slice (some x) l c := by simpa using hcs
      have hy := Go.Proofs.YtfblohigbdomjaaW.PrintWords.sized_ints hsz1 (j := 0) (t := 22) rfl rfl Try.underlying22 Try.underlying3 (by kernel_rfl) (B := 8) (by kernel_rfl) (⟨m, hf1⟩ : DataW.Trod enc Try.prog W 0 (fun _ => true) true 22 (.slice (some x) l c) y.1 y.2)
      exact ⟨some x, l, c, zs, rfl, .inr ⟨_, rfl, hl, hm, by simpa using hz, hcell, hwz⟩, hy⟩
  obtain ⟨a1, rfl, rfl, rfl, w1⟩ := open_int Try.underlying3 (hval 1 3 v1 rfl rfl) h1
  clear hA0 hval0 hsz0 hsz
  obtain ⟨l0, rfl, hr0, hm0, hw0, hc0⟩ := ReadsInt.ofRowC w0
  obtain ⟨k, h⟩ := Pure.FnExactInsertKey l0 a1 hm0 y0 hw0 w1
  refine (G.laws_FnExactInsertKey.calls k _ _ l0 a1 true W (Kd.C_of_reads (d := (0 : Int)) (h1 := fun _ => rfl) hr0) hc0 h).mono fun e W' hee => ?_
  obtain ⟨he, bel⟩ := hee
  subst he
  exact ⟨_, rfl, _, _, _, [], _, [], hW', trodAll_mk1 (shut_bool Try.underlying4 _), (trodAll_cons_mk (Below.trod laidOut (by kernel_rfl) (of_decide_eq_true (by kernel_rfl)) k0 bel lt0) (trodAll_cons_mk (shut_int Try.underlying3 w1) trodAll_mk0)), rfl, bel.frame _, fun h => by cases h⟩
theorem over : Rows.fnExactInsertKeyRow.holds Try.pinned (OpenSpec.ofChange Rows.fnExactInsertKeySpec) :=
  OpenClaim.holds_of_wide 5 Try.f5 rfl rfl rfl rfl rfl rfl rfl ⟨rfl, rfl, rfl, rfl, rfl⟩ rfl rfl rfl rfl rfl (by kernel_rfl) Try.func5 (by kernel_rfl)
    (of_decide_eq_true (by kernel_rfl)) (by unfold Func.isWrapper; first | (rw [if_pos (by decide +kernel)]; kernel_rfl) | (rw [if_neg (by decide +kernel)]; exact ⟨rfl, rfl⟩))
    (fun os started H enc _ => lifted os started H enc)
theorem proved : Rows.FnExactInsertKeySaid := over
#print axioms proved
end Go.Proofs.Ytfblohigbdomjaa.fnExactInsertKey
namespace Go.Proofs.Ytfblohigbdomjaa
/-- The row, under a short name, for the claim. -/
theorem fnExactInsertKey_holds : Rows.FnExactInsertKeySaid := fnExactInsertKey.proved
end Go.Proofs.Ytfblohigbdomjaa
