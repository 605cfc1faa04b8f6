/- The law FnExactTableText: part 2 of the printed functions and the facts on them that its row leans on (merged by this session's slim.py). -/
import Derived.Test.YtaccgpbogddbmaaDoorZFnExactTableText1
namespace Go.Proofs.YtaccgpbogddbmaaDoor.G
open Go.RowKit Go.Proofs.YtaccgpbogddbmaaDoorW.PrintWords Go.Proofs.YtaccgpbogddbmaaDoorW.PrintLast Go.Proofs.YtaccgpbogddbmaaDoorW.PrintMore
set_option linter.unusedVariables false
set_option linter.unusedSimpArgs false
theorem toIntS_ev (l : List Int) (hn : l.length ≤ 35184372088832) : Ev (fun k => laws_toIntS.f k l) l := by
  refine Ev.of_all l.length fun k hk => ?_
  unfold laws_toIntS.f
  rw [if_pos (by omega), if_pos (by omega)]
  exact toIntS_l0 l (by omega) l.length k 0 _ (by omega) hk (by simp) (by simp)
theorem eqIntS_l0 (a b : List Int) (hl : a.length = b.length) (hn : a.length ≤ 4611686018427387904) : ∀ (d k i : Nat), i + d = a.length → d < k → laws_eqIntS.l0 k a b i = some (decide (a.drop i = b.drop i)) := by
  intro d
  induction d with
  | zero =>
    intro k i hd hk
    obtain ⟨k, rfl⟩ := succ_of hk
    rw [laws_eqIntS.l0, if_neg (by omega), List.drop_of_length_le (by omega), List.drop_of_length_le (by omega)]; simp
  | succ d ih =>
    intro k i hd hk
    obtain ⟨k, rfl⟩ := succ_of hk
    rw [laws_eqIntS.l0, if_pos (by omega), if_pos (by omega), if_pos (by omega), wrap_next (n := a.length) (by omega) hn, rd_nat, rd_nat, ih k (i + 1) (by omega) (by omega), drop_getD (l := a) (i := i) (by omega), drop_getD (l := b) (i := i) (by omega)]
    by_cases e : a.getD i 0 = b.getD i 0
    · rw [if_pos e, e]; simp
    · rw [if_neg e]; simp only [List.cons.injEq, e, false_and, decide_false]
theorem eqIntS_ev (a b : List Int) (hn : a.length ≤ 4611686018427387904) : Ev (fun k => laws_eqIntS.f k a b) (decide (a = b)) := by
  refine Ev.of_all a.length fun k hk => ?_
  unfold laws_eqIntS.f
  by_cases hl : a.length = b.length
  · rw [if_pos (by omega), show (0 : Int) = ((0 : Nat) : Int) from rfl, eqIntS_l0 a b hl hn a.length k 0 (by omega) hk]; rfl
  · rw [if_neg (by omega)]
    have : a ≠ b := fun e => hl (by rw [e])
    simp [this]
theorem l1In_eq (a b c : Int) : spec_l1In.f a b c = some (decide (b ≤ a ∧ a ≤ c)) := by
  unfold spec_l1In.f
  split
  · rename_i h; congr 1; rw [Bool.eq_iff_iff]; simp; omega
  · rename_i h; congr 1; rw [Bool.eq_iff_iff]; simp; omega
theorem l1All_l0 (l : List Int) (lo hi : Int) (hn : l.length ≤ 4611686018427387904) : ∀ (d k i : Nat), i + d = l.length → d < k → spec_l1All.l0 k lo hi l (l.length : Int) i = some ((l.drop i).all fun x => decide (lo ≤ x ∧ x ≤ hi)) := by
  intro d
  induction d with
  | zero =>
    intro k i hd hk
    obtain ⟨k, rfl⟩ := succ_of hk
    rw [spec_l1All.l0, if_neg (by omega), List.drop_of_length_le (by omega)]; rfl
  | succ d ih =>
    intro k i hd hk
    obtain ⟨k, rfl⟩ := succ_of hk
    rw [spec_l1All.l0, if_pos (by omega), if_pos (by omega), if_pos (by omega), l1In_eq, Option.bind_some, rd_nat, wrap_next (n := l.length) (by omega) hn, ih k (i + 1) (by omega) (by omega), drop_getD (l := l) (i := i) (by omega), List.all_cons]
    split
    · rename_i h; rw [h, Bool.true_and]
    · rename_i h; rw [Bool.not_eq_true] at h; rw [h, Bool.false_and]
theorem l1All_ev (l : List Int) (lo hi : Int) (hn : l.length ≤ 4611686018427387904) : Ev (fun k => spec_l1All.f k l lo hi) (l.all fun x => decide (lo ≤ x ∧ x ≤ hi)) := by
  refine Ev.of_all l.length fun k hk => ?_
  have := l1All_l0 l lo hi hn l.length k 0 (by omega) hk
  simpa [spec_l1All.f] using this
theorem eqTable_ev (a b : List Int) (hn : a.length ≤ 4611686018427387904) : Ev (fun k => laws_eqTable.f k a b) (decide (a = b)) := by
  unfold laws_eqTable.f
  refine Ev.bind (eqIntS_ev a b hn) ?_
  cases decide (a = b) with
  | true => simp only [if_true]; exact Ev.now _
  | false => simp only [Bool.false_eq_true, if_false]; exact Ev.now _
theorem toTable_ev (l : List Int) (hn : l.length ≤ 35184372088832) : Ev (fun k => laws_toTable.f k l) l := by
  unfold laws_toTable.f
  exact Ev.bind (toIntS_ev l hn) (Ev.now _)
theorem between_eq (a b c : Int) : impl_between.f a b c = some (decide (b ≤ a ∧ a ≤ c)) := by
  unfold impl_between.f
  by_cases h : a ≥ b
  · rw [if_pos h]; congr 1; simp; omega
  · rw [if_neg h]; congr 1; simp; omega
theorem isSize_eq (a : Int) : impl_isSize.f a = some (decide (2 ≤ a ∧ a ≤ 12)) := by unfold impl_isSize.f; rw [between_eq]; rfl
theorem szTable_eq (l : List Int) (hn : l.length ≤ 4611686018427387904) : laws_szTable.f l 1048576 = some (if (l.length : Int) > 1048576 then -1 else 1048576 - (l.length : Int)) := by
  unfold laws_szTable.f laws_szIntS.f
  rw [wrap_id (x := 1048576 - (l.length : Int)) (by omega) (by omega)]
  by_cases h : (l.length : Int) > 1048576
  · rw [if_pos (by omega), if_pos h]; rfl
  · rw [if_neg (by omega), if_neg h, Option.bind_some, if_neg (by omega)]
theorem l1Has_l0 (x : List Int) (a : Int) (hn : x.length ≤ 4611686018427387904) : ∀ (d i : Nat), i + d = x.length → Ev (fun k => spec_l1Has.l0 k a x (x.length : Int) i) (decide (a ∈ x.drop i)) := by
  intro d
  induction d with
  | zero =>
    intro i hd
    refine Ev.end_ fun k => ?_
    rw [spec_l1Has.l0, if_neg (by omega), List.drop_eq_nil_of_le (by omega)]
    simp
  | succ d ih =>
    intro i hd
    have e1 := drop_getD (l := x) (i := i) (by omega)
    by_cases h : x.getD i 0 = a
    · refine Ev.end_ fun k => ?_
      rw [spec_l1Has.l0, if_pos (by omega), if_pos (by omega), if_pos (by omega), rd_nat, if_pos h, e1, h, decide_eq_true (List.mem_cons_self)]
    · refine Ev.one (f := fun k => spec_l1Has.l0 k a x (x.length : Int) ((i + 1 : Nat) : Int)) ?_ fun k => ?_
      · have := ih (i + 1) (by omega)
        have e : decide (a ∈ x.drop i) = decide (a ∈ x.drop (i + 1)) := by
          rw [e1]
          have : ¬ a = x.getD i 0 := fun e => h e.symm
          simp only [List.mem_cons, this, false_or]
        rw [e]; exact this
      · rw [spec_l1Has.l0, if_pos (by omega), if_pos (by omega), if_pos (by omega), rd_nat, if_neg h, wrap_next (n := x.length) (by omega) hn]
theorem l1Has_ev (x : List Int) (a : Int) (hn : x.length ≤ 4611686018427387904) : Ev (fun k => spec_l1Has.f k x a) (decide (a ∈ x)) := by
  unfold spec_l1Has.f
  have := l1Has_l0 x a hn x.length 0 (by omega)
  simpa using this
/-- The first place of a number, -1 where it is not. -/
def ixF (l : List Int) (a : Int) : Nat → Nat → Int
  | 0, _ => -1
  | d + 1, i => if l.getD i 0 = a then (i : Int) else ixF l a d (i + 1)
theorem ixF_spec (l : List Int) (a : Int) : ∀ (d i : Nat), i + d = l.length → (ixF l a d i = -1 ∧ a ∉ l.drop i) ∨ (∃ j : Nat, ixF l a d i = j ∧ j < l.length ∧ l.getD j 0 = a ∧ a ∈ l.drop i)
  | 0, i, h => by left; rw [List.drop_of_length_le (by omega)]; exact ⟨rfl, by simp⟩
  | d + 1, i, h => by
    rw [ixF, drop_getD (by omega)]
    by_cases c : l.getD i 0 = a
    · right; rw [if_pos c]; exact ⟨i, rfl, by omega, c, by rw [c]; simp⟩
    · rw [if_neg c]
      rcases ixF_spec l a d (i + 1) (by omega) with ⟨h1, h2⟩ | ⟨j, h1, h2, h3, h4⟩
      · left; exact ⟨h1, by simp only [List.mem_cons, not_or]; exact ⟨fun e => c e.symm, h2⟩⟩
      · right; exact ⟨j, h1, h2, h3, by simp [h4]⟩
theorem index_l0 (l : List Int) (a : Int) (hn : l.length ≤ 4611686018427387904) : ∀ (d i : Nat), i + d = l.length → Ev (fun k => slices_Index_int_int.l0 k l a (l.length : Int) i) (ixF l a d i) := by
  intro d
  induction d with
  | zero =>
    intro i hd
    exact Ev.end_ fun k => by rw [slices_Index_int_int.l0, if_neg (by omega)]; rfl
  | succ d ih =>
    intro i hd
    rw [ixF]
    by_cases c : l.getD i 0 = a
    · rw [if_pos c]
      refine Ev.end_ fun k => ?_
      rw [slices_Index_int_int.l0, if_pos (by omega), if_pos (by omega), if_pos (by omega), rd_nat, if_pos c.symm]
    · rw [if_neg c]
      refine Ev.one (ih (i + 1) (by omega)) fun k => ?_
      rw [slices_Index_int_int.l0, if_pos (by omega), if_pos (by omega), if_pos (by omega), rd_nat, if_neg (fun e => c e.symm), wrap_next (n := l.length) (by omega) hn]
theorem index_ev (l : List Int) (a : Int) (hn : l.length ≤ 4611686018427387904) : Ev (fun k => slices_Index_int_int.f k l a) (ixF l a l.length 0) := by
  unfold slices_Index_int_int.f
  exact index_l0 l a hn l.length 0 (by omega)
theorem containsI_ev (l : List Int) (a : Int) (hn : l.length ≤ 4611686018427387904) : Ev (fun k => slices_Contains_int_int.f k l a) (decide (a ∈ l)) := by
  unfold slices_Contains_int_int.f
  refine Ev.bind (index_ev l a hn) ?_
  have e : decide (ixF l a l.length 0 ≥ 0) = decide (a ∈ l) := by
    rcases ixF_spec l a l.length 0 (by omega) with ⟨h1, h2⟩ | ⟨j, h1, h2, h3, h4⟩
    · rw [List.drop_zero] at h2
      rw [h1, decide_eq_false h2]; decide
    · rw [List.drop_zero] at h4
      rw [h1, decide_eq_true h4]; exact decide_eq_true (by omega)
  rw [e]
  exact Ev.now _
def costN (n key at_ : Nat) : Nat := (at_ + n - key % n) % n
theorem cost_arith {n key at_ : Nat} (hn : 0 < n) (hn2 : n ≤ 1000) (hk : key ≤ 1000) (ha : at_ < n) : Int.tmod (wrap64 ((wrap64 ((at_ : Int) - (Int.tmod (key : Int) (n : Int)))) + (n : Int))) (n : Int) = (costN n key at_ : Nat) := by
  have e1 : Int.tmod (key : Int) (n : Int) = ((key % n : Nat) : Int) := rfl
  have hlt := Nat.mod_lt key hn
  rw [e1, wrap_id (x := (at_ : Int) - ((key % n : Nat) : Int)) (by omega) (by omega), wrap_id (by omega) (by omega)]
  rw [show (at_ : Int) - ((key % n : Nat) : Int) + (n : Int) = ((at_ + n - key % n : Nat) : Int) by omega]
  rfl
theorem costN_lt {n key at_ : Nat} (hn : 0 < n) : costN n key at_ < n := Nat.mod_lt _ hn
theorem prCost_eq {n key at_ : Nat} (hn : 0 < n) (hn2 : n ≤ 1000) (hk : key ≤ 1000) (ha : at_ < n) : spec_prCost.f (key : Int) (at_ : Int) (n : Int) = some ((costN n key at_ : Nat) : Int) := by
  unfold spec_prCost.f
  rw [if_neg (by omega), cost_arith hn hn2 hk ha]
theorem tcost_eq {l : List Int} {key at_ : Nat} (hn2 : l.length ≤ 1000) (hk : key ≤ 1000) (ha : at_ < l.length) (hg : l.getD at_ 0 = (key : Int)) : impl_Table_cost.f l (at_ : Int) = some ((costN l.length key at_ : Nat) : Int) := by
  unfold impl_Table_cost.f
  rw [if_pos (by omega), if_pos (by omega), if_neg (by omega), rd_nat, hg, cost_arith (by omega) hn2 hk ha]
/-- No free cell among the key's c cells from the s-th on. -/
def wayF (l : List Int) (key : Nat) : Nat → Nat → Bool
  | _, 0 => true
  | s, c + 1 => decide (0 ≤ l.getD ((key + s) % l.length) 0) && wayF l key (s + 1) c
def okCell (l : List Int) (i : Nat) : Bool := decide (l.getD i 0 < 0) || (!decide (l.getD i 0 ∈ l.take i) && wayF l (l.getD i 0).toNat 0 (costN l.length (l.getD i 0).toNat i))
def okFrom (l : List Int) : Nat → Nat → Bool
  | 0, _ => true
  | d + 1, i => okCell l i && okFrom l d (i + 1)
def tblB (l : List Int) : Bool := decide (2 ≤ (l.length : Int) ∧ (l.length : Int) ≤ 12) && (l.all fun x => decide (-1 ≤ x ∧ x ≤ 999)) && decide ((-1 : Int) ∈ l) && okFrom l l.length 0
/-- The cell that lies so far back is the key's own one, so far on. -/
theorem back_cell {n key at_ c j : Nat} (hn : 0 < n) (ha : at_ < n) (hc : costN n key at_ = c) (hj : j ≤ c) (h1 : 1 ≤ j) : (at_ + n - j) % n = (key + (c - j)) % n := by
  have hk := Nat.mod_lt key hn
  have hcn : c < n := by rw [← hc]; exact costN_lt hn
  have e : (key + (c - j)) % n = (key % n + (c - j)) % n := (Nat.mod_add_mod key n (c - j)).symm
  rw [e]
  unfold costN at hc
  rcases Nat.lt_or_ge at_ (key % n) with h | h
  · rw [Nat.mod_eq_of_lt (show at_ + n - key % n < n by omega)] at hc
    rw [show key % n + (c - j) = at_ + n - j by omega]
  · have : (at_ + n - key % n) % n = at_ - key % n := by
      rw [show at_ + n - key % n = (at_ - key % n) + n by omega, Nat.add_mod_right, Nat.mod_eq_of_lt (by omega)]
    rw [this] at hc
    rw [show at_ + n - j = (key % n + (c - j)) + n by omega, Nat.add_mod_right]
end Go.Proofs.YtaccgpbogddbmaaDoor.G
namespace Go.Proofs.YtaccgpbogddbmaaDoor.G
open Go.RowKit Go.Proofs.YtaccgpbogddbmaaDoorW.PrintWords Go.Proofs.YtaccgpbogddbmaaDoorW.PrintLast Go.Proofs.YtaccgpbogddbmaaDoorW.PrintMore
set_option linter.unusedVariables false
set_option linter.unusedSimpArgs false
section
variable (l : List Int) (hn : 2 ≤ l.length) (hn2 : l.length ≤ 12) (hr : ∀ j, j < l.length → -1 ≤ l.getD j 0 ∧ l.getD j 0 ≤ 999)
include hn hn2 hr
theorem sp_way (key i c : Nat) (hk : key ≤ 1000) (hi : i < l.length) (hc : costN l.length key i = c) (r : Bool) (h : Ev (fun k => spec_prGood.l0 k (l.length : Int) l (l.length : Int) (wrap64 ((i : Int) + 1)) l) r) : ∀ (j : Nat), j ≤ c →
    Ev (fun k => spec_prGood.l1 k (l.length : Int) (i : Int) (j : Int) l (l.length : Int) (i : Int) l) (if wayF l key (c - j) j = true then r else false) := by
  have hcn : c < l.length := by rw [← hc]; exact costN_lt (by omega)
  intro j
  induction j with
  | zero =>
    intro _
    rw [wayF, if_pos rfl]
    exact Ev.one h fun k => by rw [spec_prGood.l1, if_neg (by omega)]
  | succ j ih =>
    intro hj
    have hcell := back_cell (n := l.length) (by omega) hi hc hj (by omega)
    have e1 : Int.tmod (wrap64 ((wrap64 ((i : Int) - ((j + 1 : Nat) : Int))) + (l.length : Int))) (l.length : Int) = (((key + (c - (j + 1))) % l.length : Nat) : Int) := by
      rw [wrap_id (x := (i : Int) - ((j + 1 : Nat) : Int)) (by omega) (by omega), wrap_id (by omega) (by omega), ← hcell, show (i : Int) - ((j + 1 : Nat) : Int) + (l.length : Int) = ((i + l.length - (j + 1) : Nat) : Int) by omega]
      rfl
    have hm := Nat.mod_lt (key + (c - (j + 1))) (show 0 < l.length by omega)
    have hv := hr _ hm
    rw [wayF, show c - (j + 1) + 1 = c - j by omega]
    by_cases hf : l.getD ((key + (c - (j + 1))) % l.length) 0 = -1
    · rw [show decide (0 ≤ l.getD ((key + (c - (j + 1))) % l.length) 0) = false from decide_eq_false (by omega), Bool.false_and, if_neg (by decide)]
      refine Ev.end_ fun k => ?_
      rw [spec_prGood.l1, if_pos (by omega), if_neg (by omega), e1, if_pos (by omega), if_pos (by omega), rd_nat, if_pos hf]
    · rw [show decide (0 ≤ l.getD ((key + (c - (j + 1))) % l.length) 0) = true from decide_eq_true (by omega), Bool.true_and]
      refine Ev.one (ih (by omega)) fun k => ?_
      rw [spec_prGood.l1, if_pos (by omega), if_neg (by omega), e1, if_pos (by omega), if_pos (by omega), rd_nat, if_neg hf, wrap_id (x := ((j + 1 : Nat) : Int) - 1) (by omega) (by omega), show ((j + 1 : Nat) : Int) - 1 = (j : Int) by omega]
theorem im_way (key i c : Nat) (hk : key ≤ 1000) (hi : i < l.length) (hc : c < l.length) (r : Bool) (h : Ev (fun k => impl_isTable.l0 k l (l.length : Int) (wrap64 ((i : Int) + 1)) l) r) : ∀ (d s : Nat), s + d = c →
    Ev (fun k => impl_isTable.l1 k (key : Int) l (l.length : Int) (i : Int) (c : Int) (s : Int) l) (if wayF l key s d = true then r else false) := by
  have hr0 := hr
  intro d
  induction d with
  | zero =>
    intro s hs
    rw [wayF, if_pos rfl]
    exact Ev.one h fun k => by rw [impl_isTable.l1, if_neg (by omega)]
  | succ d ih =>
    intro s hs
    have e1 : Int.tmod (wrap64 ((key : Int) + (s : Int))) (l.length : Int) = (((key + s) % l.length : Nat) : Int) := by
      rw [wrap_id (by omega) (by omega), show (key : Int) + (s : Int) = ((key + s : Nat) : Int) by omega]
      rfl
    have hm := Nat.mod_lt (key + s) (show 0 < l.length by omega)
    rw [wayF]
    by_cases hf : l.getD ((key + s) % l.length) 0 < 0
    · rw [show decide (0 ≤ l.getD ((key + s) % l.length) 0) = false from decide_eq_false (by omega), Bool.false_and, if_neg (by decide)]
      refine Ev.end_ fun k => ?_
      rw [impl_isTable.l1, if_pos (by omega), if_neg (by omega), e1, if_pos (by omega), if_pos (by omega), rd_nat, if_pos hf]
    · rw [show decide (0 ≤ l.getD ((key + s) % l.length) 0) = true from decide_eq_true (by omega), Bool.true_and]
      refine Ev.one (ih (s + 1) (by omega)) fun k => ?_
      rw [impl_isTable.l1, if_pos (by omega), if_neg (by omega), e1, if_pos (by omega), if_pos (by omega), rd_nat, if_neg hf, wrap_next (n := 1000) (by omega) (by omega)]
theorem sp_good_l0 : ∀ (d i : Nat), i + d = l.length → Ev (fun k => spec_prGood.l0 k (l.length : Int) l (l.length : Int) (i : Int) l) (okFrom l d i) := by
  intro d
  induction d with
  | zero =>
    intro i hd
    exact Ev.end_ fun k => by rw [spec_prGood.l0, if_neg (by omega)]; rfl
  | succ d ih =>
    intro i hd
    have hi : i < l.length := by omega
    have hv := hr i hi
    rw [okFrom, okCell]
    by_cases hf : l.getD i 0 = -1
    · rw [show decide (l.getD i 0 < 0) = true from decide_eq_true (by omega), Bool.true_or, Bool.true_and]
      refine Ev.one (ih (i + 1) (by omega)) fun k => ?_
      rw [spec_prGood.l0, if_pos (by omega), if_pos (by omega), if_pos (by omega), rd_nat, if_pos hf, wrap_next (n := l.length) hi (by omega)]
    · rw [show decide (l.getD i 0 < 0) = false from decide_eq_false (by omega), Bool.false_or]
      obtain ⟨key, hkey⟩ : ∃ key : Nat, l.getD i 0 = key := ⟨(l.getD i 0).toNat, by omega⟩
      rw [hkey, Int.toNat_natCast]
      refine Ev.step (f := fun k => (spec_l1Has.f k (l.take i) (key : Int)).bind fun t169 => (if t169 = true then (some false) else (spec_prGood.l1 k (l.length : Int) (i : Int) ((costN l.length key i : Nat) : Int) l (l.length : Int) (i : Int) l))) (fun k => by
        rw [spec_prGood.l0, if_pos (by omega), if_pos (by omega), if_pos (by omega), rd_nat, if_neg hf, if_pos (by omega), Int.toNat_natCast, hkey, prCost_eq (by omega) (by omega) (by omega) hi]; rfl) ?_
      refine Ev.bind (l1Has_ev _ _ (by simp; omega)) ?_
      cases hh : decide ((key : Int) ∈ l.take i) with
      | true => simp only [if_true, Bool.not_true, Bool.false_and]; exact Ev.now _
      | false =>
        simp only [Bool.false_eq_true, if_false, Bool.not_false, Bool.true_and]
        have h0 := ih (i + 1) (by omega)
        have hw := sp_way l hn hn2 hr key i (costN l.length key i) (by omega) hi rfl _ (by rw [wrap_next (n := l.length) hi (by omega)]; exact h0) (costN l.length key i) (Nat.le_refl _)
        rw [Nat.sub_self] at hw
        cases hww : wayF l key 0 (costN l.length key i) with
        | true => rw [hww, if_pos rfl] at hw; rw [Bool.true_and]; exact hw
        | false => rw [hww, if_neg (by decide)] at hw; rw [Bool.false_and]; exact hw
theorem im_good_l0 : ∀ (d i : Nat), i + d = l.length → Ev (fun k => impl_isTable.l0 k l (l.length : Int) (i : Int) l) (okFrom l d i) := by
  intro d
  induction d with
  | zero =>
    intro i hd
    exact Ev.end_ fun k => by rw [impl_isTable.l0, if_neg (by omega)]; rfl
  | succ d ih =>
    intro i hd
    have hi : i < l.length := by omega
    have hv := hr i hi
    rw [okFrom, okCell]
    by_cases hf : l.getD i 0 < 0
    · rw [decide_eq_true hf, Bool.true_or, Bool.true_and]
      refine Ev.one (ih (i + 1) (by omega)) fun k => ?_
      rw [impl_isTable.l0, if_pos (by omega), if_pos (by omega), if_pos (by omega), rd_nat, if_pos hf, wrap_next (n := l.length) hi (by omega)]
    · rw [decide_eq_false hf, Bool.false_or]
      obtain ⟨key, hkey⟩ : ∃ key : Nat, l.getD i 0 = key := ⟨(l.getD i 0).toNat, by omega⟩
      have htc := tcost_eq (l := l) (key := key) (at_ := i) (by omega) (by omega) hi hkey
      rw [hkey, Int.toNat_natCast]
      refine Ev.step (f := fun k => (slices_Contains_int_int.f k (l.take i) (key : Int)).bind fun t195 => (if t195 = true then (some false) else (impl_isTable.l1 k (key : Int) l (l.length : Int) (i : Int) ((costN l.length key i : Nat) : Int) 0 l))) (fun k => by
        rw [impl_isTable.l0, if_pos (by omega), if_pos (by omega), if_pos (by omega), rd_nat, if_neg hf, if_pos (by omega), Int.toNat_natCast, hkey, htc]; rfl) ?_
      refine Ev.bind (containsI_ev _ _ (by simp; omega)) ?_
      cases hh : decide ((key : Int) ∈ l.take i) with
      | true => simp only [if_true, Bool.not_true, Bool.false_and]; exact Ev.now _
      | false =>
        simp only [Bool.false_eq_true, if_false, Bool.not_false, Bool.true_and]
        have h0 := ih (i + 1) (by omega)
        have hw := im_way l hn hn2 hr key i (costN l.length key i) (by omega) hi (costN_lt (by omega)) _ (by rw [wrap_next (n := l.length) hi (by omega)]; exact h0) (costN l.length key i) 0 (by omega)
        cases hww : wayF l key 0 (costN l.length key i) with
        | true => rw [hww, if_pos rfl] at hw; rw [Bool.true_and]; exact hw
        | false => rw [hww, if_neg (by decide)] at hw; rw [Bool.false_and]; exact hw
end
end Go.Proofs.YtaccgpbogddbmaaDoor.G
namespace Go.Proofs.YtaccgpbogddbmaaDoor.G
open Go.RowKit Go.Proofs.YtaccgpbogddbmaaDoorW.PrintWords Go.Proofs.YtaccgpbogddbmaaDoorW.PrintLast Go.Proofs.YtaccgpbogddbmaaDoorW.PrintMore
set_option linter.unusedVariables false
set_option linter.unusedSimpArgs false
theorem allT_get {l : List Int} {lo hi : Int} (h : (l.all fun x => decide (lo ≤ x ∧ x ≤ hi)) = true) {j : Nat} (hj : j < l.length) : lo ≤ l.getD j 0 ∧ l.getD j 0 ≤ hi := by
  rw [List.all_eq_true] at h
  have := h l[j] (List.getElem_mem hj)
  rw [List.getD_eq_getElem?_getD, List.getElem?_eq_getElem hj]
  simpa using this
theorem areBetween_eq (l : List Int) (lo hi : Int) : impl_areBetween.f l lo hi = some (l.all fun x => decide (lo ≤ x ∧ x ≤ hi)) := by
  unfold impl_areBetween.f
  congr 2
  funext x
  rw [Bool.eq_iff_iff]; simp
theorem prGood_ev (l : List Int) (hn : l.length ≤ 4611686018427387904) : Ev (fun k => spec_prGood.f k l) (tblB l) := by
  unfold spec_prGood.f tblB
  simp only [l1In_eq, Option.bind_some]
  have stop : Ev (fun k => spec_prGood.j0 k (l.length : Int) true l) false := Ev.end_ fun k => by rw [spec_prGood.j0, if_pos rfl]
  by_cases h1 : 2 ≤ (l.length : Int) ∧ (l.length : Int) ≤ 12
  · rw [decide_eq_true h1]
    simp only [if_true, Bool.true_and]
    refine Ev.bind (l1All_ev l (-1) 999 hn) ?_
    cases h2 : (l.all fun x => decide (-1 ≤ x ∧ x ≤ 999)) with
    | false => simp only [Bool.false_eq_true, if_false, Bool.false_and]; exact stop
    | true =>
      simp only [if_true, Bool.true_and]
      refine Ev.bind (l1Has_ev l (-1) hn) ?_
      cases h3 : decide ((-1 : Int) ∈ l) with
      | false => simp only [Bool.not_false, Bool.false_and]; exact stop
      | true =>
        simp only [Bool.not_true, Bool.true_and]
        exact Ev.one (sp_good_l0 l (by omega) (by omega) (fun j hj => allT_get h2 hj) l.length 0 (by omega)) fun k => by rw [spec_prGood.j0, if_neg (by decide)]; rfl
  · rw [decide_eq_false h1]
    simp only [Bool.false_eq_true, if_false, Bool.false_and]
    exact stop
theorem isTable_ev (l : List Int) (hn : l.length ≤ 4611686018427387904) : Ev (fun k => impl_isTable.f k l) (tblB l) := by
  unfold impl_isTable.f tblB
  simp only [isSize_eq, areBetween_eq, Option.bind_some]
  have stop : Ev (fun k => impl_isTable.j0 k true l) false := Ev.end_ fun k => by rw [impl_isTable.j0, if_pos rfl]
  by_cases h1 : 2 ≤ (l.length : Int) ∧ (l.length : Int) ≤ 12
  · rw [decide_eq_true h1]
    simp only [if_true, Bool.true_and]
    cases h2 : (l.all fun x => decide (-1 ≤ x ∧ x ≤ 999)) with
    | false => simp only [Bool.false_eq_true, if_false, Bool.false_and]; exact stop
    | true =>
      simp only [if_true, Bool.true_and]
      refine Ev.bind (containsI_ev l (-1) hn) ?_
      cases h3 : decide ((-1 : Int) ∈ l) with
      | false => simp only [Bool.not_false, Bool.false_and]; exact stop
      | true =>
        simp only [Bool.not_true, Bool.true_and]
        exact Ev.one (im_good_l0 l (by omega) (by omega) (fun j hj => allT_get h2 hj) l.length 0 (by omega)) fun k => by rw [impl_isTable.j0, if_neg (by decide)]; rfl
  · rw [decide_eq_false h1]
    simp only [Bool.false_eq_true, if_false, Bool.false_and]
    exact stop
def slices_Clone_int_int.f (l0 : List Int) : Option (List Int) := if l0.length ≤ 17592186044415 then some l0 else none
/-- The places below q at which p holds. -/
def idxsTo (p : Int → Bool) (l : List Int) : Nat → List Int
  | 0 => []
  | q + 1 => idxsTo p l q ++ (if p (l.getD q 0) = true then [(q : Int)] else [])
def posP (x : Int) : Bool := decide (0 ≤ x)
def impl_Table_used.f (l0_0 : List Int) : Option (List Int) := if l0_0.length ≤ 1000000 then some (idxsTo posP l0_0 l0_0.length) else none
theorem tblB_parts {l : List Int} (h : tblB l = true) : 2 ≤ l.length ∧ l.length ≤ 12 ∧ (∀ j, j < l.length → -1 ≤ l.getD j 0 ∧ l.getD j 0 ≤ 999) ∧ (-1 : Int) ∈ l := by
  unfold tblB at h
  simp only [Bool.and_eq_true, decide_eq_true_eq] at h
  exact ⟨by omega, by omega, fun j hj => allT_get h.1.1.2 hj, h.1.2⟩
theorem mkB_size (l : List UInt8) : (mkB l).size = l.length := by simp [mkB, ByteArray.size]
theorem mkB_append (a b : List UInt8) : mkB a ++ mkB b = mkB (a ++ b) := bytes_ext (by rw [mkB_data, ByteArray.data_append, Array.toList_append, mkB_data, mkB_data])
theorem l1Num_ev : ∀ (n : Nat), n < 1000 → Ev (fun k => spec_l1Num.f k (n : Int)) (mkB (Lib.decDigits n)) := by
  intro n
  induction n using Nat.strongRecOn with
  | _ n ih =>
    intro hn
    have one : ∀ d : Nat, d < 10 → strOfNums [wrap64 (48 + (d : Int)) % 256] = mkB [UInt8.ofNat (48 + d)] := fun d hd => by
      rw [wrap_id (by omega) (by omega)]
      refine bytes_ext ?_
      rw [strOfNums_data, mkB_data, List.map_singleton, show ((48 + (d : Int)) % 256).toNat = 48 + d by omega]
    by_cases h : n < 10
    · refine Ev.end_ fun k => ?_
      rw [spec_l1Num.f, if_pos (by omega), one n h, Lib.decDigits_one h]
    · have e1 : Int.tdiv (n : Int) 10 = ((n / 10 : Nat) : Int) := (Int.ofNat_tdiv n 10).symm
      have e2 : Int.tmod (n : Int) 10 = ((n % 10 : Nat) : Int) := (Int.ofNat_tmod n 10).symm
      refine Ev.step (f := fun k => (spec_l1Num.f k ((n / 10 : Nat) : Int)).bind fun t => (if t.size + (mkB [UInt8.ofNat (48 + n % 10)]).size ≤ 9223372036854775807 then (some (t ++ mkB [UInt8.ofNat (48 + n % 10)])) else (none))) (fun k => by
        rw [spec_l1Num.f, if_neg (by omega), e1, e2, wrap_id (x := ((n / 10 : Nat) : Int)) (by omega) (by omega)]
        simp only [Option.bind_some, one (n % 10) (by omega)]) ?_
      refine Ev.bind (ih (n / 10) (by omega) (by omega)) ?_
      have hl := dec_len (n := n / 10) (by omega)
      have hc : ((mkB (Lib.decDigits (n / 10))).size + (mkB [UInt8.ofNat (48 + n % 10)]).size ≤ 9223372036854775807) = True := eq_true (by rw [mkB_size, mkB_size]; simp; omega)
      simp only [hc, if_true, mkB_append]
      rw [show Lib.decDigits n = Lib.decDigits (n / 10) ++ [UInt8.ofNat (48 + n % 10)] by rw [Lib.decDigits, dif_neg h]]
      exact Ev.now _
def cellT (x : Int) : List UInt8 := if x < 0 then [46] else Lib.decDigits x.toNat
def textL (l : List Int) : List UInt8 := Lib.join (l.map cellT) [32]
def CellR (l : List Int) : Prop := ∀ x ∈ l, -1 ≤ x ∧ x ≤ 999
theorem cellT_len {x : Int} (h : -1 ≤ x ∧ x ≤ 999) : (cellT x).length ≤ 3 := by
  unfold cellT
  split
  · simp
  · exact (dec_len (n := x.toNat) (by omega)).2
theorem join_snoc : ∀ (xs : List (List UInt8)) (y sep : List UInt8), xs ≠ [] → Lib.join (xs ++ [y]) sep = Lib.join xs sep ++ sep ++ y
  | [], _, _, h => absurd rfl h
  | [x], y, sep, _ => by rw [List.singleton_append, join_two, Lib.join_one, Lib.join_one]
  | x :: z :: r, y, sep, _ => by
    rw [List.cons_append, List.cons_append, join_two, ← List.cons_append, join_snoc (z :: r) y sep (by simp), join_two]
    simp
theorem text_snoc {l : List Int} (h : l ≠ []) (x : Int) : textL (l ++ [x]) = textL l ++ [32] ++ cellT x := by
  unfold textL
  rw [List.map_append, List.map_singleton, join_snoc _ _ _ (by simpa using h)]
theorem text_one (x : Int) : textL [x] = cellT x := by unfold textL; rw [List.map_singleton, Lib.join_one]
theorem tk_snoc {l : List Int} {i : Nat} (h : i < l.length) : l.take (i + 1) = l.take i ++ [l.getD i 0] := by
  rw [List.take_succ_eq_append_getElem h, List.getD_eq_getElem?_getD, List.getElem?_eq_getElem h]
  rfl
theorem text_len : ∀ (i : Nat) {l : List Int}, CellR l → i ≤ l.length → (textL (l.take i)).length ≤ 4 * i
  | 0, l, _, _ => by simp [textL, Lib.join_nil]
  | i + 1, l, h, hi => by
    have hc := cellT_len (h (l.getD i 0) (by rw [List.getD_eq_getElem?_getD, List.getElem?_eq_getElem (by omega)]; exact List.getElem_mem _))
    rw [tk_snoc (by omega)]
    cases e : l.take i with
    | nil =>
      rw [List.nil_append, text_one]; omega
    | cons a r =>
      rw [← e, text_snoc (by rw [e]; simp), List.length_append, List.length_append, List.length_singleton]
      have := text_len i h (by omega)
      omega
theorem cellR_get {l : List Int} (h : CellR l) {i : Nat} (hi : i < l.length) : -1 ≤ l.getD i 0 ∧ l.getD i 0 ≤ 999 := h _ (by rw [List.getD_eq_getElem?_getD, List.getElem?_eq_getElem hi]; exact List.getElem_mem _)
theorem prText_ev {l : List Int} (h : CellR l) (hn : l.length ≤ 1000) : Ev (fun k => spec_prText.f k l) (mkB (textL l)) := by
  unfold spec_prText.f
  have loop : ∀ (d i : Nat), i + d = l.length → Ev (fun k => spec_prText.l0 k (mkB (textL (l.take i))) l (l.length : Int) (i : Int)) (mkB (textL l)) := by
    intro d
    induction d with
    | zero =>
      intro i hi
      exact Ev.end_ fun k => by rw [spec_prText.l0, if_neg (by omega), List.take_of_length_le (by omega)]
    | succ d ih =>
      intro i hi
      have hlt : i < l.length := by omega
      have ih1 := ih (i + 1) (by omega)
      have hr := cellR_get h hlt
      have hcl := cellT_len hr
      have htl := text_len i h (by omega)
      have hw := wrap_next (i := i) (n := l.length) hlt (by omega)
      have s32 : (⟨#[32]⟩ : ByteArray) = mkB [32] := rfl
      have s46 : (⟨#[46]⟩ : ByteArray) = mkB [46] := rfl
      have cellneg : l.getD i 0 = -1 → cellT (l.getD i 0) = [46] := fun e => by rw [e]; rfl
      have cellpos : ¬ l.getD i 0 = -1 → cellT (l.getD i 0) = Lib.decDigits (l.getD i 0).toNat := fun e => by unfold cellT; rw [if_neg (by omega)]
      rw [tk_snoc hlt] at ih1
      by_cases h0 : i = 0
      · subst h0
        rw [List.take_zero, List.nil_append, text_one] at ih1
        by_cases hc : l.getD 0 0 = -1
        · rw [cellneg hc] at ih1
          refine Ev.one ih1 fun k => ?_
          rw [spec_prText.l0, if_pos (by omega), if_pos (by omega), if_pos (by omega), if_neg (by omega), rd_nat, if_pos hc, if_pos (by simp [textL, Lib.join_nil, mkB_size]), hw, s46]
          simp [textL, Lib.join_nil, mkB_append]
        · rw [cellpos hc] at ih1
          obtain ⟨n, hnn⟩ : ∃ n : Nat, l.getD 0 0 = n := ⟨(l.getD 0 0).toNat, by omega⟩
          refine Ev.step (f := fun k => (spec_l1Num.f k (n : Int)).bind fun t125 => (if (mkB []).size + t125.size ≤ 9223372036854775807 then (spec_prText.l0 k (mkB [] ++ t125) l (l.length : Int) ((0 + 1 : Nat) : Int)) else (none))) (fun k => by
            rw [spec_prText.l0, if_pos (by omega), if_pos (by omega), if_pos (by omega), if_neg (by omega), rd_nat, if_neg hc, hnn, hw]; simp [textL, Lib.join_nil]) ?_
          refine Ev.bind (l1Num_ev n (by omega)) ?_
          rw [hnn, Int.toNat_natCast] at ih1
          have hdl := dec_len (n := n) (by omega)
          have hcc : ((mkB []).size + (mkB (Lib.decDigits n)).size ≤ 9223372036854775807) = True := eq_true (by rw [mkB_size, mkB_size]; simp; omega)
          simp only [hcc, if_true, mkB_append, List.nil_append]
          exact ih1
      · have hne : l.take i ≠ [] := by
          intro e
          have := congrArg List.length e
          rw [List.length_take] at this
          simp only [List.length_nil] at this
          omega
        rw [text_snoc hne] at ih1
        have c1 : (mkB (textL (l.take i))).size + 1 ≤ 9223372036854775807 := by rw [mkB_size]; omega
        by_cases hc : l.getD i 0 = -1
        · rw [cellneg hc] at ih1
          refine Ev.one ih1 fun k => ?_
          rw [spec_prText.l0, if_pos (by omega), if_pos (by omega), if_pos (by omega), if_pos (by omega), if_pos c1, rd_nat, if_pos hc, s32, s46, mkB_append, if_pos (by rw [mkB_size]; simp; omega), mkB_append, hw]
        · rw [cellpos hc] at ih1
          obtain ⟨n, hnn⟩ : ∃ n : Nat, l.getD i 0 = n := ⟨(l.getD i 0).toNat, by omega⟩
          refine Ev.step (f := fun k => (spec_l1Num.f k (n : Int)).bind fun t124 => (if (mkB (textL (l.take i) ++ [32])).size + t124.size ≤ 9223372036854775807 then (spec_prText.l0 k (mkB (textL (l.take i) ++ [32]) ++ t124) l (l.length : Int) ((i + 1 : Nat) : Int)) else (none))) (fun k => by
            rw [spec_prText.l0, if_pos (by omega), if_pos (by omega), if_pos (by omega), if_pos (by omega), if_pos c1, rd_nat, if_neg hc, s32, mkB_append, hnn, hw]) ?_
          refine Ev.bind (l1Num_ev n (by omega)) ?_
          rw [hnn, Int.toNat_natCast] at ih1
          have hdl := dec_len (n := n) (by omega)
          have hcc : ((mkB (textL (l.take i) ++ [32])).size + (mkB (Lib.decDigits n)).size ≤ 9223372036854775807) = True := eq_true (by rw [mkB_size, mkB_size, List.length_append, List.length_singleton]; omega)
          simp only [hcc, if_true, mkB_append]
          exact ih1
  have := loop l.length 0 (by omega)
  rw [List.take_zero] at this
  exact this
theorem itext_ev {l : List Int} (h : CellR l) (hn : l.length ≤ 1000) : Ev (fun k => impl_Table_text.f k l) (mkB (textL l)) := by
  unfold impl_Table_text.f
  have loop : ∀ (d i : Nat), i + d = l.length → Ev (fun k => impl_Table_text.l0 k ((l.take i).map fun x => mkB (cellT x)) l (l.length : Int) (i : Int)) (mkB (textL l)) := by
    intro d
    induction d with
    | zero =>
      intro i hi
      refine Ev.end_ fun k => ?_
      have htl := text_len l.length h (Nat.le_refl _)
      rw [List.take_length] at htl
      rw [impl_Table_text.l0, if_neg (by omega), List.take_of_length_le (by omega), strings_Join.f]
      have e : joinB (l.map fun x => mkB (cellT x)) ⟨#[32]⟩ = textL l := by
        unfold joinB textL
        rw [List.map_map, show (⟨#[32]⟩ : ByteArray).data.toList = [32] from rfl]
        congr 1
      rw [e, if_pos ⟨by simp; omega, by omega⟩, Option.bind_some]
      rfl
    | succ d ih =>
      intro i hi
      have hlt : i < l.length := by omega
      have ih1 := ih (i + 1) (by omega)
      have hr := cellR_get h hlt
      have hw := wrap_next (i := i) (n := l.length) hlt (by omega)
      rw [tk_snoc hlt, List.map_append, List.map_singleton] at ih1
      have hlen : ((l.take i).map fun x => mkB (cellT x)).length < 8796093022208 := by rw [List.length_map, List.length_take]; omega
      refine Ev.one ih1 fun k => ?_
      rw [impl_Table_text.l0, if_pos (by omega), if_pos (by omega), if_pos (by omega), rd_nat]
      by_cases hc : l.getD i 0 < 0
      · rw [if_pos hc, if_pos hlen, hw]
        unfold cellT
        rw [if_pos hc]
        rfl
      · rw [if_neg hc, strconv_Itoa.f, if_pos (by omega), Option.bind_some, if_pos hlen, hw]
        unfold cellT
        rw [if_neg hc, Lib.itoa, if_neg hc]
        rfl
  exact loop l.length 0 (by omega)
theorem tbl_cellR {l : List Int} (h : tblB l = true) : CellR l := by
  obtain ⟨h1, h2, h3, h4⟩ := tblB_parts h
  intro x hx
  obtain ⟨i, hi, rfl⟩ := List.getElem_of_mem hx
  have := h3 i hi
  rwa [List.getD_eq_getElem?_getD, List.getElem?_eq_getElem hi] at this
def txV (l : List Int) : ByteArray × Bool := if tblB l = true then (mkB (textL l), true) else (mkB [], false)
theorem spec_text_ev (l : List Int) (hn : l.length ≤ 4611686018427387904) : Ev (fun k => spec_TableText.f k l) (txV l) := by
  unfold spec_TableText.f txV
  refine Ev.bind (prGood_ev l hn) ?_
  cases h : tblB l with
  | false => simp only [Bool.false_eq_true, if_false]; exact Ev.now _
  | true =>
    have := (tblB_parts h).2.1
    simp only [if_true]
    refine Ev.bind (prText_ev (tbl_cellR h) (by omega)) ?_
    exact Ev.now _
theorem impl_text_ev (l : List Int) (hn : l.length ≤ 4611686018427387904) : Ev (fun k => impl_TableText.f k l) (txV l) := by
  unfold impl_TableText.f txV
  refine Ev.bind (isTable_ev l hn) ?_
  cases h : tblB l with
  | false => simp only [Bool.false_eq_true, if_false]; exact Ev.now _
  | true =>
    have := (tblB_parts h).2.1
    simp only [if_true]
    refine Ev.bind (itext_ev (tbl_cellR h) (by omega)) ?_
    exact Ev.now _
end Go.Proofs.YtaccgpbogddbmaaDoor.G
namespace Go.Proofs.YtaccgpbogddbmaaDoor.Pure
open Go.RowKit Go.Proofs.YtaccgpbogddbmaaDoor.G Go.Proofs.YtaccgpbogddbmaaDoorW.PrintWords Go.Proofs.YtaccgpbogddbmaaDoorW.PrintLast
set_option linter.unusedVariables false
set_option linter.unusedSimpArgs false
theorem FnExactTableText (l0 : List Int) (hm : l0.length ≤ maxLen) (hb : l0.length * 8 ≤ 140737488351232) (hw : ∀ x ∈ l0, (Lit.int .i64 x).wf = true) : ∃ k, laws_FnExactTableText.f k l0 = some true := by
  refine Ev.rounds ?_
  unfold laws_FnExactTableText.f
  rw [szTable_eq l0 (by omega)]
  simp only [Option.bind_some]
  by_cases h : (l0.length : Int) > 1048576
  · rw [if_pos h]
    simp only [show ((-1 : Int) < 0) by decide, if_true]
    exact Ev.now _
  · rw [if_neg h]
    have hn : l0.length ≤ 1048576 := by omega
    simp only [show ¬ ((1048576 : Int) - (l0.length : Int) < 0) by omega, if_false]
    refine Ev.bind (toTable_ev l0 (by omega)) ?_
    refine Ev.bind (spec_text_ev l0 (by omega)) ?_
    refine Ev.bind (toTable_ev l0 (by omega)) ?_
    refine Ev.bind (impl_text_ev l0 (by omega)) ?_
    simp only [if_true, bne_self_eq_false]
    refine Ev.step (fun k => by rw [laws_FnExactTableText.j0, if_neg (by decide)]) ?_
    refine Ev.bind (toTable_ev l0 (by omega)) ?_
    refine Ev.bind (eqTable_ev l0 l0 (by omega)) ?_
    simp only [decide_true, if_true]
    exact Ev.now _
end Go.Proofs.YtaccgpbogddbmaaDoor.Pure
namespace Go.Proofs.YtaccgpbogddbmaaDoorW.PrintWords
open Go.ChangeShapes Go.WideShapes
theorem sized_ints {H : Type} {enc : TypeId × Value → H} {P : Program} {W : World} {base : Nat} {spare : Nat → Bool} {held : Bool} {t e : TypeId} {k : IntKind} {a : Option Addr} {len cap : Nat} {d : DataW H} {ps : List MemPlace} {ts : List TypeId} {ds : List (DataW H)} {j : Nat}
    (hsz : (DataW.weightsEach P ts ds).all (· ≤ reachBytes) = true) (ht : ts[j]? = some t) (hd : ds[j]? = some d) (hu : P.underlying t = some (.slice e)) (he : P.underlying e = some (.int k)) (hc : P.cellsOf e = 1) {B : Nat} (hB : P.bytesOf e = B)
    (h : DataW.Trod enc P W base spare held t (.slice a len cap) d ps) : len * B ≤ 140737488351232 := by
  obtain ⟨fuel, hf⟩ := h
  rcases open_ints hu he hc hf with ⟨hcs, _⟩ | ⟨x, l, c, zs, hcs, _, hl, _, hz, hx, _, _⟩
  · simp [Value.cells] at hcs
    obtain ⟨rfl, rfl, rfl⟩ := hcs
    simp
  · simp [Value.cells] at hcs
    obtain ⟨rfl, rfl, rfl⟩ := hcs
    obtain ⟨hx, _⟩ := Prod.mk.inj hx
    subst hx
    have z := sized_slice hsz ht hd hu
    rw [hB] at z
    have hl2 : len ≤ zs.length := by
      rw [hz]
      split
      · exact hl
      · exact Nat.le_refl _
    have h1 : (lits (H := H) k (zs.take len)).length + (lits (H := H) k (zs.drop len)).length = zs.length := by
      simp [lits]
      omega
    rw [h1] at z
    exact Nat.le_trans (Nat.mul_le_mul_right _ hl2) z
end Go.Proofs.YtaccgpbogddbmaaDoorW.PrintWords
namespace Go.Proofs.YtaccgpbogddbmaaDoor.fnExactTableText
open Go.ChangeShapes Go.WideShapes Go.ChangeAt Go.RowKit
open Go.ChangeMaps (open_string shut_string)
open Go.Proofs.YtaccgpbogddbmaaDoorW.PrintWords Go.Proofs.YtaccgpbogddbmaaDoorW.PrintLast Go.Proofs.YtaccgpbogddbmaaDoorW.PrintMore
set_option linter.unusedVariables false
set_option linter.unusedSimpArgs false
theorem own : ownKnob Tryd.prog.godebug = none := by kernel_rfl
theorem laidOut : laidOutB Tryd.prog = true := by kernel_rfl
def IsRow (k : IntKind) (w : World) (a : Option Addr) (len cap : Nat) (zs : List Int) : Prop :=
  (a = none ∧ len = 0 ∧ cap = 0 ∧ zs = []) ∨
  ∃ x, a = some x ∧ len ≤ cap ∧ cap ≤ maxLen ∧ zs.length = cap ∧ (∀ i, i < zs.length → w.cell? (x.add i) = some (.int k (zs.getD i 0))) ∧ ∀ n ∈ zs, (Lit.int k n).wf = true
theorem tab_of {w : World} (h : laidMetH Tryd.prog Rows.fnExactTableTextRow.laid w) : G.GT w := by
  rw [MakeChecks.laidMetH_plain _ _ _ (by kernel_rfl)] at h
  exact Lib.tabIs_of_head (g := 3) (t := 100) (e := 84) (n := 20) (by kernel_rfl) (by kernel_rfl) Tryd.underlying100 Tryd.underlying84 (by kernel_rfl) (by kernel_rfl) h.tail.tail
set_option maxHeartbeats 4000000 in
set_option maxRecDepth 100000 in
theorem lifted (os : Os) (started : os.Started) (H : Type) (enc : TypeId × Value → H) :
    ReturnsInHanded {} Tryd.checked os 3 .any (fun w args => (Rows.fnExactTableTextSpec.pre enc Tryd.prog Tryd.f3 Rows.fnExactTableTextRow.domain false w args ∧ laidMetH Tryd.prog Rows.fnExactTableTextRow.laid w) ∧ sizedMet enc Tryd.prog Tryd.f3 (OpenSpec.ofChange Rows.fnExactTableTextSpec) false w args)
      (Rows.fnExactTableTextSpec.post enc Tryd.prog Tryd.f3 false true false false) := by
  refine returnsInHanded_of_change_and (C := Tryd.checked) (X := fun w _ => laidMetH Tryd.prog Rows.fnExactTableTextRow.laid w) (fun _ _ _ hh h => h.of_heap hh) own started (by kernel_rfl) Tryd.func3
    (ChangeSpec.witness_shaped (enc := enc) (C := Tryd.checked) (os := os) (X := fun w _ => laidMetH Tryd.prog Rows.fnExactTableTextRow.laid w) false (World.laidAll Tryd.prog os Rows.fnExactTableTextRow.laid) #[.agg #[.slice none 0 0]] 8 (World.laidAll_os _ _ _)
      (World.shaped_of_ZipB (by kernel_rfl) (by kernel_rfl)) (by kernel_rfl) (by kernel_rfl) (by kernel_rfl)
      (by rw [MakeChecks.laidMetH_plain _ _ _ (by kernel_rfl)]; exact laidMet_laidAll _ (by kernel_rfl) (by kernel_rfl))) ?_
  intro W base args ds gs before hval0 hW hcnd hsz0 hL _
  have hsz : (DataW.weightsEach Tryd.prog (Tryd.f3.params.toList ++ Rows.fnExactTableTextSpec.plain.varTypes Tryd.prog) (ds ++ gs)).all (· ≤ reachBytes) = true := hsz0
  have hval : ∀ (j : Nat) t v, Tryd.f3.params[j]? = some t → args[j]? = some v → Value.okWide Tryd.prog W .any _ t v := hval0
  have hW' := hW
  obtain ⟨p, q, hA0, hV, rfl, hfz, hnd⟩ := hW
  have hA : DataW.TrodAll enc Tryd.prog W 0 (fun _ => true) true Tryd.f3.params.toList args.toList ds p := hA0
  rw [Tryd.params3] at hA hval hsz
  obtain ⟨v0, vs0, d0, ds0, p0, q0, hargs, rfl, rfl, h0, r0⟩ := trodAll_cons hA
  obtain ⟨rfl, rfl, rfl⟩ := trodAll_nil r0
  obtain rfl : args = #[v0] := by cases args; simp_all
  obtain ⟨rfl, rfl⟩ := trodVars_none hV
  have hG := tab_of hL
  obtain ⟨cs0, rfl, hcs0⟩ := okWide_struct Tryd.underlying24 (hval 0 24 v0 rfl rfl)
  have k0 := h0
  have lt0 : ∀ x ∈ p0, x.block < W.heap.size := by obtain ⟨m, hm⟩ := k0; exact DataW.trod_lt m _ _ _ hm
  obtain ⟨a0, len0, cap0, z0, rfl, w0, y0⟩ : ∃ a len cap zs, cs0 = #[.slice a len cap] ∧ IsRow .i64 W a len cap zs ∧ len * 8 ≤ 140737488351232 := by
    obtain ⟨fuel, hf⟩ := h0
    obtain ⟨y, m, hx, _, hf0⟩ := trod_struct1 Tryd.underlying24 hf
    have hsize : cs0.size = 1 := hcs0.trans (by kernel_rfl)
    obtain ⟨u, rfl⟩ : ∃ u, cs0 = #[u] := Array.size_eq_one_iff.1 hsize
    have hone : Tryd.prog.cellsOf 22 = 1 := by kernel_rfl
    have hf1 : DataW.trod enc Tryd.prog W 0 (fun _ => true) true m 22 [u] = some y := by simpa [Value.cells, hone] using hf0
    obtain ⟨rfl, rfl⟩ := Prod.mk.inj hx
    have hsz1 : (DataW.weightsEach Tryd.prog [22] [y.1]).all (· ≤ reachBytes) = true := by
      rw [List.all_eq_true]
      intro b hb
      refine List.all_eq_true.1 hsz b (DataW.weights_mem_each (j := 0) rfl rfl b ?_)
      rw [DataW.weights, Tryd.underlying24]
      exact hb
    rcases open_ints Tryd.underlying22 Tryd.underlying3 (by kernel_rfl) hf1 with ⟨hcs, _⟩ | ⟨x, l, c, zs, hcs, _, hl, hm, hz, _, hcell, hwz⟩
    · obtain rfl : u = .slice none 0 0 := by simpa using hcs
      exact ⟨none, 0, 0, [], rfl, .inl ⟨rfl, rfl, rfl, rfl⟩, by omega⟩
    · obtain rfl : u = .slice (some x) l c := by simpa using hcs
      have hy := Go.Proofs.YtaccgpbogddbmaaDoorW.PrintWords.sized_ints hsz1 (j := 0) (t := 22) rfl rfl Tryd.underlying22 Tryd.underlying3 (by kernel_rfl) (B := 8) (by kernel_rfl) (⟨m, hf1⟩ : DataW.Trod enc Tryd.prog W 0 (fun _ => true) true 22 (.slice (some x) l c) y.1 y.2)
      exact ⟨some x, l, c, zs, rfl, .inr ⟨_, rfl, hl, hm, by simpa using hz, hcell, hwz⟩, hy⟩
  clear hA0 hval0 hsz0 hsz
  obtain ⟨l0, rfl, hr0, hm0, hw0, hc0⟩ := ReadsInt.ofRowC w0
  obtain ⟨k, h⟩ := Pure.FnExactTableText l0 hm0 y0 hw0
  refine (G.laws_FnExactTableText.calls k _ _ l0 true W (Kd.C_of_reads (d := (0 : Int)) (h1 := fun _ => rfl) hr0) hc0 hG h).mono fun e W' hee => ?_
  obtain ⟨he, bel⟩ := hee
  subst he
  exact ⟨_, rfl, _, _, _, [], _, [], hW', trodAll_mk1 (shut_bool Tryd.underlying4 _), (trodAll_cons_mk (Below.trod laidOut (by kernel_rfl) (of_decide_eq_true (by kernel_rfl)) k0 bel lt0) trodAll_mk0), rfl, bel.frame _, fun h => by cases h⟩
theorem over : Rows.fnExactTableTextRow.holds Tryd.pinned (OpenSpec.ofChange Rows.fnExactTableTextSpec) :=
  OpenClaim.holds_of_wide 3 Tryd.f3 rfl rfl rfl rfl rfl rfl rfl ⟨rfl, rfl, rfl, rfl, rfl⟩ rfl rfl rfl rfl rfl (by kernel_rfl) Tryd.func3 (by kernel_rfl)
    (of_decide_eq_true (by kernel_rfl)) (by unfold Func.isWrapper; first | (rw [if_pos (by decide +kernel)]; kernel_rfl) | (rw [if_neg (by decide +kernel)]; exact ⟨rfl, rfl⟩))
    (fun os started H enc _ => lifted os started H enc)
theorem card : Rows.FnExactTableTextCardSaid :=
  Claim7.holds_tied_plain_at .later [] [.data, .data, .data] true (true, "0f4d7234a903fcf21dbfc54f7ef607d0cefc7e868c09d3682bc3da903d5709a8") true over (fun _ h => by cases h) (by kernel_rfl) (fun _ h => by cases h) fnExactTableText_row_tie rfl ⟨rfl, rfl⟩ (by kernel_rfl) rfl
    (fun f fn hf hfn => by
      obtain rfl : f = 3 := Option.some.inj ((show Tryd.prog.funcNamed "loop.example/g01115/laws.FnExactTableText" = some 3 by kernel_rfl).symm.trans hf) |>.symm
      obtain rfl : fn = Tryd.f3 := (Option.some.inj (Tryd.func3.symm.trans hfn)).symm
      exact ⟨by kernel_rfl, fun j t ht => by
        rw [Tryd.params3] at ht
        have hm : t ∈ [24] := by simpa using Array.mem_of_getElem? ht
        have hall : ([24].all fun u => !Tryd.prog.wantsStandIn u) = true := by kernel_rfl
        exact (show Tryd.prog.wantsStandIn t = false by simpa using List.all_eq_true.1 hall t hm)⟩)
    (by kernel_rfl)
#print axioms over
#print axioms card
end Go.Proofs.YtaccgpbogddbmaaDoor.fnExactTableText
namespace Go.Proofs.YtaccgpbogddbmaaDoor
/-- The card, under a short name, for the claim. -/
theorem fnExactTableText_card : Rows.FnExactTableTextCardSaid := fnExactTableText.card
end Go.Proofs.YtaccgpbogddbmaaDoor
