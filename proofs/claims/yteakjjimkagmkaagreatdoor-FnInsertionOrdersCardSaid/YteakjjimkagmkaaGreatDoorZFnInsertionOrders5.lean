/- The law FnInsertionOrders: part 5 of the printed functions and the facts on them that its row leans on (merged by this session's slim.py). -/
import Derived.Test.YteakjjimkagmkaaGreatDoorZFnInsertionOrders4
set_option linter.unusedVariables false
set_option linter.unusedSimpArgs false
namespace Go.Proofs.YteakjjimkagmkaaGreatDoor.G
open Go.RowKit Go.Proofs.YteakjjimkagmkaaGreatDoorW.PrintWords Go.Proofs.YteakjjimkagmkaaGreatDoorW.PrintLast Go.Proofs.YteakjjimkagmkaaGreatDoorW.PrintMore
theorem take_succ_getD {l : List Int} {i : Nat} (h : i < l.length) : l.take (i + 1) = l.take i ++ [l.getD i 0] := by
  rw [List.take_succ_eq_append_getElem h, List.getD_eq_getElem?_getD, List.getElem?_eq_getElem h]; rfl
theorem drop_getD {l : List Int} {i : Nat} (h : i < l.length) : l.drop i = l.getD i 0 :: l.drop (i + 1) := by
  rw [List.drop_eq_getElem_cons h, List.getD_eq_getElem?_getD, List.getElem?_eq_getElem h]; rfl
theorem Ev.of_all {α : Type} {g : Nat → Option α} {r : α} (K : Nat) (h : ∀ k, K < k → g k = some r) : Ev g r := ⟨K + 1, fun k hk => h k (by omega)⟩
/-- A loop that counts up: its state at each count, what is left behind the last one. -/
theorem Ev.up {σ ρ : Type} (n : Nat) (S : Nat → σ) (L : Nat → σ → Int → Option ρ) (r : ρ)
    (hstep : ∀ i, i < n → Ev (fun k => L k (S (i + 1)) ((i + 1 : Nat) : Int)) r → Ev (fun k => L k (S i) (i : Int)) r)
    (hend : Ev (fun k => L k (S n) (n : Int)) r) : ∀ m, m ≤ n → Ev (fun k => L k (S m) (m : Int)) r := by
  intro m hm
  have key : ∀ d m, m + d = n → Ev (fun k => L k (S m) (m : Int)) r := by
    intro d
    induction d with
    | zero => intro m hd; obtain rfl : m = n := by omega
              exact hend
    | succ d ih => intro m hd; exact hstep m (by omega) (ih (m + 1) (by omega))
  exact key (n - m) m (by omega)
theorem Ev.up0 {σ ρ : Type} (n : Nat) (S : Nat → σ) (L : Nat → σ → Int → Option ρ) (r : ρ)
    (hstep : ∀ i, i < n → Ev (fun k => L k (S (i + 1)) ((i + 1 : Nat) : Int)) r → Ev (fun k => L k (S i) (i : Int)) r)
    (hend : Ev (fun k => L k (S n) (n : Int)) r) : Ev (fun k => L k (S 0) 0) r := Ev.up n S L r hstep hend 0 (Nat.zero_le _)
/-- A round that needs no rounds of others. -/
theorem Ev.one {α : Type} {g f : Nat → Option α} {r : α} (k : Ev f r) (h : ∀ k, g (k + 1) = f k) : Ev g r := Ev.step h k
theorem Ev.end_ {α : Type} {g : Nat → Option α} {r : α} (h : ∀ k, g (k + 1) = some r) : Ev g r := Ev.step h (Ev.now r)
/-- Places that were written one by one: what is new, and what is still old. -/
def mixed (R o : List Int) (i : Nat) : List Int := R.take i ++ o.drop i
theorem l1In_eq (a b c : Int) : spec_l1In.f a b c = some (decide (b ≤ a ∧ a ≤ c)) := by
  unfold spec_l1In.f
  split
  · rename_i h; congr 1; rw [Bool.eq_iff_iff]; simp; omega
  · rename_i h; congr 1; rw [Bool.eq_iff_iff]; simp; omega
theorem l1All_l0 (l : List Int) (lo hi : Int) (hn : l.length ≤ 4611686018427387904) : ∀ (d k i : Nat), i + d = l.length → d < k → spec_l1All.l0 k lo hi l (l.length : Int) i = some ((l.drop i).all fun x => decide (lo ≤ x ∧ x ≤ hi)) := by
  intro d
  induction d with
  | zero =>
    intro k i hd hk
    obtain ⟨k, rfl⟩ := succ_of hk
    rw [spec_l1All.l0, if_neg (by omega), List.drop_of_length_le (by omega)]; rfl
  | succ d ih =>
    intro k i hd hk
    obtain ⟨k, rfl⟩ := succ_of hk
    rw [spec_l1All.l0, if_pos (by omega), if_pos (by omega), if_pos (by omega), l1In_eq, Option.bind_some, rd_nat, wrap_next (n := l.length) (by omega) hn, ih k (i + 1) (by omega) (by omega), drop_getD (l := l) (i := i) (by omega), List.all_cons]
    split
    · rename_i h; rw [h, Bool.true_and]
    · rename_i h; rw [Bool.not_eq_true] at h; rw [h, Bool.false_and]
theorem l1All_ev (l : List Int) (lo hi : Int) (hn : l.length ≤ 4611686018427387904) : Ev (fun k => spec_l1All.f k l lo hi) (l.all fun x => decide (lo ≤ x ∧ x ≤ hi)) := by
  refine Ev.of_all l.length fun k hk => ?_
  have := l1All_l0 l lo hi hn l.length k 0 (by omega) hk
  simpa [spec_l1All.f] using this
theorem between_eq (a b c : Int) : impl_between.f a b c = some (decide (b ≤ a ∧ a ≤ c)) := by
  unfold impl_between.f
  by_cases h : a ≥ b
  · rw [if_pos h]; congr 1; simp; omega
  · rw [if_neg h]; congr 1; simp; omega
theorem prSize_eq (a : Int) : spec_prSize.f a = some (decide (2 ≤ a ∧ a ≤ 12)) := by unfold spec_prSize.f; rw [l1In_eq]; rfl
theorem isSize_eq (a : Int) : impl_isSize.f a = some (decide (2 ≤ a ∧ a ≤ 12)) := by unfold impl_isSize.f; rw [between_eq]; rfl
theorem l1Has_l0 (x : List Int) (a : Int) (hn : x.length ≤ 4611686018427387904) : ∀ (d i : Nat), i + d = x.length → Ev (fun k => spec_l1Has.l0 k a x (x.length : Int) i) (decide (a ∈ x.drop i)) := by
  intro d
  induction d with
  | zero =>
    intro i hd
    refine Ev.end_ fun k => ?_
    rw [spec_l1Has.l0, if_neg (by omega), List.drop_eq_nil_of_le (by omega)]
    simp
  | succ d ih =>
    intro i hd
    have e1 := drop_getD (l := x) (i := i) (by omega)
    by_cases h : x.getD i 0 = a
    · refine Ev.end_ fun k => ?_
      rw [spec_l1Has.l0, if_pos (by omega), if_pos (by omega), if_pos (by omega), rd_nat, if_pos h, e1, h, decide_eq_true (List.mem_cons_self)]
    · refine Ev.one (f := fun k => spec_l1Has.l0 k a x (x.length : Int) ((i + 1 : Nat) : Int)) ?_ fun k => ?_
      · have := ih (i + 1) (by omega)
        have e : decide (a ∈ x.drop i) = decide (a ∈ x.drop (i + 1)) := by
          rw [e1]
          have : ¬ a = x.getD i 0 := fun e => h e.symm
          simp only [List.mem_cons, this, false_or]
        rw [e]; exact this
      · rw [spec_l1Has.l0, if_pos (by omega), if_pos (by omega), if_pos (by omega), rd_nat, if_neg h, wrap_next (n := x.length) (by omega) hn]
theorem l1Has_ev (x : List Int) (a : Int) (hn : x.length ≤ 4611686018427387904) : Ev (fun k => spec_l1Has.f k x a) (decide (a ∈ x)) := by
  unfold spec_l1Has.f
  have := l1Has_l0 x a hn x.length 0 (by omega)
  simpa using this
/-- The first place of a number, -1 where it is not. -/
def ixF (l : List Int) (a : Int) : Nat → Nat → Int
  | 0, _ => -1
  | d + 1, i => if l.getD i 0 = a then (i : Int) else ixF l a d (i + 1)
theorem ixF_spec (l : List Int) (a : Int) : ∀ (d i : Nat), i + d = l.length → (ixF l a d i = -1 ∧ a ∉ l.drop i) ∨ (∃ j : Nat, ixF l a d i = j ∧ j < l.length ∧ l.getD j 0 = a ∧ a ∈ l.drop i)
  | 0, i, h => by left; rw [List.drop_of_length_le (by omega)]; exact ⟨rfl, by simp⟩
  | d + 1, i, h => by
    rw [ixF, drop_getD (by omega)]
    by_cases c : l.getD i 0 = a
    · right; rw [if_pos c]; exact ⟨i, rfl, by omega, c, by rw [c]; simp⟩
    · rw [if_neg c]
      rcases ixF_spec l a d (i + 1) (by omega) with ⟨h1, h2⟩ | ⟨j, h1, h2, h3, h4⟩
      · left; exact ⟨h1, by simp only [List.mem_cons, not_or]; exact ⟨fun e => c e.symm, h2⟩⟩
      · right; exact ⟨j, h1, h2, h3, by simp [h4]⟩
theorem index_l0 (l : List Int) (a : Int) (hn : l.length ≤ 4611686018427387904) : ∀ (d i : Nat), i + d = l.length → Ev (fun k => slices_Index_int_int.l0 k l a (l.length : Int) i) (ixF l a d i) := by
  intro d
  induction d with
  | zero =>
    intro i hd
    exact Ev.end_ fun k => by rw [slices_Index_int_int.l0, if_neg (by omega)]; rfl
  | succ d ih =>
    intro i hd
    rw [ixF]
    by_cases c : l.getD i 0 = a
    · rw [if_pos c]
      refine Ev.end_ fun k => ?_
      rw [slices_Index_int_int.l0, if_pos (by omega), if_pos (by omega), if_pos (by omega), rd_nat, if_pos c.symm]
    · rw [if_neg c]
      refine Ev.one (ih (i + 1) (by omega)) fun k => ?_
      rw [slices_Index_int_int.l0, if_pos (by omega), if_pos (by omega), if_pos (by omega), rd_nat, if_neg (fun e => c e.symm), wrap_next (n := l.length) (by omega) hn]
theorem index_ev (l : List Int) (a : Int) (hn : l.length ≤ 4611686018427387904) : Ev (fun k => slices_Index_int_int.f k l a) (ixF l a l.length 0) := by
  unfold slices_Index_int_int.f
  exact index_l0 l a hn l.length 0 (by omega)
theorem containsI_ev (l : List Int) (a : Int) (hn : l.length ≤ 4611686018427387904) : Ev (fun k => slices_Contains_int_int.f k l a) (decide (a ∈ l)) := by
  unfold slices_Contains_int_int.f
  refine Ev.bind (index_ev l a hn) ?_
  have e : decide (ixF l a l.length 0 ≥ 0) = decide (a ∈ l) := by
    rcases ixF_spec l a l.length 0 (by omega) with ⟨h1, h2⟩ | ⟨j, h1, h2, h3, h4⟩
    · rw [List.drop_zero] at h2
      rw [h1, decide_eq_false h2]; decide
    · rw [List.drop_zero] at h4
      rw [h1, decide_eq_true h4]; exact decide_eq_true (by omega)
  rw [e]
  exact Ev.now _
def costN (n key at_ : Nat) : Nat := (at_ + n - key % n) % n
theorem cost_arith {n key at_ : Nat} (hn : 0 < n) (hn2 : n ≤ 1000) (hk : key ≤ 1000) (ha : at_ < n) : Int.tmod (wrap64 ((wrap64 ((at_ : Int) - (Int.tmod (key : Int) (n : Int)))) + (n : Int))) (n : Int) = (costN n key at_ : Nat) := by
  have e1 : Int.tmod (key : Int) (n : Int) = ((key % n : Nat) : Int) := rfl
  have hlt := Nat.mod_lt key hn
  rw [e1, wrap_id (x := (at_ : Int) - ((key % n : Nat) : Int)) (by omega) (by omega), wrap_id (by omega) (by omega)]
  rw [show (at_ : Int) - ((key % n : Nat) : Int) + (n : Int) = ((at_ + n - key % n : Nat) : Int) by omega]
  rfl
theorem costN_lt {n key at_ : Nat} (hn : 0 < n) : costN n key at_ < n := Nat.mod_lt _ hn
theorem prCost_eq {n key at_ : Nat} (hn : 0 < n) (hn2 : n ≤ 1000) (hk : key ≤ 1000) (ha : at_ < n) : spec_prCost.f (key : Int) (at_ : Int) (n : Int) = some ((costN n key at_ : Nat) : Int) := by
  unfold spec_prCost.f
  rw [if_neg (by omega), cost_arith hn hn2 hk ha]
theorem tcost_eq {l : List Int} {key at_ : Nat} (hn2 : l.length ≤ 1000) (hk : key ≤ 1000) (ha : at_ < l.length) (hg : l.getD at_ 0 = (key : Int)) : impl_Table_cost.f l (at_ : Int) = some ((costN l.length key at_ : Nat) : Int) := by
  unfold impl_Table_cost.f
  rw [if_pos (by omega), if_pos (by omega), if_neg (by omega), rd_nat, hg, cost_arith (by omega) hn2 hk ha]
/-- No free cell among the key's c cells from the s-th on. -/
def wayF (l : List Int) (key : Nat) : Nat → Nat → Bool
  | _, 0 => true
  | s, c + 1 => decide (0 ≤ l.getD ((key + s) % l.length) 0) && wayF l key (s + 1) c
def okCell (l : List Int) (i : Nat) : Bool := decide (l.getD i 0 < 0) || (!decide (l.getD i 0 ∈ l.take i) && wayF l (l.getD i 0).toNat 0 (costN l.length (l.getD i 0).toNat i))
def okFrom (l : List Int) : Nat → Nat → Bool
  | 0, _ => true
  | d + 1, i => okCell l i && okFrom l d (i + 1)
def tblB (l : List Int) : Bool := decide (2 ≤ (l.length : Int) ∧ (l.length : Int) ≤ 12) && (l.all fun x => decide (-1 ≤ x ∧ x ≤ 999)) && decide ((-1 : Int) ∈ l) && okFrom l l.length 0
/-- The cell that lies so far back is the key's own one, so far on. -/
theorem back_cell {n key at_ c j : Nat} (hn : 0 < n) (ha : at_ < n) (hc : costN n key at_ = c) (hj : j ≤ c) (h1 : 1 ≤ j) : (at_ + n - j) % n = (key + (c - j)) % n := by
  have hk := Nat.mod_lt key hn
  have hcn : c < n := by rw [← hc]; exact costN_lt hn
  have e : (key + (c - j)) % n = (key % n + (c - j)) % n := (Nat.mod_add_mod key n (c - j)).symm
  rw [e]
  unfold costN at hc
  rcases Nat.lt_or_ge at_ (key % n) with h | h
  · rw [Nat.mod_eq_of_lt (show at_ + n - key % n < n by omega)] at hc
    rw [show key % n + (c - j) = at_ + n - j by omega]
  · have : (at_ + n - key % n) % n = at_ - key % n := by
      rw [show at_ + n - key % n = (at_ - key % n) + n by omega, Nat.add_mod_right, Nat.mod_eq_of_lt (by omega)]
    rw [this] at hc
    rw [show at_ + n - j = (key % n + (c - j)) + n by omega, Nat.add_mod_right]
end Go.Proofs.YteakjjimkagmkaaGreatDoor.G
namespace Go.Proofs.YteakjjimkagmkaaGreatDoor.G
open Go.RowKit Go.Proofs.YteakjjimkagmkaaGreatDoorW.PrintWords Go.Proofs.YteakjjimkagmkaaGreatDoorW.PrintLast Go.Proofs.YteakjjimkagmkaaGreatDoorW.PrintMore
section
variable (l : List Int) (hn : 2 ≤ l.length) (hn2 : l.length ≤ 12) (hr : ∀ j, j < l.length → -1 ≤ l.getD j 0 ∧ l.getD j 0 ≤ 999)
include hn hn2 hr
theorem sp_way (key i c : Nat) (hk : key ≤ 1000) (hi : i < l.length) (hc : costN l.length key i = c) (r : Bool) (h : Ev (fun k => spec_prGood.l0 k (l.length : Int) l (l.length : Int) (wrap64 ((i : Int) + 1)) l) r) : ∀ (j : Nat), j ≤ c →
    Ev (fun k => spec_prGood.l1 k (l.length : Int) (i : Int) (j : Int) l (l.length : Int) (i : Int) l) (if wayF l key (c - j) j = true then r else false) := by
  have hcn : c < l.length := by rw [← hc]; exact costN_lt (by omega)
  intro j
  induction j with
  | zero =>
    intro _
    rw [wayF, if_pos rfl]
    exact Ev.one h fun k => by rw [spec_prGood.l1, if_neg (by omega)]
  | succ j ih =>
    intro hj
    have hcell := back_cell (n := l.length) (by omega) hi hc hj (by omega)
    have e1 : Int.tmod (wrap64 ((wrap64 ((i : Int) - ((j + 1 : Nat) : Int))) + (l.length : Int))) (l.length : Int) = (((key + (c - (j + 1))) % l.length : Nat) : Int) := by
      rw [wrap_id (x := (i : Int) - ((j + 1 : Nat) : Int)) (by omega) (by omega), wrap_id (by omega) (by omega), ← hcell, show (i : Int) - ((j + 1 : Nat) : Int) + (l.length : Int) = ((i + l.length - (j + 1) : Nat) : Int) by omega]
      rfl
    have hm := Nat.mod_lt (key + (c - (j + 1))) (show 0 < l.length by omega)
    have hv := hr _ hm
    rw [wayF, show c - (j + 1) + 1 = c - j by omega]
    by_cases hf : l.getD ((key + (c - (j + 1))) % l.length) 0 = -1
    · rw [show decide (0 ≤ l.getD ((key + (c - (j + 1))) % l.length) 0) = false from decide_eq_false (by omega), Bool.false_and, if_neg (by decide)]
      refine Ev.end_ fun k => ?_
      rw [spec_prGood.l1, if_pos (by omega), if_neg (by omega), e1, if_pos (by omega), if_pos (by omega), rd_nat, if_pos hf]
    · rw [show decide (0 ≤ l.getD ((key + (c - (j + 1))) % l.length) 0) = true from decide_eq_true (by omega), Bool.true_and]
      refine Ev.one (ih (by omega)) fun k => ?_
      rw [spec_prGood.l1, if_pos (by omega), if_neg (by omega), e1, if_pos (by omega), if_pos (by omega), rd_nat, if_neg hf, wrap_id (x := ((j + 1 : Nat) : Int) - 1) (by omega) (by omega), show ((j + 1 : Nat) : Int) - 1 = (j : Int) by omega]
theorem im_way (key i c : Nat) (hk : key ≤ 1000) (hi : i < l.length) (hc : c < l.length) (r : Bool) (h : Ev (fun k => impl_isTable.l0 k l (l.length : Int) (wrap64 ((i : Int) + 1)) l) r) : ∀ (d s : Nat), s + d = c →
    Ev (fun k => impl_isTable.l1 k (key : Int) l (l.length : Int) (i : Int) (c : Int) (s : Int) l) (if wayF l key s d = true then r else false) := by
  have hr0 := hr
  intro d
  induction d with
  | zero =>
    intro s hs
    rw [wayF, if_pos rfl]
    exact Ev.one h fun k => by rw [impl_isTable.l1, if_neg (by omega)]
  | succ d ih =>
    intro s hs
    have e1 : Int.tmod (wrap64 ((key : Int) + (s : Int))) (l.length : Int) = (((key + s) % l.length : Nat) : Int) := by
      rw [wrap_id (by omega) (by omega), show (key : Int) + (s : Int) = ((key + s : Nat) : Int) by omega]
      rfl
    have hm := Nat.mod_lt (key + s) (show 0 < l.length by omega)
    rw [wayF]
    by_cases hf : l.getD ((key + s) % l.length) 0 < 0
    · rw [show decide (0 ≤ l.getD ((key + s) % l.length) 0) = false from decide_eq_false (by omega), Bool.false_and, if_neg (by decide)]
      refine Ev.end_ fun k => ?_
      rw [impl_isTable.l1, if_pos (by omega), if_neg (by omega), e1, if_pos (by omega), if_pos (by omega), rd_nat, if_pos hf]
    · rw [show decide (0 ≤ l.getD ((key + s) % l.length) 0) = true from decide_eq_true (by omega), Bool.true_and]
      refine Ev.one (ih (s + 1) (by omega)) fun k => ?_
      rw [impl_isTable.l1, if_pos (by omega), if_neg (by omega), e1, if_pos (by omega), if_pos (by omega), rd_nat, if_neg hf, wrap_next (n := 1000) (by omega) (by omega)]
theorem sp_good_l0 : ∀ (d i : Nat), i + d = l.length → Ev (fun k => spec_prGood.l0 k (l.length : Int) l (l.length : Int) (i : Int) l) (okFrom l d i) := by
  intro d
  induction d with
  | zero =>
    intro i hd
    exact Ev.end_ fun k => by rw [spec_prGood.l0, if_neg (by omega)]; rfl
  | succ d ih =>
    intro i hd
    have hi : i < l.length := by omega
    have hv := hr i hi
    rw [okFrom, okCell]
    by_cases hf : l.getD i 0 = -1
    · rw [show decide (l.getD i 0 < 0) = true from decide_eq_true (by omega), Bool.true_or, Bool.true_and]
      refine Ev.one (ih (i + 1) (by omega)) fun k => ?_
      rw [spec_prGood.l0, if_pos (by omega), if_pos (by omega), if_pos (by omega), rd_nat, if_pos hf, wrap_next (n := l.length) hi (by omega)]
    · rw [show decide (l.getD i 0 < 0) = false from decide_eq_false (by omega), Bool.false_or]
      obtain ⟨key, hkey⟩ : ∃ key : Nat, l.getD i 0 = key := ⟨(l.getD i 0).toNat, by omega⟩
      rw [hkey, Int.toNat_natCast]
      refine Ev.step (f := fun k => (spec_l1Has.f k (l.take i) (key : Int)).bind fun t169 => (if t169 = true then (some false) else (spec_prGood.l1 k (l.length : Int) (i : Int) ((costN l.length key i : Nat) : Int) l (l.length : Int) (i : Int) l))) (fun k => by
        rw [spec_prGood.l0, if_pos (by omega), if_pos (by omega), if_pos (by omega), rd_nat, if_neg hf, if_pos (by omega), Int.toNat_natCast, hkey, prCost_eq (by omega) (by omega) (by omega) hi]; rfl) ?_
      refine Ev.bind (l1Has_ev _ _ (by simp; omega)) ?_
      cases hh : decide ((key : Int) ∈ l.take i) with
      | true => simp only [if_true, Bool.not_true, Bool.false_and]; exact Ev.now _
      | false =>
        simp only [Bool.false_eq_true, if_false, Bool.not_false, Bool.true_and]
        have h0 := ih (i + 1) (by omega)
        have hw := sp_way l hn hn2 hr key i (costN l.length key i) (by omega) hi rfl _ (by rw [wrap_next (n := l.length) hi (by omega)]; exact h0) (costN l.length key i) (Nat.le_refl _)
        rw [Nat.sub_self] at hw
        cases hww : wayF l key 0 (costN l.length key i) with
        | true => rw [hww, if_pos rfl] at hw; rw [Bool.true_and]; exact hw
        | false => rw [hww, if_neg (by decide)] at hw; rw [Bool.false_and]; exact hw
theorem im_good_l0 : ∀ (d i : Nat), i + d = l.length → Ev (fun k => impl_isTable.l0 k l (l.length : Int) (i : Int) l) (okFrom l d i) := by
  intro d
  induction d with
  | zero =>
    intro i hd
    exact Ev.end_ fun k => by rw [impl_isTable.l0, if_neg (by omega)]; rfl
  | succ d ih =>
    intro i hd
    have hi : i < l.length := by omega
    have hv := hr i hi
    rw [okFrom, okCell]
    by_cases hf : l.getD i 0 < 0
    · rw [decide_eq_true hf, Bool.true_or, Bool.true_and]
      refine Ev.one (ih (i + 1) (by omega)) fun k => ?_
      rw [impl_isTable.l0, if_pos (by omega), if_pos (by omega), if_pos (by omega), rd_nat, if_pos hf, wrap_next (n := l.length) hi (by omega)]
    · rw [decide_eq_false hf, Bool.false_or]
      obtain ⟨key, hkey⟩ : ∃ key : Nat, l.getD i 0 = key := ⟨(l.getD i 0).toNat, by omega⟩
      have htc := tcost_eq (l := l) (key := key) (at_ := i) (by omega) (by omega) hi hkey
      rw [hkey, Int.toNat_natCast]
      refine Ev.step (f := fun k => (slices_Contains_int_int.f k (l.take i) (key : Int)).bind fun t195 => (if t195 = true then (some false) else (impl_isTable.l1 k (key : Int) l (l.length : Int) (i : Int) ((costN l.length key i : Nat) : Int) 0 l))) (fun k => by
        rw [impl_isTable.l0, if_pos (by omega), if_pos (by omega), if_pos (by omega), rd_nat, if_neg hf, if_pos (by omega), Int.toNat_natCast, hkey, htc]; rfl) ?_
      refine Ev.bind (containsI_ev _ _ (by simp; omega)) ?_
      cases hh : decide ((key : Int) ∈ l.take i) with
      | true => simp only [if_true, Bool.not_true, Bool.false_and]; exact Ev.now _
      | false =>
        simp only [Bool.false_eq_true, if_false, Bool.not_false, Bool.true_and]
        have h0 := ih (i + 1) (by omega)
        have hw := im_way l hn hn2 hr key i (costN l.length key i) (by omega) hi (costN_lt (by omega)) _ (by rw [wrap_next (n := l.length) hi (by omega)]; exact h0) (costN l.length key i) 0 (by omega)
        cases hww : wayF l key 0 (costN l.length key i) with
        | true => rw [hww, if_pos rfl] at hw; rw [Bool.true_and]; exact hw
        | false => rw [hww, if_neg (by decide)] at hw; rw [Bool.false_and]; exact hw
end
end Go.Proofs.YteakjjimkagmkaaGreatDoor.G
namespace Go.Proofs.YteakjjimkagmkaaGreatDoor.G
open Go.RowKit Go.Proofs.YteakjjimkagmkaaGreatDoorW.PrintWords Go.Proofs.YteakjjimkagmkaaGreatDoorW.PrintLast Go.Proofs.YteakjjimkagmkaaGreatDoorW.PrintMore
theorem allT_get {l : List Int} {lo hi : Int} (h : (l.all fun x => decide (lo ≤ x ∧ x ≤ hi)) = true) {j : Nat} (hj : j < l.length) : lo ≤ l.getD j 0 ∧ l.getD j 0 ≤ hi := by
  rw [List.all_eq_true] at h
  have := h l[j] (List.getElem_mem hj)
  rw [List.getD_eq_getElem?_getD, List.getElem?_eq_getElem hj]
  simpa using this
theorem areBetween_eq (l : List Int) (lo hi : Int) : impl_areBetween.f l lo hi = some (l.all fun x => decide (lo ≤ x ∧ x ≤ hi)) := by
  unfold impl_areBetween.f
  congr 2
  funext x
  rw [Bool.eq_iff_iff]; simp
theorem prGood_ev (l : List Int) (hn : l.length ≤ 4611686018427387904) : Ev (fun k => spec_prGood.f k l) (tblB l) := by
  unfold spec_prGood.f tblB
  simp only [l1In_eq, Option.bind_some]
  have stop : Ev (fun k => spec_prGood.j0 k (l.length : Int) true l) false := Ev.end_ fun k => by rw [spec_prGood.j0, if_pos rfl]
  by_cases h1 : 2 ≤ (l.length : Int) ∧ (l.length : Int) ≤ 12
  · rw [decide_eq_true h1]
    simp only [if_true, Bool.true_and]
    refine Ev.bind (l1All_ev l (-1) 999 hn) ?_
    cases h2 : (l.all fun x => decide (-1 ≤ x ∧ x ≤ 999)) with
    | false => simp only [Bool.false_eq_true, if_false, Bool.false_and]; exact stop
    | true =>
      simp only [if_true, Bool.true_and]
      refine Ev.bind (l1Has_ev l (-1) hn) ?_
      cases h3 : decide ((-1 : Int) ∈ l) with
      | false => simp only [Bool.not_false, Bool.false_and]; exact stop
      | true =>
        simp only [Bool.not_true, Bool.true_and]
        exact Ev.one (sp_good_l0 l (by omega) (by omega) (fun j hj => allT_get h2 hj) l.length 0 (by omega)) fun k => by rw [spec_prGood.j0, if_neg (by decide)]; rfl
  · rw [decide_eq_false h1]
    simp only [Bool.false_eq_true, if_false, Bool.false_and]
    exact stop
theorem isTable_ev (l : List Int) (hn : l.length ≤ 4611686018427387904) : Ev (fun k => impl_isTable.f k l) (tblB l) := by
  unfold impl_isTable.f tblB
  simp only [isSize_eq, areBetween_eq, Option.bind_some]
  have stop : Ev (fun k => impl_isTable.j0 k true l) false := Ev.end_ fun k => by rw [impl_isTable.j0, if_pos rfl]
  by_cases h1 : 2 ≤ (l.length : Int) ∧ (l.length : Int) ≤ 12
  · rw [decide_eq_true h1]
    simp only [if_true, Bool.true_and]
    cases h2 : (l.all fun x => decide (-1 ≤ x ∧ x ≤ 999)) with
    | false => simp only [Bool.false_eq_true, if_false, Bool.false_and]; exact stop
    | true =>
      simp only [if_true, Bool.true_and]
      refine Ev.bind (containsI_ev l (-1) hn) ?_
      cases h3 : decide ((-1 : Int) ∈ l) with
      | false => simp only [Bool.not_false, Bool.false_and]; exact stop
      | true =>
        simp only [Bool.not_true, Bool.true_and]
        exact Ev.one (im_good_l0 l (by omega) (by omega) (fun j hj => allT_get h2 hj) l.length 0 (by omega)) fun k => by rw [impl_isTable.j0, if_neg (by decide)]; rfl
  · rw [decide_eq_false h1]
    simp only [Bool.false_eq_true, if_false, Bool.false_and]
    exact stop
/-- The places below q at which p holds. -/
def idxsTo (p : Int → Bool) (l : List Int) : Nat → List Int
  | 0 => []
  | q + 1 => idxsTo p l q ++ (if p (l.getD q 0) = true then [(q : Int)] else [])
def posP (x : Int) : Bool := decide (0 ≤ x)
def impl_Table_used.f (l0_0 : List Int) : Option (List Int) := if l0_0.length ≤ 1000000 then some (idxsTo posP l0_0 l0_0.length) else none
theorem tblB_parts {l : List Int} (h : tblB l = true) : 2 ≤ l.length ∧ l.length ≤ 12 ∧ (∀ j, j < l.length → -1 ≤ l.getD j 0 ∧ l.getD j 0 ≤ 999) ∧ (-1 : Int) ∈ l := by
  unfold tblB at h
  simp only [Bool.and_eq_true, decide_eq_true_eq] at h
  exact ⟨by omega, by omega, fun j hj => allT_get h.1.1.2 hj, h.1.2⟩
theorem getD_mem {l : List Int} {i : Nat} (h : i < l.length) : l.getD i 0 ∈ l := by
  rw [List.getD_eq_getElem?_getD, List.getElem?_eq_getElem h]; exact List.getElem_mem h
theorem getD_get {l : List Int} {i : Nat} (h : i < l.length) : l.getD i 0 = l[i] := by
  rw [List.getD_eq_getElem?_getD, List.getElem?_eq_getElem h]; rfl
def putZ (n : Int) : List Int → List Int
  | [] => [n]
  | y :: r => if y < n then y :: putZ n r else if y = n then y :: r else n :: y :: r
theorem putZ_split (n : Int) : ∀ (i : Nat) (L : List Int), i ≤ L.length → (∀ j, j < i → L.getD j 0 < n) → putZ n L = L.take i ++ putZ n (L.drop i)
  | 0, L, _, _ => by simp
  | i + 1, [], h, _ => by simp at h
  | i + 1, y :: r, h, hl => by
    have h0 : y < n := hl 0 (by omega)
    rw [putZ, if_pos h0, List.take_succ_cons, List.drop_succ_cons, List.cons_append, ← putZ_split n i r (by simpa using h) (fun j hj => by have := hl (j + 1) (by omega); simpa using this)]
theorem putZ_mem (n x : Int) : ∀ L : List Int, x ∈ putZ n L ↔ x = n ∨ x ∈ L
  | [] => by simp [putZ]
  | y :: r => by
    rw [putZ]
    split
    · rw [List.mem_cons, putZ_mem n x r, List.mem_cons]
      constructor
      · rintro (h | h | h)
        · exact Or.inr (Or.inl h)
        · exact Or.inl h
        · exact Or.inr (Or.inr h)
      · rintro (h | h | h)
        · exact Or.inr (Or.inl h)
        · exact Or.inl h
        · exact Or.inr (Or.inr h)
    · split
      · rename_i h; subst h; simp
      · simp
theorem putZ_strict (n : Int) : ∀ L : List Int, L.Pairwise (· < ·) → (putZ n L).Pairwise (· < ·)
  | [], _ => by simp [putZ]
  | y :: r, h => by
    rw [List.pairwise_cons] at h
    rw [putZ]
    split
    · rename_i hy
      rw [List.pairwise_cons]
      refine ⟨fun x hx => ?_, putZ_strict n r h.2⟩
      rcases (putZ_mem n x r).mp hx with e | e
      · omega
      · exact h.1 x e
    · split
      · exact List.pairwise_cons.mpr h
      · rw [List.pairwise_cons]
        refine ⟨fun x hx => ?_, List.pairwise_cons.mpr h⟩
        rcases List.mem_cons.mp hx with e | e
        · omega
        · have := h.1 x e; omega
theorem putZ_len (n : Int) : ∀ L : List Int, (putZ n L).length ≤ L.length + 1
  | [] => by simp [putZ]
  | y :: r => by
    have := putZ_len n r
    rw [putZ]
    split
    · simp; omega
    · split <;> simp
theorem l1Put_l0 (L : List Int) (n : Int) (hl : L.length ≤ 1000000) : ∀ (d i : Nat), i + d = L.length → (∀ j, j < i → L.getD j 0 < n) → Ev (fun k => spec_l1Put.l0 k L n (i : Int)) (putZ n L) := by
  intro d
  induction d with
  | zero =>
    intro i hd hlt
    refine Ev.end_ fun k => ?_
    rw [spec_l1Put.l0, if_neg (by omega)]
    simp only [Option.bind_some, List.nil_append, List.length_nil, Int.toNat_natCast]
    rw [if_pos (by omega), if_pos (by omega), if_pos (by simp; omega), if_pos (by simp; omega), if_pos (by simp; omega), putZ_split n i L (by omega) hlt, List.drop_of_length_le (by omega), List.append_nil]
    rfl
  | succ d ih =>
    intro i hd hlt
    have hi : i < L.length := by omega
    by_cases h1 : L.getD i 0 < n
    · refine Ev.one (ih (i + 1) (by omega) (fun j hj => ?_)) fun k => ?_
      · by_cases e : j = i
        · rw [e]; exact h1
        · exact hlt j (by omega)
      · rw [spec_l1Put.l0, if_pos (by omega), if_pos (by omega), rd_nat, if_pos h1, wrap_next (n := L.length) hi (by omega)]
    · by_cases h2 : L.getD i 0 = n
      · refine Ev.end_ fun k => ?_
        rw [spec_l1Put.l0, if_pos (by omega), if_pos (by omega), rd_nat, if_neg h1, if_pos h2, putZ_split n i L (by omega) hlt, drop_getD hi, putZ, if_neg h1, if_pos h2, ← drop_getD hi, List.take_append_drop]
      · refine Ev.end_ fun k => ?_
        rw [spec_l1Put.l0, if_pos (by omega), if_pos (by omega), rd_nat, if_neg h1, if_neg h2]
        simp only [Option.bind_some, List.nil_append, List.length_nil, Int.toNat_natCast]
        rw [if_pos (by omega), if_pos (by simp; omega), if_pos (by simp; omega), if_pos (by simp; omega), putZ_split n i L (by omega) hlt, drop_getD hi, putZ, if_neg h1, if_neg h2, List.append_assoc]
        rfl
theorem l1Put_ev (L : List Int) (n : Int) (hl : L.length ≤ 1000000) : Ev (fun k => spec_l1Put.f k L n) (putZ n L) := by
  unfold spec_l1Put.f
  exact l1Put_l0 L n hl L.length 0 (by omega) (fun j hj => by omega)
theorem strict_ext : ∀ (a b : List Int), a.Pairwise (· < ·) → b.Pairwise (· < ·) → (∀ x, x ∈ a ↔ x ∈ b) → a = b
  | [], [], _, _, _ => rfl
  | [], y :: b, _, _, h => by have := (h y).mpr (List.mem_cons_self); cases this
  | x :: a, [], _, _, h => by have := (h x).mp (List.mem_cons_self); cases this
  | x :: a, y :: b, ha, hb, h => by
    rw [List.pairwise_cons] at ha hb
    have e : x = y := by
      rcases List.mem_cons.mp ((h x).mp (List.mem_cons_self)) with e | e
      · exact e
      · rcases List.mem_cons.mp ((h y).mpr (List.mem_cons_self)) with e2 | e2
        · exact e2.symm
        · have := hb.1 x e; have := ha.1 y e2; omega
    subst e
    congr 1
    refine strict_ext a b ha.2 hb.2 (fun z => ?_)
    constructor
    · intro hz
      rcases List.mem_cons.mp ((h z).mp (List.mem_cons_of_mem _ hz)) with e | e
      · have := ha.1 z hz; omega
      · exact e
    · intro hz
      rcases List.mem_cons.mp ((h z).mpr (List.mem_cons_of_mem _ hz)) with e | e
      · have := hb.1 z hz; omega
      · exact e
theorem sortZ_perm (l : List Int) : (sortZ l).Perm l := List.mergeSort_perm l _
theorem sortZ_le (l : List Int) : (sortZ l).Pairwise (· ≤ ·) := by
  have h := List.pairwise_mergeSort (le := fun x y : Int => decide (x ≤ y)) (fun a b c => by simp; omega) (fun a b => by simp; omega) l
  exact h.imp (fun h => by simpa using h)
theorem strict_of {l : List Int} (h : l.Pairwise (· ≤ ·)) (hn : l.Nodup) : l.Pairwise (· < ·) := by
  refine (h.and hn).imp ?_
  rintro a b ⟨h1, h2⟩
  omega
theorem filter_nodup {l : List Int} (h : ∀ i j, i < j → j < l.length → 0 ≤ l.getD i 0 → l.getD i 0 ≠ l.getD j 0) : (l.filter fun x => decide (0 ≤ x)).Nodup := by
  have h1 : l.Pairwise (fun a b => 0 ≤ a → a ≠ b) := by
    rw [List.pairwise_iff_getElem]
    intro i j hi hj hij h0
    have := h i j hij hj
    rw [getD_get hi, getD_get hj] at this
    exact this h0
  have h2 := h1.filter (fun x => decide (0 ≤ x))
  refine List.Pairwise.imp_of_mem ?_ h2
  intro a b ha hb hab
  rw [List.mem_filter] at ha
  exact hab (by simpa using ha.2)
theorem tbl_dist {l : List Int} (h : tblB l = true) : ∀ i j, i < j → j < l.length → 0 ≤ l.getD i 0 → l.getD i 0 ≠ l.getD j 0 := by
  have hok : okFrom l l.length 0 = true := by
    unfold tblB at h
    simp only [Bool.and_eq_true] at h
    exact h.2
  have hall : ∀ (d i : Nat), i + d = l.length → okFrom l d i = true → ∀ j, i ≤ j → j < l.length → okCell l j = true := by
    intro d
    induction d with
    | zero => intro i hd _ j h1 h2; omega
    | succ d ih =>
      intro i hd hk j h1 h2
      rw [okFrom, Bool.and_eq_true] at hk
      by_cases e : j = i
      · rw [e]; exact hk.1
      · exact ih (i + 1) (by omega) hk.2 j (by omega) h2
  intro i j hij hj h0 e
  have hc := hall l.length 0 (by omega) hok j (Nat.zero_le _) hj
  unfold okCell at hc
  rw [Bool.or_eq_true, Bool.and_eq_true] at hc
  rcases hc with hc | hc
  · rw [decide_eq_true_eq] at hc; omega
  · have h1 := hc.1
    rw [Bool.not_eq_true', decide_eq_false_iff_not] at h1
    apply h1
    rw [← e, getD_get (by omega : i < l.length)]
    exact List.mem_take_iff_getElem.mpr ⟨i, by omega, rfl⟩
theorem keysZ_eq (l : List Int) : keysZ l = (sortZ l).filter fun x => decide (0 ≤ x) := by
  unfold keysZ
  congr 1
  funext x
  unfold negKey
  rw [Bool.eq_iff_iff]
  simp
theorem keysZ_perm (l : List Int) : (keysZ l).Perm (l.filter fun x => decide (0 ≤ x)) := by
  rw [keysZ_eq]
  exact (sortZ_perm l).filter _
theorem keysZ_len (l : List Int) : (keysZ l).length ≤ l.length := by
  rw [(keysZ_perm l).length_eq]
  exact List.length_filter_le _ _
theorem keysZ_strict {l : List Int} (h : tblB l = true) : (keysZ l).Pairwise (· < ·) := by
  have hn := (keysZ_perm l).nodup_iff.mpr (filter_nodup (tbl_dist h))
  refine strict_of ?_ hn
  rw [keysZ_eq]
  exact (sortZ_le l).filter _
theorem keysZ_mem {l : List Int} {x : Int} : x ∈ keysZ l ↔ x ∈ l ∧ 0 ≤ x := by
  rw [(keysZ_perm l).mem_iff, List.mem_filter]
  simp
theorem keys_f {l : List Int} (h : tblB l = true) : impl_Table_keys.f l = some (keysZ l) := by
  obtain ⟨h1, h2, h3, h4⟩ := tblB_parts h
  unfold impl_Table_keys.f
  rw [if_pos ⟨by omega, by omega⟩]
def manyTo (l : List Int) : Nat → Nat
  | 0 => 0
  | q + 1 => manyTo l q + (if l.getD q 0 = -1 then 0 else 1)
theorem manyTo_le (l : List Int) : ∀ q, manyTo l q ≤ q
  | 0 => by simp [manyTo]
  | q + 1 => by have := manyTo_le l q; rw [manyTo]; split <;> omega
theorem manyTo_eq (l : List Int) (hr : ∀ j, j < l.length → -1 ≤ l.getD j 0) : ∀ q, q ≤ l.length → manyTo l q = ((l.take q).filter fun x => decide (0 ≤ x)).length
  | 0, _ => by simp [manyTo]
  | q + 1, h => by
    have := hr q (by omega)
    rw [manyTo, manyTo_eq l hr q (by omega), take_succ_getD (by omega), List.filter_append, List.length_append]
    congr 1
    by_cases e : l.getD q 0 = -1
    · rw [if_pos e, e]; rfl
    · rw [if_neg e, List.filter_cons, if_pos (decide_eq_true (by omega))]; rfl
theorem prMany_ev (l : List Int) (hn : l.length ≤ 1000000) : Ev (fun k => spec_prMany.f k l) ((manyTo l l.length : Nat) : Int) := by
  unfold spec_prMany.f
  have := Ev.up0 l.length (fun q => ((manyTo l q : Nat) : Int)) (fun k s q => spec_prMany.l0 k s l (l.length : Int) q) ((manyTo l l.length : Nat) : Int) (fun q hq h => ?_) (Ev.end_ fun k => ?_)
  · simpa [manyTo] using this
  · have hm := manyTo_le l q
    refine Ev.one h fun k => ?_
    rw [spec_prMany.l0, if_pos (by omega), if_pos (by omega), if_pos (by omega), rd_nat, wrap_next (n := l.length) hq (by omega), manyTo]
    by_cases hf : l.getD q 0 = -1
    · rw [if_pos hf, if_pos hf]; rfl
    · rw [if_neg hf, if_neg hf, wrap_next (n := 2000000) (by omega) (by omega)]
  · rw [spec_prMany.l0, if_neg (by omega)]
theorem many_keysZ {l : List Int} (hr : ∀ j, j < l.length → -1 ≤ l.getD j 0) : manyTo l l.length = (keysZ l).length := by
  rw [manyTo_eq l hr l.length (Nat.le_refl _), List.take_length, (keysZ_perm l).length_eq]
def ndFrom (l : List Int) : Nat → Nat → Bool
  | 0, _ => true
  | d + 1, i => !decide (l.getD i 0 ∈ l.take i) && ndFrom l d (i + 1)
theorem ndFrom_iff (l : List Int) : ∀ (d i : Nat), i + d = l.length → (ndFrom l d i = true ↔ ∀ j, i ≤ j → j < l.length → l.getD j 0 ∉ l.take j)
  | 0, i, h => by simp [ndFrom]; omega
  | d + 1, i, h => by
    rw [ndFrom, Bool.and_eq_true, Bool.not_eq_true', decide_eq_false_iff_not, ndFrom_iff l d (i + 1) (by omega)]
    constructor
    · rintro ⟨h1, h2⟩ j hj hl
      by_cases e : j = i
      · rw [e]; exact h1
      · exact h2 j (by omega) hl
    · intro h2
      exact ⟨h2 i (Nat.le_refl _) (by omega), fun j hj hl => h2 j (by omega) hl⟩
theorem nd_nodup (l : List Int) : ndFrom l l.length 0 = decide l.Nodup := by
  rw [Bool.eq_iff_iff, ndFrom_iff l l.length 0 (by omega), decide_eq_true_iff]
  constructor
  · intro h
    unfold List.Nodup
    rw [List.pairwise_iff_getElem]
    intro i j hi hj hij e
    apply h j (Nat.zero_le _) hj
    rw [getD_get hj, ← e]
    exact List.mem_take_iff_getElem.mpr ⟨i, by omega, rfl⟩
  · intro h j _ hj hm
    obtain ⟨i, hi, e⟩ := List.mem_take_iff_getElem.mp hm
    unfold List.Nodup at h
    rw [List.pairwise_iff_getElem] at h
    rw [getD_get hj] at e
    exact h i j (by omega) hj (by omega) e
theorem compact_nodup (l : List Int) : decide ((Go.Lib.compact (sortZ l)).length = l.length) = decide l.Nodup := by
  rw [Bool.eq_iff_iff, decide_eq_true_iff, decide_eq_true_iff]
  have hs := sortZ_le l
  have hsl := sortZ_len l
  rw [← (sortZ_perm l).nodup_iff]
  obtain ⟨s, hse⟩ : ∃ s, s = sortZ l := ⟨_, rfl⟩
  rw [← hse] at hs hsl ⊢
  rw [← hsl]
  unfold Go.Lib.compact Go.Lib.compactUpTo
  rw [List.length_map]
  have e1 : ((List.range s.length).filter (Go.Lib.keeps s.toArray)).length = s.length ↔ ∀ j ∈ List.range s.length, Go.Lib.keeps s.toArray j = true := by
    have := List.length_filter_eq_length_iff (p := Go.Lib.keeps s.toArray) (l := List.range s.length)
    rw [List.length_range] at this
    exact this
  rw [e1]
  have gb : ∀ j, j < s.length → s.toArray[j]! = s.getD j 0 := fun j hj => by
    rw [getElem!_pos s.toArray j (by simpa using hj), getD_get hj]; simp
  rw [List.pairwise_iff_getElem] at hs
  constructor
  · intro h
    unfold List.Nodup
    rw [List.pairwise_iff_getElem]
    intro i j hi hj hij e
    have hk := h j (List.mem_range.mpr hj)
    unfold Go.Lib.keeps at hk
    rw [decide_eq_true_iff, gb j hj, gb (j - 1) (by omega), getD_get hj, getD_get (by omega : j - 1 < s.length)] at hk
    rcases hk with hk | hk
    · omega
    · by_cases e2 : i = j - 1
      · subst e2; exact hk e.symm
      · have a1 := hs i (j - 1) hi (by omega) (by omega)
        have a2 := hs (j - 1) j (by omega) hj (by omega)
        omega
  · intro h j hj
    have hj := List.mem_range.mp hj
    unfold Go.Lib.keeps
    rw [decide_eq_true_iff]
    by_cases e : j = 0
    · exact Or.inl e
    · refine Or.inr ?_
      rw [gb j hj, gb (j - 1) (by omega), getD_get hj, getD_get (by omega : j - 1 < s.length)]
      unfold List.Nodup at h
      rw [List.pairwise_iff_getElem] at h
      exact fun e2 => h (j - 1) j (by omega) hj (by omega) e2.symm
def keysB (l : List Int) (a : Int) : Bool := decide (2 ≤ a ∧ a ≤ 12) && decide ((l.length : Int) < a) && (l.all fun x => decide (0 ≤ x ∧ x ≤ 999)) && decide l.Nodup
theorem areKeysB_eq (l : List Int) (a : Int) : areKeysB l a = keysB l a := by
  unfold areKeysB keysB
  rw [compact_nodup]
  congr 3
  funext x
  rw [Bool.eq_iff_iff]; simp
theorem areKeys_f (l : List Int) (a : Int) (hn : l.length ≤ 1048576) : impl_areKeys.f l a = some (keysB l a) := by
  unfold impl_areKeys.f
  rw [if_pos hn, areKeysB_eq]
theorem keysB_parts {l : List Int} {a : Int} (h : keysB l a = true) : 2 ≤ a ∧ a ≤ 12 ∧ (l.length : Int) < a ∧ (∀ x ∈ l, 0 ≤ x ∧ x ≤ 999) ∧ l.Nodup := by
  unfold keysB at h
  simp only [Bool.and_eq_true, decide_eq_true_eq, List.all_eq_true] at h
  exact ⟨h.1.1.1.1, h.1.1.1.2, h.1.1.2, h.1.2, h.2⟩
theorem prKeys_ev (l : List Int) (a : Int) (hn : l.length ≤ 1048576) : Ev (fun k => spec_prKeys.f k a l) (keysB l a) := by
  unfold spec_prKeys.f keysB
  simp only [prSize_eq, Option.bind_some]
  have stop : Ev (fun k => spec_prKeys.j0 k l true) false := Ev.end_ fun k => by rw [spec_prKeys.j0, if_pos rfl]
  by_cases h1 : 2 ≤ a ∧ a ≤ 12
  · rw [decide_eq_true h1]
    simp only [if_true, Bool.true_and]
    by_cases h2 : (l.length : Int) ≥ a
    · rw [decide_eq_false (by omega : ¬ (l.length : Int) < a)]
      simp only [h2, if_true, Bool.false_and]
      exact stop
    · rw [decide_eq_true (by omega : (l.length : Int) < a)]
      simp only [h2, if_false, Bool.true_and]
      refine Ev.bind (l1All_ev l 0 999 (by omega)) ?_
      cases h3 : (l.all fun x => decide (0 ≤ x ∧ x ≤ 999)) with
      | false => simp only [Bool.not_false, Bool.false_and]; exact stop
      | true =>
        simp only [Bool.not_true, Bool.true_and]
        refine Ev.step (f := fun k => spec_prKeys.l0 k l l (l.length : Int) 0) (fun k => by rw [spec_prKeys.j0, if_neg (by decide)]) ?_
        rw [← nd_nodup]
        have loop : ∀ (d i : Nat), i + d = l.length → Ev (fun k => spec_prKeys.l0 k l l (l.length : Int) (i : Int)) (ndFrom l d i) := by
          intro d
          induction d with
          | zero => intro i hd; exact Ev.end_ fun k => by rw [spec_prKeys.l0, if_neg (by omega)]; rfl
          | succ d ih =>
            intro i hd
            have hi : i < l.length := by omega
            rw [ndFrom]
            refine Ev.step (f := fun k => (spec_l1Has.f k (l.take i) (l.getD i 0)).bind fun t368 => (if t368 = true then (some false) else (spec_prKeys.l0 k l l (l.length : Int) ((i + 1 : Nat) : Int)))) (fun k => by
              rw [spec_prKeys.l0, if_pos (by omega), if_pos (by omega), if_pos (by omega), if_pos (by omega), rd_nat, Int.toNat_natCast, wrap_next (n := l.length) hi (by omega)]) ?_
            refine Ev.bind (l1Has_ev _ _ (by simp; omega)) ?_
            cases hh : decide (l.getD i 0 ∈ l.take i) with
            | true => simp only [if_true, Bool.not_true, Bool.false_and]; exact Ev.now _
            | false => simp only [Bool.false_eq_true, if_false, Bool.not_false, Bool.true_and]; exact ih (i + 1) (by omega)
        exact loop l.length 0 (by omega)
  · rw [decide_eq_false h1]
    simp only [Bool.false_eq_true, if_false, Bool.false_and]
    exact stop
theorem same_loop (F : Nat → List Int → List Int → Int → Int → Option Bool) (hF : ∀ k x0 x1 x12 x13, F (k + 1) x0 x1 x12 x13 = if x13 < x12 then (if 0 ≤ x13 then (if x13 < (x0.length : Int) then (if x13 < (x1.length : Int) then (if (rd x0 x13) = (rd x1 x13) then (F k x0 x1 x12 (wrap64 (x13 + 1))) else (some false)) else (none)) else (none)) else (none)) else (some true))
    (a b : List Int) (hl : a.length = b.length) (hn : a.length ≤ 1000000) : ∀ (d i : Nat), i + d = a.length → Ev (fun k => F k a b (a.length : Int) (i : Int)) (decide (a.drop i = b.drop i)) := by
  intro d
  induction d with
  | zero =>
    intro i hd
    refine Ev.end_ fun k => ?_
    rw [hF, if_neg (by omega), List.drop_of_length_le (by omega), List.drop_of_length_le (by omega)]
    simp
  | succ d ih =>
    intro i hd
    rw [drop_getD (l := a) (i := i) (by omega), drop_getD (l := b) (i := i) (by omega)]
    by_cases h : a.getD i 0 = b.getD i 0
    · have := ih (i + 1) (by omega)
      rw [h]
      simp only [List.cons.injEq, true_and]
      refine Ev.one this fun k => ?_
      rw [hF, if_pos (by omega), if_pos (by omega), if_pos (by omega), if_pos (by omega), rd_nat, rd_nat, if_pos h, wrap_next (n := a.length) (by omega) (by omega)]
    · refine Ev.end_ fun k => ?_
      rw [hF, if_pos (by omega), if_pos (by omega), if_pos (by omega), if_pos (by omega), rd_nat, rd_nat, if_neg h, decide_eq_false (by simp only [List.cons.injEq]; exact fun e => h e.1)]
end Go.Proofs.YteakjjimkagmkaaGreatDoor.G
namespace TabT
/-- A place on a circle of n, from below 2 n. -/
def cy (n i : Nat) : Nat := if i < n then i else i - n
theorem cy_mod {n i : Nat} (h : i < 2 * n) : i % n = cy n i := by
  unfold cy
  split
  · exact Nat.mod_eq_of_lt ‹_›
  · rw [Nat.mod_eq_sub_mod (by omega), Nat.mod_eq_of_lt (by omega)]
theorem cy_lt {n i : Nat} (h : i < 2 * n) : cy n i < n := by unfold cy; split <;> omega
/-- Is the cell used? -/
def us (t : List Int) (i : Nat) : Bool := decide (0 ≤ t.getD i (-1))
theorem us_lt {t : List Int} {i : Nat} (h : us t i = true) : i < t.length := by
  rcases Nat.lt_or_ge i t.length with h1 | h1
  · exact h1
  · rw [us, List.getD_eq_getElem?_getD, List.getElem?_eq_none h1] at h; simp at h
theorem getD_set (t : List Int) (p i : Nat) (k d : Int) (hp : p < t.length) : (t.set p k).getD i d = if i = p then k else t.getD i d := by
  rw [List.getD_eq_getElem?_getD, List.getElem?_set, List.getD_eq_getElem?_getD]
  by_cases e : p = i
  · subst e; simp [hp]
  · simp [e, Ne.symm e]
theorem us_set (t : List Int) (p i : Nat) (k : Int) (hp : p < t.length) (hk : 0 ≤ k) : us (t.set p k) i = (decide (i = p) || us t i) := by
  unfold us
  rw [getD_set _ _ _ _ _ hp]
  by_cases e : i = p
  · simp [e, hk]
  · simp [e]
/-- The first free cell from a on: how far it is. -/
def ffFrom (t : List Int) (a : Nat) : Nat → Nat → Nat
  | 0, d => d
  | k + 1, d => if us t (cy t.length (a + d)) = true then ffFrom t a k (d + 1) else d
def ff (t : List Int) (a : Nat) : Nat := ffFrom t a t.length 0
theorem ffFrom_eq (t : List Int) (a : Nat) (e : Nat) (hf : us t (cy t.length (a + e)) = false) :
    ∀ (k d : Nat), d ≤ e → e < d + k → (∀ m, d ≤ m → m < e → us t (cy t.length (a + m)) = true) → ffFrom t a k d = e
  | 0, d, h1, h2, _ => by omega
  | k + 1, d, h1, h2, hu => by
    unfold ffFrom
    by_cases c : d = e
    · subst c; rw [hf]; simp
    · rw [if_pos (hu d (Nat.le_refl _) (by omega))]
      exact ffFrom_eq t a e hf k (d + 1) (by omega) (by omega) (fun m h3 h4 => hu m (by omega) h4)
theorem ff_eq {t : List Int} {a e : Nat} (he : e < t.length) (hf : us t (cy t.length (a + e)) = false) (hu : ∀ m, m < e → us t (cy t.length (a + m)) = true) : ff t a = e :=
  ffFrom_eq t a e hf _ 0 (Nat.zero_le _) (by omega) (fun m _ h => hu m h)
/-- A least number. -/
theorem least_nat {p : Nat → Prop} [DecidablePred p] : ∀ (N : Nat), p N → ∃ e, e ≤ N ∧ p e ∧ ∀ m, m < e → ¬ p m
  | 0, h => ⟨0, Nat.le_refl _, h, fun m hm => absurd hm (Nat.not_lt_zero _)⟩
  | N + 1, h => by
    by_cases hx : ∃ m, m ≤ N ∧ p m
    · obtain ⟨m, hm, hp⟩ := hx
      obtain ⟨e, he, hpe, hle⟩ := least_nat m hp
      exact ⟨e, by omega, hpe, hle⟩
    · exact ⟨N + 1, Nat.le_refl _, h, fun m hm hp => hx ⟨m, by omega, hp⟩⟩
/-- There is a free cell. -/
def Free (t : List Int) : Prop := ∃ i, i < t.length ∧ us t i = false
theorem ff_spec {t : List Int} (hF : Free t) {a : Nat} (ha : a < t.length) :
    ff t a < t.length ∧ us t (cy t.length (a + ff t a)) = false ∧ ∀ m, m < ff t a → us t (cy t.length (a + m)) = true := by
  obtain ⟨i, hi, hu⟩ := hF
  have hx : us t (cy t.length (a + cy t.length (i + t.length - a))) = false := by
    have : cy t.length (a + cy t.length (i + t.length - a)) = i := by unfold cy; split <;> split <;> omega
    rw [this]; exact hu
  obtain ⟨e, he, hpe, hle⟩ := least_nat (p := fun e => us t (cy t.length (a + e)) = false) _ hx
  have hlt : e < t.length := by have : cy t.length (i + t.length - a) < t.length := cy_lt (by omega); omega
  have := ff_eq hlt hpe (fun m hm => by simpa using hle m hm)
  rw [this]
  exact ⟨hlt, hpe, fun m hm => by simpa using hle m hm⟩
/-- A key's own cell. -/
def own (n : Nat) (k : Int) : Nat := (k % (n : Int)).toNat
theorem own_lt {n : Nat} (hn : 0 < n) (k : Int) : own n k < n := by
  unfold own
  have := Int.emod_lt_of_pos k (show (0 : Int) < n by omega)
  have := Int.emod_nonneg k (show (n : Int) ≠ 0 by omega)
  omega
/-- Where a key goes. -/
def pos (t : List Int) (k : Int) : Nat := cy t.length (own t.length k + ff t (own t.length k))
def ins (t : List Int) (k : Int) : List Int := t.set (pos t k) k
@[simp] theorem length_ins (t : List Int) (k : Int) : (ins t k).length = t.length := by simp [ins]
/-- What a key costs in a cell. -/
def cost (n i : Nat) (k : Int) : Nat := cy n (i + n - own n k)
theorem cost_lt {n i : Nat} (hi : i < n) (k : Int) : cost n i k < n := cy_lt (by have := own_lt (n := n) (by omega) k; omega)
theorem own_cost {n i : Nat} (hi : i < n) (k : Int) : cy n (own n k + cost n i k) = i := by
  have := own_lt (n := n) (by omega) k
  unfold cost cy; split <;> split <;> omega
theorem cost_own {n d : Nat} (hd : d < n) (k : Int) : cost n (cy n (own n k + d)) k = d := by
  have := own_lt (n := n) (by omega) k
  unfold cost cy; split <;> split <;> omega
theorem pos_lt {t : List Int} (hF : Free t) (k : Int) : pos t k < t.length := by
  have hn : 0 < t.length := by obtain ⟨i, hi, _⟩ := hF; omega
  have ho := own_lt hn k
  have := (ff_spec hF ho).1
  exact cy_lt (by omega)
theorem pos_free {t : List Int} (hF : Free t) (k : Int) : us t (pos t k) = false := by
  have hn : 0 < t.length := by obtain ⟨i, hi, _⟩ := hF; omega
  exact (ff_spec hF (own_lt hn k)).2.1
/-- The sum of all costs. -/
def costs (t : List Int) : List Nat := t.mapIdx fun i k => if 0 ≤ k then cost t.length i k else 0
/-- Alike in their used cells. -/
def Alike (t u : List Int) : Prop := t.length = u.length ∧ ∀ i, us t i = us u i
theorem Alike.refl (t : List Int) : Alike t t := ⟨rfl, fun _ => rfl⟩
theorem Alike.symm {t u : List Int} (h : Alike t u) : Alike u t := ⟨h.1.symm, fun i => (h.2 i).symm⟩
theorem Alike.trans {t u v : List Int} (h : Alike t u) (k : Alike u v) : Alike t v := ⟨h.1.trans k.1, fun i => (h.2 i).trans (k.2 i)⟩
theorem Alike.free {t u : List Int} (h : Alike t u) (hF : Free t) : Free u := by
  obtain ⟨i, hi, hu⟩ := hF
  exact ⟨i, by have := h.1; omega, by rw [← h.2]; exact hu⟩
/-- How many cells are used. -/
def many (t : List Int) : Nat := (t.filter fun k => decide (0 ≤ k)).length
theorem many_le (t : List Int) : many t ≤ t.length := List.length_filter_le _ _
theorem free_of_many : ∀ (t : List Int), many t < t.length → Free t
  | [], h => by simp [many] at h
  | k :: t, h => by
    by_cases hk : 0 ≤ k
    · have : many t < t.length := by simp only [many, List.filter_cons, hk, decide_true, if_true, List.length_cons] at h ⊢; omega
      obtain ⟨i, hi, hu⟩ := free_of_many t this
      exact ⟨i + 1, by simp; omega, by simpa [us] using hu⟩
    · exact ⟨0, by simp, by simp [us]; omega⟩
theorem many_of_free : ∀ {t : List Int}, Free t → many t < t.length
  | [], h => by obtain ⟨i, hi, _⟩ := h; simp at hi
  | k :: t, ⟨i, hi, hu⟩ => by
    have hle := many_le t
    cases i with
    | zero => have : ¬ 0 ≤ k := by simpa [us] using hu
              simp only [many, List.filter_cons, this, decide_false, Bool.false_eq_true, if_false, List.length_cons] at hle ⊢; omega
    | succ i =>
      have := many_of_free (t := t) ⟨i, by simpa using hi, by simpa [us] using hu⟩
      simp only [many, List.filter_cons, List.length_cons] at this ⊢
      split
      · simp only [List.length_cons]; omega
      · omega
theorem many_set : ∀ (t : List Int) (p : Nat) (k : Int), us t p = false → p < t.length → 0 ≤ k → many (t.set p k) = many t + 1
  | [], p, k, _, h, _ => by simp at h
  | x :: t, 0, k, hu, _, hk => by have : ¬ 0 ≤ x := by simpa [us] using hu
                                  simp [many, this, hk]
  | x :: t, p + 1, k, hu, hp, hk => by
    have := many_set t p k (by simpa [us] using hu) (by simpa using hp) hk
    simp only [many, List.set_cons_succ, List.filter_cons] at this ⊢
    split
    · simp only [List.length_cons]; omega
    · omega
theorem many_ins {t : List Int} (hF : Free t) {k : Int} (hk : 0 ≤ k) : many (ins t k) = many t + 1 := many_set _ _ _ (pos_free hF k) (pos_lt hF k) hk
theorem many_alike {t u : List Int} (h : Alike t u) : many t = many u := by
  have key : ∀ (t u : List Int), t.length = u.length → (∀ i, us t i = us u i) → many t = many u := by
    intro t
    induction t with
    | nil => intro u hl _; cases u with
      | nil => rfl
      | cons => simp at hl
    | cons x t ih =>
      intro u hl hu
      cases u with
      | nil => simp at hl
      | cons y u =>
        have h0 := hu 0
        have := ih u (by simpa using hl) (fun i => by simpa [us] using hu (i + 1))
        have h0 : decide (0 ≤ x) = decide (0 ≤ y) := by simpa [us] using h0
        simp only [many, List.filter_cons, h0] at this ⊢
        split <;> simp [this]
  exact key t u h.1 h.2
/-- All keys, in order. -/
def insAll (t : List Int) (ks : List Int) : List Int := ks.foldl ins t
@[simp] theorem length_insAll (ks : List Int) : ∀ (t : List Int), (insAll t ks).length = t.length := by
  induction ks with
  | nil => intro t; rfl
  | cons k ks ih => intro t; simp only [insAll, List.foldl_cons] at ih ⊢; rw [ih]; simp
structure Valid (t : List Int) : Prop where
  free : Free t
  ge : ∀ i, i < t.length → -1 ≤ t.getD i (-1)
  nodup : ∀ i j, us t i = true → us t j = true → t.getD i (-1) = t.getD j (-1) → i = j
  path : ∀ i, us t i = true → ∀ m, m < cost t.length i (t.getD i (-1)) → us t (cy t.length (own t.length (t.getD i (-1)) + m)) = true
/-- A part of a table. -/
def Part (p t : List Int) : Prop := p.length = t.length ∧ ∀ i, us p i = true → us t i = true ∧ p.getD i (-1) = t.getD i (-1)
/-- The key of a cell may come next. -/
def Ready (t p : List Int) (i : Nat) : Prop := us t i = true ∧ us p i = false ∧ ∀ m, m < cost t.length i (t.getD i (-1)) → us p (cy t.length (own t.length (t.getD i (-1)) + m)) = true
theorem exists_ready {t p : List Int} (hV : Valid t) (hne : ∃ i, us t i = true ∧ us p i = false) : ∃ i, Ready t p i := by
  obtain ⟨g, hg, hgu⟩ := hV.free
  obtain ⟨i0, h1, h2⟩ := hne
  have hi0 := us_lt h1
  have hx : 1 ≤ cy t.length (i0 + t.length - g) ∧ us t (cy t.length (g + cy t.length (i0 + t.length - g))) = true ∧ us p (cy t.length (g + cy t.length (i0 + t.length - g))) = false := by
    have e : cy t.length (g + cy t.length (i0 + t.length - g)) = i0 := by unfold cy; split <;> split <;> omega
    rw [e]
    refine ⟨?_, h1, h2⟩
    have : i0 ≠ g := fun e => by rw [e, hgu] at h1; cases h1
    unfold cy; split <;> omega
  obtain ⟨e, he, ⟨he1, hp1, hp2⟩, hle⟩ := least_nat (p := fun e => 1 ≤ e ∧ us t (cy t.length (g + e)) = true ∧ us p (cy t.length (g + e)) = false) _ hx
  have hen : e < t.length := by have : cy t.length (i0 + t.length - g) < t.length := cy_lt (by omega); omega
  refine ⟨_, hp1, hp2, fun m hm => ?_⟩
  have hi := us_lt hp1
  generalize hk : t.getD (cy t.length (g + e)) (-1) = k at hm ⊢
  have hpath := hV.path _ hp1
  rw [hk] at hpath
  have ho := own_lt (n := t.length) (by omega) k
  have hc := cost_lt hi k
  have hoc := own_cost hi k
  generalize hcc : cost t.length (cy t.length (g + e)) k = c at *
  generalize own t.length k = o at *
  have hce : c < e := by
    rcases Nat.lt_or_ge c e with h | h
    · exact h
    · have := hpath (c - e) (by omega)
      have e1 : cy t.length (o + (c - e)) = g := by revert hoc; unfold cy; split <;> split <;> split <;> omega
      rw [e1, hgu] at this; cases this
  have hu := hpath m hm
  have e2 : cy t.length (o + m) = cy t.length (g + (e - c + m)) := by revert hoc; unfold cy; split <;> split <;> split <;> split <;> omega
  rw [e2] at hu ⊢
  cases hq : us p (cy t.length (g + (e - c + m))) with
  | true => rfl
  | false => exact absurd ⟨by omega, hu, hq⟩ (hle (e - c + m) (by omega))
theorem Part.free {p t : List Int} (hP : Part p t) (hF : Free t) : Free p := by
  obtain ⟨i, hi, hu⟩ := hF
  refine ⟨i, by rw [hP.1]; exact hi, ?_⟩
  cases h : us p i with
  | false => rfl
  | true => rw [(hP.2 i h).1] at hu; cases hu
/-- The key that may come next comes to its cell. -/
theorem ready_pos {t p : List Int} (hP : Part p t) {i : Nat} (hR : Ready t p i) : pos p (t.getD i (-1)) = i := by
  have hi := us_lt hR.1
  have : ff p (own t.length (t.getD i (-1))) = cost t.length i (t.getD i (-1)) := by
    apply ff_eq
    · rw [hP.1]; exact cost_lt hi _
    · rw [hP.1, own_cost hi]; exact hR.2.1
    · intro m hm; rw [hP.1]; exact hR.2.2 m hm
  unfold pos
  rw [hP.1, this, own_cost hi]
theorem Part.set {p t : List Int} (hP : Part p t) {i : Nat} (hu : us t i = true) : Part (p.set i (t.getD i (-1))) t := by
  have hi := us_lt hu
  refine ⟨by simpa using hP.1, fun j hj => ?_⟩
  rw [us_set _ _ _ _ (by rw [hP.1]; exact hi) (by simpa [us] using hu)] at hj
  rw [getD_set _ _ _ _ _ (by rw [hP.1]; exact hi)]
  by_cases e : j = i
  · subst e; simp [hu]
  · simp [e] at hj ⊢; exact hP.2 j hj
/-- A part in which all cells are used that are used in the whole. -/
theorem Part.full {p t : List Int} (hP : Part p t) (hg : ∀ i, i < t.length → -1 ≤ t.getD i (-1)) (hp : ∀ i, i < p.length → -1 ≤ p.getD i (-1)) (h : ∀ i, us t i = true → us p i = true) : p = t := by
  apply List.ext_getElem hP.1
  intro i h1 h2
  have e1 : p.getD i (-1) = p[i] := by rw [List.getD_eq_getElem?_getD, List.getElem?_eq_getElem h1]; rfl
  have e2 : t.getD i (-1) = t[i] := by rw [List.getD_eq_getElem?_getD, List.getElem?_eq_getElem h2]; rfl
  cases hu : us t i with
  | true => rw [← e1, ← e2]; exact (hP.2 i (h i hu)).2
  | false =>
    have hq : us p i = false := by
      cases hq : us p i with
      | false => rfl
      | true => rw [(hP.2 i hq).1] at hu; cases hu
    have a := hg i h2
    have b := hp i h1
    simp only [us, decide_eq_false_iff_not] at hu hq
    omega
/-- All but the paths through the hole are as in a table. -/
structure Holed (t : List Int) (h : Nat) : Prop where
  hole : h < t.length ∧ t.getD h (-1) = -1
  other : ∃ g, g < t.length ∧ g ≠ h ∧ us t g = false
  ge : ∀ i, i < t.length → -1 ≤ t.getD i (-1)
  nodup : ∀ i j, us t i = true → us t j = true → t.getD i (-1) = t.getD j (-1) → i = j
  path : ∀ i, us t i = true → ∀ m, m < cost t.length i (t.getD i (-1)) → cy t.length (own t.length (t.getD i (-1)) + m) ≠ h → us t (cy t.length (own t.length (t.getD i (-1)) + m)) = true
theorem Holed.valid {t : List Int} {h k : Nat} (hH : Holed t h) (hk : k < t.length) (h1 : 1 ≤ k) (hfree : us t (cy t.length (h + k)) = false)
    (hu : ∀ m, 1 ≤ m → m < k → us t (cy t.length (h + m)) = true ∧ cost t.length (cy t.length (h + m)) (t.getD (cy t.length (h + m)) (-1)) < m) : Valid t := by
  have hn : 0 < t.length := by omega
  have hh := hH.hole.1
  refine ⟨⟨h, hh, by rw [us, hH.hole.2]; rfl⟩, hH.ge, hH.nodup, fun i hi m hm => ?_⟩
  by_cases e : cy t.length (own t.length (t.getD i (-1)) + m) = h
  · -- the cell i lies behind the hole, before the free cell
    exfalso
    have hil := us_lt hi
    have ho := own_lt hn (t.getD i (-1))
    have hc := cost_lt hil (t.getD i (-1))
    have hoc := own_cost hil (t.getD i (-1))
    have hpath := hH.path i hi
    generalize hcc : cost t.length i (t.getD i (-1)) = c at *
    generalize own t.length (t.getD i (-1)) = o at *
    -- i = h + (c - m)
    have ei : i = cy t.length (h + (c - m)) := by revert e hoc; unfold cy; split <;> split <;> split <;> omega
    rcases Nat.lt_or_ge (c - m) k with hlt | hge
    · have := (hu (c - m) (by omega) hlt).2
      rw [← ei, hcc] at this
      omega
    · have hne : cy t.length (o + (m + k)) = cy t.length (h + k) := by revert e; unfold cy; split <;> split <;> split <;> omega
      rcases Nat.lt_or_ge (m + k) c with hmk | hmk
      · have := hpath (m + k) hmk (by rw [hne]; unfold cy; split <;> omega)
        rw [hne, hfree] at this; cases this
      · have : c - m = k := by omega
        rw [this] at ei
        rw [ei, hfree] at hi; cases hi
  · exact hH.path i hi m hm e
def keys (t : List Int) : List Int := t.filter fun k => decide (0 ≤ k)
theorem keys_set : ∀ (t : List Int) (p : Nat) (k : Int), p < t.length → us t p = false → 0 ≤ k → (keys (t.set p k)).Perm (k :: keys t)
  | [], p, k, h, _, _ => by simp at h
  | x :: t, 0, k, _, hu, hk => by
    have : ¬ 0 ≤ x := by simpa [us] using hu
    simp [keys, this, hk]
  | x :: t, p + 1, k, h, hu, hk => by
    have ih := keys_set t p k (by simpa using h) (by simpa [us] using hu) hk
    simp only [keys, List.set_cons_succ, List.filter_cons] at ih ⊢
    split
    · exact (ih.cons x).trans (List.Perm.swap _ _ _)
    · exact ih
theorem mem_keys {t : List Int} {k : Int} : k ∈ keys t ↔ ∃ i, us t i = true ∧ t.getD i (-1) = k := by
  unfold keys
  rw [List.mem_filter, List.mem_iff_getElem]
  constructor
  · rintro ⟨⟨i, hi, rfl⟩, hk⟩
    have e : t.getD i (-1) = t[i] := by rw [List.getD_eq_getElem?_getD, List.getElem?_eq_getElem hi]; rfl
    exact ⟨i, by rw [us, e]; exact hk, e⟩
  · rintro ⟨i, hu, rfl⟩
    have hi := us_lt hu
    have e : t.getD i (-1) = t[i] := by rw [List.getD_eq_getElem?_getD, List.getElem?_eq_getElem hi]; rfl
    exact ⟨⟨i, hi, e.symm⟩, by rw [us] at hu; exact hu⟩
def empty (n : Nat) : List Int := List.replicate n (-1)
theorem us_empty (n i : Nat) : us (empty n) i = false := by
  unfold us empty
  rw [List.getD_eq_getElem?_getD, List.getElem?_replicate]
  split <;> simp
theorem keys_empty (n : Nat) : keys (empty n) = [] := by
  unfold keys empty
  rw [List.filter_eq_nil_iff]
  intro x hx
  rw [List.mem_replicate] at hx
  simp [hx.2]
theorem many_keys (t : List Int) : many t = (keys t).length := rfl
theorem Part.keys_le {p t : List Int} (hP : Part p t) : many p ≤ many t := by
  have key : ∀ (p t : List Int), p.length = t.length → (∀ i, us p i = true → us t i = true) → many p ≤ many t := by
    intro p
    induction p with
    | nil => intro t _ _; simp [many]
    | cons x p ih =>
      intro t hl hu
      cases t with
      | nil => simp at hl
      | cons y t =>
        have h0 := hu 0
        have := ih t (by simpa using hl) (fun i hi => by simpa [us] using hu (i + 1) (by simpa [us] using hi))
        simp [us] at h0
        simp only [many, List.filter_cons] at this ⊢
        by_cases hx : 0 ≤ x
        · have hy := h0 hx
          simp only [hx, hy, decide_true, if_true, List.length_cons]; omega
        · simp only [hx, decide_false, Bool.false_eq_true, if_false]
          split
          · simp only [List.length_cons]; omega
          · omega
  exact key p t hP.1 (fun i hi => (hP.2 i hi).1)
/-- From a part, the keys that are left in an order that makes the table. -/
theorem complete {t : List Int} (hV : Valid t) : ∀ (d : Nat) (p : List Int), Part p t → (∀ i, i < p.length → -1 ≤ p.getD i (-1)) → many t ≤ many p + d → ∃ ks, insAll p ks = t ∧ (keys p ++ ks).Perm (keys t) ∧ many p + ks.length = many t := by
  intro d
  induction d with
  | zero =>
    intro p hP hg hm
    refine ⟨[], ?_, ?_⟩
    · show p = t
      apply Classical.byContradiction
      intro hne
      have : ∃ i, us t i = true ∧ us p i = false := by
        apply Classical.byContradiction
        intro hn
        exact hne (hP.full hV.ge hg fun i hi => by
          cases h : us p i with
          | true => rfl
          | false => exact absurd ⟨i, hi, h⟩ hn)
      obtain ⟨i, hi, hpi⟩ := this
      have := Part.keys_le (hP.set hi)
      rw [many_set p i _ hpi (by rw [hP.1]; exact us_lt hi) (by simpa [us] using hi)] at this
      omega
    · have hle := hP.keys_le
      have : p = t := by
        apply Classical.byContradiction
        intro hne
        have : ∃ i, us t i = true ∧ us p i = false := by
          apply Classical.byContradiction
          intro hn
          exact hne (hP.full hV.ge hg fun i hi => by
            cases h : us p i with
            | true => rfl
            | false => exact absurd ⟨i, hi, h⟩ hn)
        obtain ⟨i, hi, hpi⟩ := this
        have := Part.keys_le (hP.set hi)
        rw [many_set p i _ hpi (by rw [hP.1]; exact us_lt hi) (by simpa [us] using hi)] at this
        omega
      rw [this]; simp
  | succ d ih =>
    intro p hP hg hm
    by_cases hx : ∃ i, us t i = true ∧ us p i = false
    · obtain ⟨i, hR⟩ := exists_ready hV hx
      have hk : 0 ≤ t.getD i (-1) := by have := hR.1; rw [us] at this; exact of_decide_eq_true this
      have hip : i < p.length := by rw [hP.1]; exact us_lt hR.1
      have e : ins p (t.getD i (-1)) = p.set i (t.getD i (-1)) := by rw [ins, ready_pos hP hR]
      obtain ⟨ks, h1, h2, h3⟩ := ih (ins p (t.getD i (-1))) (by rw [e]; exact hP.set hR.1) (by
        intro j hj
        rw [e, getD_set _ _ _ _ _ hip]
        split
        · omega
        · exact hg j (by simpa using hj)) (by rw [e, many_set p i _ hR.2.1 hip hk]; omega)
      rw [e, many_set p i _ hR.2.1 hip hk] at h3
      refine ⟨t.getD i (-1) :: ks, h1, ?_, by simp; omega⟩
      have hp := keys_set p i _ hip hR.2.1 hk
      rw [← e] at hp
      refine List.Perm.trans ?_ h2
      refine List.Perm.trans ?_ (hp.symm.append_right ks)
      rw [List.cons_append]
      exact List.perm_middle
    · have : p = t := hP.full hV.ge hg fun i hi => by
          cases h : us p i with
          | true => rfl
          | false => exact absurd ⟨i, hi, h⟩ hx
      exact ⟨[], by rw [this]; rfl, by rw [this]; simp, by rw [this]; rfl⟩
theorem Part.empty (t : List Int) : Part (empty t.length) t := ⟨by simp [TabT.empty], fun i hi => by rw [us_empty] at hi; cases hi⟩
theorem ge_empty (n : Nat) : ∀ i, i < (empty n).length → -1 ≤ (empty n).getD i (-1) := by
  intro i _
  unfold empty
  rw [List.getD_eq_getElem?_getD, List.getElem?_replicate]
  split <;> simp
theorem Valid.order {t : List Int} (hV : Valid t) : ∃ ks, insAll (empty t.length) ks = t ∧ ks.Perm (keys t) := by
  obtain ⟨ks, h1, h2, _⟩ := complete hV (many t) (empty t.length) (Part.empty t) (ge_empty _) (by omega)
  rw [keys_empty] at h2
  exact ⟨ks, h1, h2⟩
/-- A key in a cell comes ahead of another one in the next cell. -/
def Bef (n i : Nat) (x y : Int) : Prop := cost n (cy n (i + 1)) y < cost n i x + 1 ∨ cost n (cy n (i + 1)) y = cost n i x + 1 ∧ y < x
structure Robin (t : List Int) : Prop where
  valid : Valid t
  sorted : ∀ i, us t i = true → us t (cy t.length (i + 1)) = true → Bef t.length i (t.getD i (-1)) (t.getD (cy t.length (i + 1)) (-1))
def Over (n i : Nat) (h o : Int) : Prop := cost n i o < cost n i h ∨ cost n i h = cost n i o ∧ o < h
instance (n i : Nat) (h o : Int) : Decidable (Over n i h o) := by unfold Over; infer_instance
def robGo : Nat → List Int → Int → Nat → List Int
  | 0, t, h, a => t.set a h
  | d + 1, t, h, a => if Over t.length a h (t.getD a (-1)) then robGo d (t.set a h) (t.getD a (-1)) (cy t.length (a + 1)) else robGo d t h (cy t.length (a + 1))
def rob (t : List Int) (k : Int) : List Int := robGo (ff t (own t.length k)) t k (own t.length k)
/-- What holds at a cell, with a key in hand. -/
structure Hand (t : List Int) (h : Int) (a : Nat) : Prop where
  robin : Robin t
  two : 2 ≤ t.length
  at_ : a < t.length
  pos : 0 ≤ h
  new : ∀ i, us t i = true → t.getD i (-1) ≠ h
  path : ∀ m, m < cost t.length a h → us t (cy t.length (own t.length h + m)) = true
  ahead : us t (cy t.length (a + t.length - 1)) = true → Bef t.length (cy t.length (a + t.length - 1)) (t.getD (cy t.length (a + t.length - 1)) (-1)) h
theorem cost_next {n a : Nat} (ha : a < n) (h2 : 2 ≤ n) (h : Int) (hc : cost n a h + 1 < n) : cost n (cy n (a + 1)) h = cost n a h + 1 := by
  have ho := own_lt (n := n) (by omega) h
  revert hc
  unfold cost cy
  generalize own n h = o at *
  split <;> split <;> split <;> omega
theorem prev_next {n a : Nat} (ha : a < n) (h2 : 2 ≤ n) : cy n (cy n (a + 1) + n - 1) = a := by unfold cy; split <;> split <;> omega
theorem next_prev {n a : Nat} (ha : a < n) (h2 : 2 ≤ n) : cy n (cy n (a + n - 1) + 1) = a := by unfold cy; split <;> split <;> omega
theorem next_ne {n a : Nat} (ha : a < n) (h2 : 2 ≤ n) : cy n (a + 1) ≠ a := by unfold cy; split <;> omega
/-- A key whose path is used up to a used cell costs less than n - 1 there. -/
theorem cost_small {t : List Int} (hF : Free t) {a : Nat} {h : Int} (ha : us t a = true) (hp : ∀ m, m < cost t.length a h → us t (cy t.length (own t.length h + m)) = true) : cost t.length a h + 1 < t.length := by
  have hal := us_lt ha
  have hc := cost_lt hal h
  have hoc := own_cost hal h
  have ho := own_lt (n := t.length) (by omega) h
  apply Classical.byContradiction
  intro hn
  obtain ⟨g, hg, hgu⟩ := hF
  have hcn : cost t.length a h = t.length - 1 := by omega
  generalize cost t.length a h = c at *
  generalize own t.length h = o at *
  -- the free cell is some o + m
  have e : cy t.length (o + cy t.length (g + t.length - o)) = g := by unfold cy; split <;> split <;> omega
  have hm : cy t.length (g + t.length - o) < t.length := cy_lt (by omega)
  rcases Nat.lt_or_ge (cy t.length (g + t.length - o)) c with h1 | h1
  · have := hp _ h1
    rw [e, hgu] at this; cases this
  · have : cy t.length (g + t.length - o) = c := by omega
    rw [this, hoc] at e
    rw [← e, ha] at hgu; cases hgu
theorem Hand.pass {t : List Int} {h : Int} {a : Nat} (H : Hand t h a) (hu : us t a = true) (hn : ¬ Over t.length a h (t.getD a (-1))) : Hand t h (cy t.length (a + 1)) := by
  have hs := cost_small H.robin.valid.free hu H.path
  have hcn := cost_next H.at_ H.two h hs
  refine ⟨H.robin, H.two, cy_lt (by have := H.at_; omega), H.pos, H.new, ?_, ?_⟩
  · intro m hm
    rw [hcn] at hm
    rcases Nat.lt_or_ge m (cost t.length a h) with h1 | h1
    · exact H.path m h1
    · have : m = cost t.length a h := by omega
      rw [this, own_cost H.at_]; exact hu
  · rw [prev_next H.at_ H.two]
    intro _
    unfold Bef
    rw [hcn]
    unfold Over at hn
    have := H.new a hu
    omega
theorem us_same {t : List Int} {a : Nat} {h : Int} (ha : us t a = true) (hh : 0 ≤ h) (i : Nat) : us (t.set a h) i = us t i := by
  rw [us_set _ _ _ _ (us_lt ha) hh]
  by_cases e : i = a
  · subst e; simp [ha]
  · simp [e]
theorem Hand.swap {t : List Int} {h : Int} {a : Nat} (H : Hand t h a) (hu : us t a = true) (ho : Over t.length a h (t.getD a (-1))) : Hand (t.set a h) (t.getD a (-1)) (cy t.length (a + 1)) := by
  have hal := H.at_
  have h2 := H.two
  have hV := H.robin.valid
  have us' : ∀ i, us (t.set a h) i = us t i := us_same hu H.pos
  have gd : ∀ i, (t.set a h).getD i (-1) = if i = a then h else t.getD i (-1) := fun i => getD_set _ _ _ _ _ hal
  have hl : (t.set a h).length = t.length := by simp
  obtain ⟨o, hoe⟩ : ∃ o, o = t.getD a (-1) := ⟨_, rfl⟩
  have hpo := hV.path a hu
  rw [← hoe] at ho hpo ⊢
  have ho0 : 0 ≤ o := by rw [us] at hu; rw [hoe]; exact of_decide_eq_true hu
  have hsm := cost_small hV.free hu hpo
  have hcn := cost_next hal h2 o hsm
  have hnew := H.new
  refine ⟨⟨⟨?_, ?_, ?_, ?_⟩, ?_⟩, by rw [hl]; exact h2, by rw [hl]; exact cy_lt (by omega), ho0, ?_, ?_, ?_⟩
  · obtain ⟨g, hg, hgu⟩ := hV.free
    exact ⟨g, by rw [hl]; exact hg, by rw [us']; exact hgu⟩
  · intro i hi
    rw [gd]
    split
    · have := H.pos; omega
    · exact hV.ge i (by rw [hl] at hi; exact hi)
  · intro i j hi hj
    rw [us'] at hi hj
    rw [gd, gd]
    split
    · split
      · intro _; omega
      · intro e; exact absurd e.symm (hnew j hj)
    · split
      · intro e; exact absurd e (hnew i hi)
      · exact hV.nodup i j hi hj
  · intro i hi m hm
    rw [us'] at hi
    rw [gd, hl] at hm ⊢
    rw [us']
    split
    · rename_i e; subst e; rw [if_pos rfl] at hm; exact H.path m hm
    · rename_i e; rw [if_neg e] at hm; exact hV.path i hi m hm
  · intro i hi hi1
    rw [us', hl] at hi1
    rw [us'] at hi
    rw [gd, gd, hl]
    have hil := us_lt hi
    by_cases e1 : i = a
    · subst e1
      rw [if_pos rfl, if_neg (next_ne hal h2)]
      have := H.robin.sorted i hi hi1
      rw [← hoe] at this
      unfold Bef at this ⊢
      unfold Over at ho
      omega
    · rw [if_neg e1]
      by_cases e2 : cy t.length (i + 1) = a
      · rw [if_pos e2]
        have ep : cy t.length (a + t.length - 1) = i := by rw [← e2]; exact prev_next hil h2
        have := H.ahead
        rw [ep] at this
        exact this hi
      · rw [if_neg e2]
        exact H.robin.sorted i hi hi1
  · intro i hi
    rw [us'] at hi
    rw [gd]
    split
    · intro e
      exact hnew a hu (by rw [← hoe, e])
    · rename_i e
      intro e'
      exact e (hV.nodup i a hi hu (by rw [e', hoe]))
  · intro m hm
    rw [hl] at hm ⊢
    rw [us']
    rw [hcn] at hm
    rcases Nat.lt_or_ge m (cost t.length a o) with h1 | h1
    · exact hpo m h1
    · have : m = cost t.length a o := by omega
      rw [this, own_cost hal]; exact hu
  · rw [hl, prev_next hal h2]
    intro _
    rw [gd, if_pos rfl]
    unfold Bef
    rw [hcn]
    unfold Over at ho
    omega
theorem Hand.put {t : List Int} {h : Int} {a : Nat} (H : Hand t h a) (hu : us t a = false) (hm : many t + 1 < t.length) : Robin (t.set a h) := by
  have hal := H.at_
  have h2 := H.two
  have hV := H.robin.valid
  have us' : ∀ i, us (t.set a h) i = (decide (i = a) || us t i) := fun i => us_set _ _ _ _ hal H.pos
  have gd : ∀ i, (t.set a h).getD i (-1) = if i = a then h else t.getD i (-1) := fun i => getD_set _ _ _ _ _ hal
  have hl : (t.set a h).length = t.length := by simp
  have ua : ∀ i, us t i = true → i ≠ a := fun i hi e => by rw [e, hu] at hi; cases hi
  refine ⟨⟨?_, ?_, ?_, ?_⟩, ?_⟩
  · exact free_of_many _ (by rw [many_set t a h hu hal H.pos, hl]; exact hm)
  · intro i hi
    rw [gd]
    split
    · have := H.pos; omega
    · exact hV.ge i (by rw [hl] at hi; exact hi)
  · intro i j hi hj
    rw [us'] at hi hj
    rw [gd, gd]
    by_cases e1 : i = a
    · by_cases e2 : j = a
      · intro _; omega
      · rw [if_pos e1, if_neg e2]
        simp [e2] at hj
        intro e; exact absurd e.symm (H.new j hj)
    · simp [e1] at hi
      by_cases e2 : j = a
      · rw [if_neg e1, if_pos e2]
        intro e; exact absurd e (H.new i hi)
      · simp [e2] at hj
        rw [if_neg e1, if_neg e2]
        exact hV.nodup i j hi hj
  · intro i hi m hm'
    rw [us'] at hi
    rw [gd, hl] at hm' ⊢
    rw [us']
    by_cases e1 : i = a
    · rw [if_pos e1] at hm' ⊢
      subst e1
      rw [H.path m hm']; simp
    · simp [e1] at hi
      rw [if_neg e1] at hm' ⊢
      rw [hV.path i hi m hm']; simp
  · intro i hi hi1
    rw [hl] at hi1 ⊢
    rw [us'] at hi hi1
    rw [gd, gd]
    by_cases e1 : i = a
    · subst e1
      have hne := next_ne hal h2
      rw [if_pos rfl, if_neg hne]
      simp [hne] at hi1
      -- the key behind has its own cell there
      have hil := us_lt hi1
      have hp := hV.path _ hi1
      have hc0 : cost t.length (cy t.length (i + 1)) (t.getD (cy t.length (i + 1)) (-1)) = 0 := by
        have hoc := own_cost hil (t.getD (cy t.length (i + 1)) (-1))
        have hlt := cost_lt hil (t.getD (cy t.length (i + 1)) (-1))
        have ho := own_lt (n := t.length) (by omega) (t.getD (cy t.length (i + 1)) (-1))
        generalize cost t.length (cy t.length (i + 1)) (t.getD (cy t.length (i + 1)) (-1)) = c at *
        generalize own t.length (t.getD (cy t.length (i + 1)) (-1)) = o at *
        rcases Nat.eq_zero_or_pos c with h0 | h0
        · exact h0
        · have := hp (c - 1) (by omega)
          have e : cy t.length (o + (c - 1)) = i := by revert hoc; unfold cy; split <;> split <;> split <;> omega
          rw [e, hu] at this; cases this
      unfold Bef
      rw [hc0]
      omega
    · simp [e1] at hi
      rw [if_neg e1]
      by_cases e2 : cy t.length (i + 1) = a
      · rw [if_pos e2]
        have ep : cy t.length (a + t.length - 1) = i := by rw [← e2]; exact prev_next (us_lt hi) h2
        have := H.ahead
        rw [ep] at this
        exact this hi
      · simp [e2] at hi1
        rw [if_neg e2]
        exact H.robin.sorted i hi hi1
theorem keys_swap : ∀ (t : List Int) (p : Nat) (k : Int), us t p = true → 0 ≤ k → (t.getD p (-1) :: keys (t.set p k)).Perm (k :: keys t)
  | [], p, k, h, _ => by have := us_lt h; simp at this
  | x :: t, 0, k, hu, hk => by
    have : 0 ≤ x := by rw [us] at hu; exact of_decide_eq_true hu
    simp only [keys, List.set_cons_zero, List.filter_cons, this, hk, decide_true, if_true, List.getD_cons_zero]
    exact List.Perm.swap _ _ _
  | x :: t, p + 1, k, hu, hk => by
    have ih := keys_swap t p k (by simpa [us] using hu) hk
    simp only [keys, List.set_cons_succ, List.filter_cons, List.getD_cons_succ] at ih ⊢
    split
    · exact (List.Perm.swap _ _ _).trans ((ih.cons x).trans (List.Perm.swap _ _ _))
    · exact ih
theorem hand_go : ∀ (d : Nat) (t : List Int) (h : Int) (a : Nat), Hand t h a → many t + 1 < t.length → d < t.length → (∀ m, m < d → us t (cy t.length (a + m)) = true) → us t (cy t.length (a + d)) = false →
    Robin (robGo d t h a) ∧ (keys (robGo d t h a)).Perm (h :: keys t) ∧ (robGo d t h a).length = t.length
  | 0, t, h, a, H, hm, hd, _, hf => by
    have e : cy t.length (a + 0) = a := by have := H.at_; unfold cy; split <;> omega
    rw [e] at hf
    exact ⟨H.put hf hm, keys_set t a h H.at_ hf H.pos, by simp [robGo]⟩
  | d + 1, t, h, a, H, hm, hd, hu, hf => by
    have hua : us t a = true := by
      have := hu 0 (by omega)
      have e : cy t.length (a + 0) = a := by have := H.at_; unfold cy; split <;> omega
      rwa [e] at this
    have sh : ∀ m, m + 1 ≤ d + 1 → cy t.length (cy t.length (a + 1) + m) = cy t.length (a + (m + 1)) := by
      intro m hmd
      have := H.at_
      unfold cy; split <;> split <;> split <;> omega
    unfold robGo
    by_cases ho : Over t.length a h (t.getD a (-1))
    · rw [if_pos ho]
      have H' := H.swap hua ho
      have us' : ∀ i, us (t.set a h) i = us t i := us_same hua H.pos
      have al : Alike (t.set a h) t := ⟨by simp, us'⟩
      have := hand_go d (t.set a h) (t.getD a (-1)) (cy t.length (a + 1)) H' (by rw [many_alike al, List.length_set]; exact hm) (by rw [List.length_set]; omega)
        (fun m hmd => by rw [List.length_set, us', sh m (by omega)]; exact hu (m + 1) (by omega)) (by rw [List.length_set, us', sh d (by omega)]; exact hf)
      exact ⟨this.1, this.2.1.trans (keys_swap t a h hua H.pos), by rw [this.2.2]; simp⟩
    · rw [if_neg ho]
      have := hand_go d t h (cy t.length (a + 1)) (H.pass hua ho) hm (by omega) (fun m hmd => by rw [sh m (by omega)]; exact hu (m + 1) (by omega)) (by rw [sh d (by omega)]; exact hf)
      exact this
theorem Robin.hand {t : List Int} (hR : Robin t) (h2 : 2 ≤ t.length) {k : Int} (hk : 0 ≤ k) (hn : k ∉ keys t) : Hand t k (own t.length k) := by
  have ho := own_lt (n := t.length) (by omega) k
  have hc : cost t.length (own t.length k) k = 0 := by unfold cost cy; split <;> omega
  refine ⟨hR, h2, ho, hk, ?_, ?_, ?_⟩
  · intro i hi e
    exact hn (mem_keys.2 ⟨i, hi, e⟩)
  · intro m hm; rw [hc] at hm; omega
  · intro _
    unfold Bef
    rw [next_prev ho h2, hc]
    omega
theorem rob_spec {t : List Int} (hR : Robin t) (h2 : 2 ≤ t.length) {k : Int} (hk : 0 ≤ k) (hn : k ∉ keys t) (hm : many t + 1 < t.length) : Robin (rob t k) ∧ (keys (rob t k)).Perm (k :: keys t) ∧ (rob t k).length = t.length := by
  have hF := hR.valid.free
  have s := ff_spec hF (own_lt (n := t.length) (by omega) k)
  exact hand_go _ t k _ (hR.hand h2 hk hn) hm s.1 s.2.2 s.2.1
theorem Valid.empty {n : Nat} (h : 0 < n) : Valid (empty n) :=
  ⟨⟨0, by simp [TabT.empty, h], us_empty n 0⟩, ge_empty n, fun i j hi => (by rw [us_empty] at hi; cases hi), fun i hi => (by rw [us_empty] at hi; cases hi)⟩
theorem Robin.empty {n : Nat} (h : 0 < n) : Robin (empty n) := ⟨Valid.empty h, fun i hi => (by rw [us_empty] at hi; cases hi)⟩
/-- How far behind the cell g a key's own cell lies. -/
def off (n g : Nat) (k : Int) : Nat := cy n (own n k + n - g)
theorem off_spec {t : List Int} (hV : Valid t) {g : Nat} (hg : g < t.length) (hgu : us t g = false) {e : Nat} (he : e < t.length) (hu : us t (cy t.length (g + e)) = true) :
    1 ≤ off t.length g (t.getD (cy t.length (g + e)) (-1)) ∧ off t.length g (t.getD (cy t.length (g + e)) (-1)) + cost t.length (cy t.length (g + e)) (t.getD (cy t.length (g + e)) (-1)) = e ∧
      ∀ m, off t.length g (t.getD (cy t.length (g + e)) (-1)) ≤ m → m ≤ e → us t (cy t.length (g + m)) = true := by
  have hil := us_lt hu
  have hp := hV.path _ hu
  have ho := own_lt (n := t.length) (by omega) (t.getD (cy t.length (g + e)) (-1))
  have hoc := own_cost hil (t.getD (cy t.length (g + e)) (-1))
  have hcl := cost_lt hil (t.getD (cy t.length (g + e)) (-1))
  unfold off
  generalize cost t.length (cy t.length (g + e)) (t.getD (cy t.length (g + e)) (-1)) = c at *
  generalize own t.length (t.getD (cy t.length (g + e)) (-1)) = o at *
  have he1 : e ≠ 0 := by
    intro h0
    have : cy t.length (g + e) = g := by rw [h0]; unfold cy; split <;> omega
    rw [this, hgu] at hu; cases hu
  have hce : c < e := by
    rcases Nat.lt_or_ge c e with h | h
    · exact h
    · have := hp (c - e) (by omega)
      have e1 : cy t.length (o + (c - e)) = g := by revert hoc; unfold cy; split <;> split <;> split <;> omega
      rw [e1, hgu] at this; cases this
  have hof : cy t.length (o + t.length - g) = e - c := by revert hoc; unfold cy; split <;> split <;> split <;> omega
  rw [hof]
  refine ⟨by omega, by omega, fun m h1 h2 => ?_⟩
  rcases Nat.lt_or_ge m e with h3 | h3
  · have := hp (m - (e - c)) (by omega)
    have e2 : cy t.length (o + (m - (e - c))) = cy t.length (g + m) := by revert hoc; unfold cy; split <;> split <;> split <;> split <;> omega
    rwa [e2] at this
  · have : m = e := by omega
    rw [this]; exact hu
/-- Along used cells, keys come in one order. -/
def Lt (n g : Nat) (x y : Int) : Prop := off n g x < off n g y ∨ off n g x = off n g y ∧ y < x
theorem Lt.trans {n g : Nat} {x y z : Int} (h : Lt n g x y) (k : Lt n g y z) : Lt n g x z := by unfold Lt at *; omega
theorem Robin.next {t : List Int} (hR : Robin t) {g : Nat} (hg : g < t.length) (hgu : us t g = false) {e : Nat} (he : e + 1 < t.length) (h1 : us t (cy t.length (g + e)) = true) (h2 : us t (cy t.length (g + (e + 1))) = true) :
    Lt t.length g (t.getD (cy t.length (g + e)) (-1)) (t.getD (cy t.length (g + (e + 1))) (-1)) := by
  have s1 := off_spec hR.valid hg hgu (by omega) h1
  have s2 := off_spec hR.valid hg hgu he h2
  have en : cy t.length (cy t.length (g + e) + 1) = cy t.length (g + (e + 1)) := by unfold cy; split <;> split <;> split <;> omega
  have := hR.sorted _ h1
  rw [en] at this
  have := this h2
  unfold Bef at this
  rw [en] at this
  unfold Lt
  omega
end TabT
namespace Go.Proofs.YteakjjimkagmkaaGreatDoor.G
open Go.RowKit Go.Proofs.YteakjjimkagmkaaGreatDoorW.PrintWords Go.Proofs.YteakjjimkagmkaaGreatDoorW.PrintLast Go.Proofs.YteakjjimkagmkaaGreatDoorW.PrintMore
set_option linter.unusedSectionVars false
theorem t_g0 {t : List Int} {i : Nat} (h : i < t.length) : t.getD i (-1) = t.getD i 0 := by
  rw [List.getD_eq_getElem?_getD, List.getD_eq_getElem?_getD, List.getElem?_eq_getElem h]; rfl
theorem cy_self {n a : Nat} (h : a < n) : TabT.cy n (a + 0) = a := by unfold TabT.cy; split <;> omega
theorem cy_shift {n a d m : Nat} (ha : a < n) (hd : d + 1 < n) (hm : m ≤ d) : TabT.cy n (TabT.cy n (a + 1) + m) = TabT.cy n (a + (m + 1)) := by
  unfold TabT.cy; split <;> split <;> split <;> omega
theorem step_arith {n a : Nat} (ha : a < n) (hn : n ≤ 1000) : Int.tmod (wrap64 ((a : Int) + 1)) (n : Int) = ((TabT.cy n (a + 1) : Nat) : Int) := by
  rw [wrap_next (n := n) ha (by omega), ← TabT.cy_mod (by omega)]
  rfl
theorem own_arith (key n : Nat) : Int.tmod (key : Int) (n : Int) = ((TabT.own n (key : Int) : Nat) : Int) := by
  unfold TabT.own
  show ((key % n : Nat) : Int) = (((key : Int) % (n : Int)).toNat : Int)
  rw [show ((key : Int) % (n : Int)) = ((key % n : Nat) : Int) from rfl, Int.toNat_natCast]
theorem us_val {t : List Int} {i : Nat} (h : TabT.us t i = true) : 0 ≤ t.getD i 0 := by
  have hi := TabT.us_lt h
  rw [TabT.us, decide_eq_true_eq, t_g0 hi] at h
  exact h
theorem us_free {t : List Int} {i : Nat} (hi : i < t.length) (h : TabT.us t i = false) : t.getD i 0 < 0 := by
  rw [TabT.us, decide_eq_false_iff_not, t_g0 hi] at h
  omega
/-- What the cells of a table may hold. -/
def Cells (t : List Int) : Prop := ∀ i, i < t.length → -1 ≤ t.getD i 0 ∧ t.getD i 0 ≤ 999
theorem Cells.set {t : List Int} (h : Cells t) {p : Nat} {k : Int} (hp : p < t.length) (h0 : 0 ≤ k) (h9 : k ≤ 999) : Cells (t.set p k) := by
  intro i hi
  rw [List.length_set] at hi
  rw [TabT.getD_set _ _ _ _ _ hp]
  split
  · omega
  · exact h i hi
theorem Cells.empty (n : Nat) : Cells (TabT.empty n) := by
  intro i hi
  have hi2 : i < n := by simpa [TabT.empty] using hi
  unfold TabT.empty
  rw [List.getD_eq_getElem?_getD, List.getElem?_replicate, if_pos hi2]
  simp
theorem Cells.ins {t : List Int} (h : Cells t) (hF : TabT.Free t) {k : Int} (h0 : 0 ≤ k) (h9 : k ≤ 999) : Cells (TabT.ins t k) := h.set (TabT.pos_lt hF k) h0 h9
theorem ins_len (t : List Int) (k : Int) : (TabT.ins t k).length = t.length := by simp [TabT.ins]
end Go.Proofs.YteakjjimkagmkaaGreatDoor.G
namespace Go.Proofs.YteakjjimkagmkaaGreatDoor.G
open Go.RowKit Go.Proofs.YteakjjimkagmkaaGreatDoorW.PrintWords Go.Proofs.YteakjjimkagmkaaGreatDoorW.PrintLast Go.Proofs.YteakjjimkagmkaaGreatDoorW.PrintMore
set_option linter.unusedSectionVars false
section
variable (t : List Int) (key : Nat) (hn : 1 ≤ t.length) (hn2 : t.length ≤ 1000) (hc : Cells t) (hk : key ≤ 999)
include hn hn2 hc hk
theorem sp_ins : ∀ (d a : Nat), a < t.length → d < t.length → (∀ m, m < d → TabT.us t (TabT.cy t.length (a + m)) = true) → TabT.us t (TabT.cy t.length (a + d)) = false →
    Ev (fun k => spec_prInsert.l0 k t (key : Int) (a : Int)) (((TabT.cy t.length (a + d) : Nat) : Int), t.set (TabT.cy t.length (a + d)) (key : Int)) := by
  intro d
  induction d with
  | zero =>
    intro a ha hd _ hf
    rw [cy_self ha] at hf ⊢
    have h1 := us_free ha hf
    have h2 := hc a ha
    refine Ev.end_ fun k => ?_
    rw [spec_prInsert.l0, if_pos (by omega), if_pos (by omega), rd_nat, if_pos (by omega), Int.toNat_natCast]
  | succ d ih =>
    intro a ha hd hu hf
    have h0 := hu 0 (by omega)
    rw [cy_self ha] at h0
    have h1 := us_val h0
    have hlt := TabT.cy_lt (n := t.length) (i := a + 1) (by omega)
    have := ih (TabT.cy t.length (a + 1)) hlt (by omega) (fun m hm => by rw [cy_shift ha hd (by omega)]; exact hu (m + 1) (by omega)) (by rw [cy_shift ha hd (Nat.le_refl _)]; exact hf)
    rw [cy_shift ha hd (Nat.le_refl _)] at this
    refine Ev.one this fun k => ?_
    rw [spec_prInsert.l0, if_pos (by omega), if_pos (by omega), rd_nat, if_neg (by omega), if_neg (by omega), step_arith ha hn2]
theorem im_ins : ∀ (d a : Nat), a < t.length → d < t.length → (∀ m, m < d → TabT.us t (TabT.cy t.length (a + m)) = true) → TabT.us t (TabT.cy t.length (a + d)) = false →
    Ev (fun k => impl_Table_insert.l0 k (key : Int) (a : Int) t) (((TabT.cy t.length (a + d) : Nat) : Int), t.set (TabT.cy t.length (a + d)) (key : Int)) := by
  intro d
  induction d with
  | zero =>
    intro a ha hd _ hf
    rw [cy_self ha] at hf ⊢
    have h1 := us_free ha hf
    have h2 := hc a ha
    refine Ev.end_ fun k => ?_
    rw [impl_Table_insert.l0, if_pos (by omega), if_pos (by omega), rd_nat, if_neg (by omega), Int.toNat_natCast]
  | succ d ih =>
    intro a ha hd hu hf
    have h0 := hu 0 (by omega)
    rw [cy_self ha] at h0
    have h1 := us_val h0
    have hlt := TabT.cy_lt (n := t.length) (i := a + 1) (by omega)
    have := ih (TabT.cy t.length (a + 1)) hlt (by omega) (fun m hm => by rw [cy_shift ha hd (by omega)]; exact hu (m + 1) (by omega)) (by rw [cy_shift ha hd (Nat.le_refl _)]; exact hf)
    rw [cy_shift ha hd (Nat.le_refl _)] at this
    refine Ev.one this fun k => ?_
    rw [impl_Table_insert.l0, if_pos (by omega), if_pos (by omega), rd_nat, if_pos (by omega), if_neg (by omega), step_arith ha hn2]
theorem prInsert_nat (hF : TabT.Free t) : Ev (fun k => spec_prInsert.f k t (key : Int)) (((TabT.pos t (key : Int) : Nat) : Int), TabT.ins t (key : Int)) := by
  unfold spec_prInsert.f
  have ho := TabT.own_lt (n := t.length) (by omega) (key : Int)
  have s := TabT.ff_spec hF ho
  have := sp_ins t key hn hn2 hc hk _ _ ho s.1 s.2.2 s.2.1
  have e : ((t.length : Int) = 0) = False := eq_false (by omega)
  simp only [e, if_false, own_arith]
  exact this
theorem tInsert_nat (hF : TabT.Free t) : Ev (fun k => impl_Table_insert.f k t (key : Int)) (((TabT.pos t (key : Int) : Nat) : Int), TabT.ins t (key : Int)) := by
  unfold impl_Table_insert.f
  have ho := TabT.own_lt (n := t.length) (by omega) (key : Int)
  have s := TabT.ff_spec hF ho
  have := im_ins t key hn hn2 hc hk _ _ ho s.1 s.2.2 s.2.1
  have e : ((t.length : Int) = 0) = False := eq_false (by omega)
  simp only [e, if_false, own_arith]
  exact this
end
end Go.Proofs.YteakjjimkagmkaaGreatDoor.G
namespace Go.Proofs.YteakjjimkagmkaaGreatDoor.G
open Go.RowKit Go.Proofs.YteakjjimkagmkaaGreatDoorW.PrintWords Go.Proofs.YteakjjimkagmkaaGreatDoorW.PrintLast Go.Proofs.YteakjjimkagmkaaGreatDoorW.PrintMore
set_option linter.unusedSectionVars false
theorem prInsert_ev (t : List Int) (key : Int) (hn : 1 ≤ t.length) (hn2 : t.length ≤ 1000) (hc : Cells t) (hF : TabT.Free t) (h0 : 0 ≤ key) (h9 : key ≤ 999) : Ev (fun k => spec_prInsert.f k t key) (((TabT.pos t key : Nat) : Int), TabT.ins t key) := by
  obtain ⟨m, rfl⟩ : ∃ m : Nat, key = m := ⟨key.toNat, by omega⟩
  exact prInsert_nat t m hn hn2 hc (by omega) hF
theorem tInsert_ev (t : List Int) (key : Int) (hn : 1 ≤ t.length) (hn2 : t.length ≤ 1000) (hc : Cells t) (hF : TabT.Free t) (h0 : 0 ≤ key) (h9 : key ≤ 999) : Ev (fun k => impl_Table_insert.f k t key) (((TabT.pos t key : Nat) : Int), TabT.ins t key) := by
  obtain ⟨m, rfl⟩ : ∃ m : Nat, key = m := ⟨key.toNat, by omega⟩
  exact tInsert_nat t m hn hn2 hc (by omega) hF
theorem t_prEmpty_ev (n : Nat) (hn : n ≤ 1000) : Ev (fun k => spec_prEmpty.f k (n : Int)) (TabT.empty n) := by
  unfold spec_prEmpty.f TabT.empty
  refine Ev.up0 n (fun q => List.replicate q (-1 : Int)) (fun k s q => spec_prEmpty.l0 k (n : Int) q s) (List.replicate n (-1)) (fun q hq h => Ev.one h fun k => ?_) (Ev.end_ fun k => ?_)
  · rw [spec_prEmpty.l0, if_pos (by omega), if_pos (by simp; omega), wrap_next (n := n) hq (by omega), List.replicate_succ']
  · rw [spec_prEmpty.l0, if_neg (by omega)]
theorem t_empty_eq (n : Nat) (hn : n ≤ 1000) : impl_empty.f (n : Int) = some (TabT.empty n) := by
  unfold impl_empty.f slices_Repeat_int_int.f TabT.empty
  rw [if_pos ⟨rfl, by omega, by omega⟩]
  rfl
theorem many_empty (n : Nat) : TabT.many (TabT.empty n) = 0 := by
  rw [TabT.many_keys, TabT.keys_empty]; rfl
theorem insAll_snoc (t : List Int) (ks : List Int) (k : Int) : TabT.insAll t (ks ++ [k]) = TabT.ins (TabT.insAll t ks) k := by
  simp [TabT.insAll, List.foldl_append]
/-- What holds when q of the keys are in. -/
structure Filled (n : Nat) (t : List Int) (q : Nat) : Prop where
  len_ : t.length = n
  cells : Cells t
  many_ : TabT.many t = q
theorem Filled.free {n q : Nat} {t : List Int} (h : Filled n t q) (hq : q < n) : TabT.Free t := TabT.free_of_many t (by rw [h.many_, h.len_]; exact hq)
theorem filled {n : Nat} (ks : List Int) (hl : ks.length < n) (hk : ∀ x ∈ ks, 0 ≤ x ∧ x ≤ 999) : ∀ q, q ≤ ks.length → Filled n (TabT.insAll (TabT.empty n) (ks.take q)) q := by
  intro q
  induction q with
  | zero => intro _; exact ⟨by simp [TabT.insAll, TabT.empty], Cells.empty n, many_empty n⟩
  | succ q ih =>
    intro hq
    have F := ih (by omega)
    have hfr := F.free (by omega)
    have hm := hk (ks.getD q 0) (by rw [List.getD_eq_getElem?_getD, List.getElem?_eq_getElem (by omega : q < ks.length)]; exact List.getElem_mem _)
    rw [take_succ_getD (by omega), insAll_snoc]
    exact ⟨by rw [ins_len, F.len_], F.cells.ins hfr hm.1 hm.2, by rw [TabT.many_ins hfr hm.1, F.many_]⟩
end Go.Proofs.YteakjjimkagmkaaGreatDoor.G
namespace Go.Proofs.YteakjjimkagmkaaGreatDoor.G
open Go.RowKit Go.Proofs.YteakjjimkagmkaaGreatDoorW.PrintWords Go.Proofs.YteakjjimkagmkaaGreatDoorW.PrintLast Go.Proofs.YteakjjimkagmkaaGreatDoorW.PrintMore
set_option linter.unusedSectionVars false
section
variable (n : Nat) (ks : List Int) (h2 : 2 ≤ n) (h12 : n ≤ 12) (hl : ks.length < n) (hk : ∀ x ∈ ks, 0 ≤ x ∧ x ≤ 999)
include h2 h12 hl hk
theorem prOf_ev : Ev (fun k => spec_prOf.f k (n : Int) ks) (TabT.insAll (TabT.empty n) ks) := by
  unfold spec_prOf.f
  refine Ev.bind (t_prEmpty_ev n (by omega)) ?_
  have := Ev.up0 ks.length (fun q => TabT.insAll (TabT.empty n) (ks.take q)) (fun k s q => spec_prOf.l0 k ks (ks.length : Int) q s) (TabT.insAll (TabT.empty n) ks) (fun q hq h => ?_) (Ev.end_ fun k => ?_)
  · simpa [TabT.insAll] using this
  · have F := filled ks hl hk q (by omega)
    have hm := hk (ks.getD q 0) (by rw [List.getD_eq_getElem?_getD, List.getElem?_eq_getElem hq]; exact List.getElem_mem hq)
    rw [take_succ_getD hq, insAll_snoc] at h
    refine Ev.step (f := fun k => (spec_prInsert.f k (TabT.insAll (TabT.empty n) (ks.take q)) (ks.getD q 0)).bind fun bt => (spec_prOf.l0 k ks (ks.length : Int) ((q + 1 : Nat) : Int) bt.2)) (fun k => by
      rw [spec_prOf.l0, if_pos (by omega), if_pos (by omega), if_pos (by omega), rd_nat, wrap_next (n := ks.length) hq (by omega)]) ?_
    exact Ev.bind (prInsert_ev _ _ (by rw [F.len_]; omega) (by rw [F.len_]; omega) F.cells (F.free (by omega)) hm.1 hm.2) h
  · rw [spec_prOf.l0, if_neg (by omega), List.take_length]
theorem tableOf_ev : Ev (fun k => impl_TableOf.l0 k ks (ks.length : Int) 0 (TabT.empty n)) (TabT.insAll (TabT.empty n) ks, true) := by
  have := Ev.up0 ks.length (fun q => TabT.insAll (TabT.empty n) (ks.take q)) (fun k s q => impl_TableOf.l0 k ks (ks.length : Int) q s) (TabT.insAll (TabT.empty n) ks, true) (fun q hq h => ?_) (Ev.end_ fun k => ?_)
  · simpa [TabT.insAll] using this
  · have F := filled ks hl hk q (by omega)
    have hm := hk (ks.getD q 0) (by rw [List.getD_eq_getElem?_getD, List.getElem?_eq_getElem hq]; exact List.getElem_mem hq)
    rw [take_succ_getD hq, insAll_snoc] at h
    refine Ev.step (f := fun k => (impl_Table_insert.f k (TabT.insAll (TabT.empty n) (ks.take q)) (ks.getD q 0)).bind fun bt => (impl_TableOf.l0 k ks (ks.length : Int) ((q + 1 : Nat) : Int) bt.2)) (fun k => by
      rw [impl_TableOf.l0, if_pos (by omega), if_pos (by omega), if_pos (by omega), rd_nat, wrap_next (n := ks.length) hq (by omega)]) ?_
    exact Ev.bind (tInsert_ev _ _ (by rw [F.len_]; omega) (by rw [F.len_]; omega) F.cells (F.free (by omega)) hm.1 hm.2) h
  · rw [impl_TableOf.l0, if_neg (by omega), List.take_length]
end
end Go.Proofs.YteakjjimkagmkaaGreatDoor.G
namespace Go.Proofs.YteakjjimkagmkaaGreatDoor.G
open Go.RowKit Go.Proofs.YteakjjimkagmkaaGreatDoorW.PrintWords Go.Proofs.YteakjjimkagmkaaGreatDoorW.PrintLast Go.Proofs.YteakjjimkagmkaaGreatDoorW.PrintMore
set_option linter.unusedSectionVars false
theorem costN_cost {n key a : Nat} (ha : a < n) : costN n key a = TabT.cost n a (key : Int) := by
  have hm := Nat.mod_lt key (show 0 < n by omega)
  have ho : TabT.own n (key : Int) = key % n := by
    unfold TabT.own
    rw [show ((key : Int) % (n : Int)) = ((key % n : Nat) : Int) from rfl, Int.toNat_natCast]
  unfold costN TabT.cost
  rw [ho, TabT.cy_mod (by omega)]
theorem robGo_cells : ∀ (d : Nat) (t : List Int) (h : Int) (a : Nat), Cells t → a < t.length → 0 ≤ h → h ≤ 999 → d < t.length → (∀ m, m < d → TabT.us t (TabT.cy t.length (a + m)) = true) → Cells (TabT.robGo d t h a)
  | 0, t, h, a, hc, ha, h0, h9, _, _ => hc.set ha h0 h9
  | d + 1, t, h, a, hc, ha, h0, h9, hd, hu => by
    have hua := hu 0 (by omega)
    rw [cy_self ha] at hua
    have ho := us_val hua
    have ho9 := hc a ha
    have hlt := TabT.cy_lt (n := t.length) (i := a + 1) (by omega)
    rw [TabT.robGo]
    split
    · refine robGo_cells d _ _ _ (hc.set ha h0 h9) (by rw [List.length_set]; exact hlt) (by rw [t_g0 ha]; exact ho) (by rw [t_g0 ha]; exact ho9.2) (by rw [List.length_set]; omega) (fun m hm => ?_)
      rw [List.length_set, TabT.us_same hua h0, cy_shift ha hd (by omega)]
      exact hu (m + 1) (by omega)
    · refine robGo_cells d _ _ _ hc hlt h0 h9 (by omega) (fun m hm => ?_)
      rw [cy_shift ha hd (by omega)]
      exact hu (m + 1) (by omega)
end Go.Proofs.YteakjjimkagmkaaGreatDoor.G
namespace Go.Proofs.YteakjjimkagmkaaGreatDoor.G
open Go.RowKit Go.Proofs.YteakjjimkagmkaaGreatDoorW.PrintWords Go.Proofs.YteakjjimkagmkaaGreatDoorW.PrintLast Go.Proofs.YteakjjimkagmkaaGreatDoorW.PrintMore
set_option linter.unusedSectionVars false
section
variable (n : Nat) (h2 : 2 ≤ n) (h12 : n ≤ 12) (ks : List Int) (q : Nat)
include h2 h12
theorem sp_rob (r : List Int) : ∀ (d : Nat) (t : List Int) (h : Int) (a : Nat), t.length = n → Cells t → 0 ≤ h → h ≤ 999 → a < n → d < n → (∀ m, m < d → TabT.us t (TabT.cy n (a + m)) = true) → TabT.us t (TabT.cy n (a + d)) = false →
    Ev (fun k => spec_prRobin.l0 k (n : Int) ks (ks.length : Int) (wrap64 ((q : Int) + 1)) (TabT.robGo d t h a)) r → Ev (fun k => spec_prRobin.l1 k (n : Int) h (a : Int) ks (ks.length : Int) (q : Int) t) r := by
  intro d
  induction d with
  | zero =>
    intro t h a hl hc h0 h9 ha hd _ hf hr
    rw [cy_self ha] at hf
    have e1 := us_free (by omega) hf
    have e2 := hc a (by omega)
    refine Ev.one hr fun k => ?_
    rw [spec_prRobin.l1, if_pos (by omega), if_pos (by omega), rd_nat, if_pos (by omega), Int.toNat_natCast]
    rfl
  | succ d ih =>
    intro t h a hl hc h0 h9 ha hd hu hf hr
    have hua := hu 0 (by omega)
    rw [cy_self ha] at hua
    have ho := us_val hua
    have ho9 := hc a (by omega)
    have hlt := TabT.cy_lt (n := n) (i := a + 1) (by omega)
    obtain ⟨kh, rfl⟩ : ∃ m : Nat, h = m := ⟨h.toNat, by omega⟩
    obtain ⟨ko, hko⟩ : ∃ m : Nat, t.getD a 0 = m := ⟨(t.getD a 0).toNat, by omega⟩
    rw [TabT.robGo, hl, t_g0 (by omega : a < t.length), hko] at hr
    have c1 := prCost_eq (n := n) (key := kh) (at_ := a) (by omega) (by omega) (by omega) ha
    have c2 := prCost_eq (n := n) (key := ko) (at_ := a) (by omega) (by omega) (by omega) ha
    rw [costN_cost ha] at c1 c2
    by_cases hov : TabT.Over n a (kh : Int) (ko : Int)
    · rw [if_pos hov] at hr
      have := ih (t.set a (kh : Int)) (ko : Int) (TabT.cy n (a + 1)) (by rw [List.length_set]; exact hl) (hc.set (by omega) h0 h9) (by omega) (by omega) hlt (by omega)
        (fun m hm => by rw [TabT.us_same hua h0, cy_shift ha hd (by omega)]; exact hu (m + 1) (by omega)) (by rw [TabT.us_same hua h0, cy_shift ha hd (Nat.le_refl _)]; exact hf) hr
      refine Ev.one this fun k => ?_
      rw [spec_prRobin.l1, if_pos (by omega), if_pos (by omega), rd_nat, if_neg (by omega), hko, c1, Option.bind_some, c2, Option.bind_some, Int.toNat_natCast, step_arith ha (by omega)]
      unfold TabT.Over at hov
      rcases hov with hov | ⟨hov, hov2⟩
      · rw [if_pos (by omega), if_neg (by omega)]
      · rw [if_neg (by omega), if_pos (by omega), if_pos (by omega), if_neg (by omega)]
    · rw [if_neg hov] at hr
      have := ih t (kh : Int) (TabT.cy n (a + 1)) hl hc h0 h9 hlt (by omega)
        (fun m hm => by rw [cy_shift ha hd (by omega)]; exact hu (m + 1) (by omega)) (by rw [cy_shift ha hd (Nat.le_refl _)]; exact hf) hr
      refine Ev.one this fun k => ?_
      rw [spec_prRobin.l1, if_pos (by omega), if_pos (by omega), rd_nat, if_neg (by omega), hko, c1, Option.bind_some, c2, Option.bind_some, Int.toNat_natCast, step_arith ha (by omega)]
      unfold TabT.Over at hov
      rw [if_neg (by omega)]
      by_cases e : ((TabT.cost n a (kh : Int) : Nat) : Int) = ((TabT.cost n a (ko : Int) : Nat) : Int)
      · rw [if_pos e, if_neg (by omega), if_neg (by omega)]
      · rw [if_neg e, if_neg (by omega)]
end
end Go.Proofs.YteakjjimkagmkaaGreatDoor.G
namespace Go.Proofs.YteakjjimkagmkaaGreatDoor.G
open Go.RowKit Go.Proofs.YteakjjimkagmkaaGreatDoorW.PrintWords Go.Proofs.YteakjjimkagmkaaGreatDoorW.PrintLast Go.Proofs.YteakjjimkagmkaaGreatDoorW.PrintMore
set_option linter.unusedSectionVars false
def robAll (t : List Int) (ks : List Int) : List Int := ks.foldl TabT.rob t
theorem robAll_snoc (t : List Int) (ks : List Int) (k : Int) : robAll t (ks ++ [k]) = TabT.rob (robAll t ks) k := by
  simp [robAll, List.foldl_append]
structure RFilled (n : Nat) (t : List Int) (ks : List Int) : Prop where
  len_ : t.length = n
  cells : Cells t
  robin : TabT.Robin t
  keys_ : (TabT.keys t).Perm ks
theorem RFilled.many_ {n : Nat} {t ks : List Int} (h : RFilled n t ks) : TabT.many t = ks.length := by
  rw [TabT.many_keys]; exact h.keys_.length_eq
theorem RFilled.hand {n : Nat} {t ks : List Int} (h : RFilled n t ks) (h2 : 2 ≤ n) {k : Int} (h0 : 0 ≤ k) (hn : k ∉ ks) : TabT.Hand t k (TabT.own n k) := by
  have := h.robin.hand (by rw [h.len_]; exact h2) h0 (fun e => hn (h.keys_.mem_iff.mp e))
  rwa [h.len_] at this
theorem rfilled {n : Nat} (h2 : 2 ≤ n) (ks : List Int) (hl : ks.length < n) (hk : ∀ x ∈ ks, 0 ≤ x ∧ x ≤ 999) (hnd : ks.Nodup) : ∀ q, q ≤ ks.length → RFilled n (robAll (TabT.empty n) (ks.take q)) (ks.take q) := by
  intro q
  induction q with
  | zero =>
    intro _
    refine ⟨by simp [robAll, TabT.empty], Cells.empty n, TabT.Robin.empty (by omega), ?_⟩
    show (TabT.keys (TabT.empty n)).Perm []
    rw [TabT.keys_empty]
  | succ q ih =>
    intro hq
    have F := ih (by omega)
    have hm := hk (ks.getD q 0) (by rw [List.getD_eq_getElem?_getD, List.getElem?_eq_getElem (by omega : q < ks.length)]; exact List.getElem_mem _)
    have hnew : ks.getD q 0 ∉ ks.take q := by
      intro hmem
      obtain ⟨i, hi, e⟩ := List.mem_take_iff_getElem.mp hmem
      unfold List.Nodup at hnd
      rw [List.pairwise_iff_getElem] at hnd
      rw [List.getD_eq_getElem?_getD, List.getElem?_eq_getElem (by omega : q < ks.length)] at e
      exact hnd i q (by omega) (by omega) (by omega) e
    have hmany : TabT.many (robAll (TabT.empty n) (ks.take q)) = q := by rw [F.many_, List.length_take]; omega
    have hF := F.robin.valid.free
    have s := TabT.ff_spec hF (TabT.own_lt (n := (robAll (TabT.empty n) (ks.take q)).length) (by rw [F.len_]; omega) (ks.getD q 0))
    have R := TabT.rob_spec F.robin (by rw [F.len_]; exact h2) hm.1 (fun e => hnew (F.keys_.mem_iff.mp e)) (by rw [hmany, F.len_]; omega)
    rw [take_succ_getD (by omega), robAll_snoc]
    refine ⟨by rw [R.2.2, F.len_], ?_, R.1, ?_⟩
    · exact robGo_cells _ _ _ _ F.cells (TabT.own_lt (by rw [F.len_]; omega) _) hm.1 hm.2 s.1 s.2.2
    · exact R.2.1.trans ((F.keys_.cons _).trans (List.perm_append_comm (l₁ := [ks.getD q 0])))
end Go.Proofs.YteakjjimkagmkaaGreatDoor.G
namespace Go.Proofs.YteakjjimkagmkaaGreatDoor.G
open Go.RowKit Go.Proofs.YteakjjimkagmkaaGreatDoorW.PrintWords Go.Proofs.YteakjjimkagmkaaGreatDoorW.PrintLast Go.Proofs.YteakjjimkagmkaaGreatDoorW.PrintMore
set_option linter.unusedSectionVars false
section
variable (n : Nat) (ks : List Int) (h2 : 2 ≤ n) (h12 : n ≤ 12) (hl : ks.length < n) (hk : ∀ x ∈ ks, 0 ≤ x ∧ x ≤ 999) (hnd : ks.Nodup)
include h2 h12 hl hk hnd
theorem prRobin_ev : Ev (fun k => spec_prRobin.f k (n : Int) ks) (robAll (TabT.empty n) ks) := by
  unfold spec_prRobin.f
  refine Ev.bind (t_prEmpty_ev n (by omega)) ?_
  have := Ev.up0 ks.length (fun q => robAll (TabT.empty n) (ks.take q)) (fun k s q => spec_prRobin.l0 k (n : Int) ks (ks.length : Int) q s) (robAll (TabT.empty n) ks) (fun q hq h => ?_) (Ev.end_ fun k => ?_)
  · simpa [robAll] using this
  · have F := rfilled h2 ks hl hk hnd q (by omega)
    have hm := hk (ks.getD q 0) (by rw [List.getD_eq_getElem?_getD, List.getElem?_eq_getElem hq]; exact List.getElem_mem hq)
    have hF := F.robin.valid.free
    have ho := TabT.own_lt (n := n) (by omega) (ks.getD q 0)
    have s := TabT.ff_spec hF (by rw [F.len_]; exact ho)
    rw [F.len_] at s
    rw [take_succ_getD hq, robAll_snoc, TabT.rob, F.len_] at h
    have := sp_rob n h2 h12 ks q (robAll (TabT.empty n) ks) _ _ (ks.getD q 0) (TabT.own n (ks.getD q 0)) F.len_ F.cells hm.1 hm.2 ho s.1 s.2.2 s.2.1 (by rw [wrap_next (n := ks.length) hq (by omega)]; exact h)
    refine Ev.one this fun k => ?_
    obtain ⟨m, hmk⟩ : ∃ m : Nat, ks.getD q 0 = m := ⟨(ks.getD q 0).toNat, by omega⟩
    rw [spec_prRobin.l0, if_pos (by omega), if_pos (by omega), if_pos (by omega), if_neg (by omega), rd_nat, hmk, own_arith]
  · rw [spec_prRobin.l0, if_neg (by omega), List.take_length]
end
end Go.Proofs.YteakjjimkagmkaaGreatDoor.G
namespace TabT
theorem Valid.ins {t : List Int} (hV : Valid t) {k : Int} (hk : 0 ≤ k) (hn : k ∉ keys t) (hm : many t + 1 < t.length) : Valid (ins t k) := by
  have hF := hV.free
  have hp := pos_lt hF k
  have hpf := pos_free hF k
  have hlen : (TabT.ins t k).length = t.length := by simp [TabT.ins]
  have hg : ∀ i, (TabT.ins t k).getD i (-1) = if i = pos t k then k else t.getD i (-1) := fun i => getD_set _ _ _ _ _ hp
  have hu : ∀ i, us (TabT.ins t k) i = (decide (i = pos t k) || us t i) := fun i => us_set _ _ _ _ hp hk
  refine ⟨?_, ?_, ?_, ?_⟩
  · exact free_of_many _ (by rw [many_ins hF hk, hlen]; exact hm)
  · intro i hi
    rw [hg]; split
    · omega
    · exact hV.ge i (by rw [← hlen]; exact hi)
  · intro i j hi hj e
    rw [hu, Bool.or_eq_true, decide_eq_true_eq] at hi hj
    rw [hg, hg] at e
    by_cases c1 : i = pos t k <;> by_cases c2 : j = pos t k
    · omega
    · rw [if_pos c1, if_neg c2] at e
      exact absurd (mem_keys.2 ⟨j, hj.resolve_left c2, e.symm⟩) hn
    · rw [if_neg c1, if_pos c2] at e
      exact absurd (mem_keys.2 ⟨i, hi.resolve_left c1, e⟩) hn
    · rw [if_neg c1, if_neg c2] at e
      exact hV.nodup i j (hi.resolve_left c1) (hj.resolve_left c2) e
  · intro i hi m hm'
    rw [hu, Bool.or_eq_true, decide_eq_true_eq] at hi
    rw [hlen, hg] at hm'
    rw [hlen, hg, hu, Bool.or_eq_true, decide_eq_true_eq]
    right
    by_cases c : i = pos t k
    · rw [if_pos c] at hm' ⊢
      have s := ff_spec hF (own_lt (n := t.length) (by omega) k)
      have hc : cost t.length (pos t k) k = ff t (own t.length k) := cost_own s.1 k
      rw [c, hc] at hm'
      exact s.2.2 m hm'
    · rw [if_neg c] at hm' ⊢
      exact hV.path i (hi.resolve_left c) m hm'
end TabT
namespace Go.Proofs.YteakjjimkagmkaaGreatDoor.G
open Go.RowKit Go.Proofs.YteakjjimkagmkaaGreatDoorW.PrintWords Go.Proofs.YteakjjimkagmkaaGreatDoorW.PrintLast Go.Proofs.YteakjjimkagmkaaGreatDoorW.PrintMore
set_option linter.unusedSectionVars false
theorem wayF_iff (l : List Int) (key : Nat) : ∀ (c s : Nat), wayF l key s c = true ↔ ∀ m, m < c → 0 ≤ l.getD ((key + s + m) % l.length) 0
  | 0, s => by simp [wayF]
  | c + 1, s => by
    rw [wayF, Bool.and_eq_true, decide_eq_true_eq, wayF_iff l key c (s + 1)]
    constructor
    · rintro ⟨h0, h⟩ m hm
      cases m with
      | zero => exact h0
      | succ m => have := h m (by omega); rwa [show key + (s + 1) + m = key + s + (m + 1) by omega] at this
    · intro h
      exact ⟨h 0 (by omega), fun m hm => by have := h (m + 1) (by omega); rwa [show key + s + (m + 1) = key + (s + 1) + m by omega] at this⟩
theorem okFrom_iff (l : List Int) : ∀ (d i : Nat), okFrom l d i = true ↔ ∀ j, i ≤ j → j < i + d → okCell l j = true
  | 0, i => by
    rw [okFrom]
    exact ⟨fun _ j h1 h2 => by omega, fun _ => rfl⟩
  | d + 1, i => by
    rw [okFrom, Bool.and_eq_true, okFrom_iff l d (i + 1)]
    constructor
    · rintro ⟨h0, h⟩ j h1 h2
      by_cases e : j = i
      · rw [e]; exact h0
      · exact h j (by omega) (by omega)
    · intro h
      exact ⟨h i (Nat.le_refl _) (by omega), fun j h1 h2 => h j (by omega) (by omega)⟩
theorem own_nat (key n : Nat) : TabT.own n (key : Int) = key % n := rfl
theorem way_cell {n key m : Nat} (hn : 0 < n) (hm : m < n) : (key + m) % n = TabT.cy n (TabT.own n (key : Int) + m) := by
  have := Nat.mod_lt key hn
  rw [own_nat, ← TabT.cy_mod (by omega), Nat.mod_add_mod]
theorem us_of {l : List Int} {i : Nat} (hi : i < l.length) : TabT.us l i = decide (0 ≤ l.getD i 0) := by
  rw [TabT.us, t_g0 hi]
theorem tbl_valid {l : List Int} (h : tblB l = true) : TabT.Valid l := by
  obtain ⟨h1, h2, h3, h4⟩ := tblB_parts h
  have hok : okFrom l l.length 0 = true := by
    unfold tblB at h
    simp only [Bool.and_eq_true] at h
    exact h.2
  have hc := (okFrom_iff l l.length 0).1 hok
  refine ⟨?_, ?_, ?_, ?_⟩
  · obtain ⟨i, hi, e⟩ := List.getElem_of_mem h4
    exact ⟨i, hi, by rw [us_of hi, getD_get hi, e]; rfl⟩
  · intro i hi
    rw [t_g0 hi]
    exact (h3 i hi).1
  · intro i j hi hj e
    have li := TabT.us_lt hi
    have lj := TabT.us_lt hj
    rw [t_g0 li, t_g0 lj] at e
    rcases Nat.lt_trichotomy i j with c | c | c
    · exact absurd e (tbl_dist h i j c lj (us_val hi))
    · exact c
    · exact absurd e.symm (tbl_dist h j i c li (us_val hj))
  · intro i hi m hm
    have li := TabT.us_lt hi
    have hv := us_val hi
    have := hc i (Nat.zero_le _) (by omega)
    obtain ⟨key, hkey⟩ : ∃ key : Nat, l.getD i 0 = key := ⟨(l.getD i 0).toNat, by omega⟩
    rw [t_g0 li, hkey] at hm ⊢
    rw [okCell, decide_eq_false (by omega), Bool.false_or, Bool.and_eq_true, hkey, Int.toNat_natCast, costN_cost li] at this
    have hw := (wayF_iff l key _ 0).1 this.2 m hm
    have hm2 := TabT.cost_lt li (key : Int)
    rw [Nat.add_zero, way_cell (by omega) (by omega)] at hw
    rw [us_of (TabT.cy_lt (by have := TabT.own_lt (n := l.length) (by omega) (key : Int); omega))]
    exact decide_eq_true hw
theorem keysZ_keys (l : List Int) : (keysZ l).Perm (TabT.keys l) := keysZ_perm l
end Go.Proofs.YteakjjimkagmkaaGreatDoor.G
namespace Go.Proofs.YteakjjimkagmkaaGreatDoor.Pure
open Go.RowKit Go.Proofs.YteakjjimkagmkaaGreatDoor.G Go.Proofs.YteakjjimkagmkaaGreatDoorW.PrintWords Go.Proofs.YteakjjimkagmkaaGreatDoorW.PrintLast
theorem place_l0 (l : List Int) (a : Int) (hn : l.length ≤ 4611686018427387904) : ∀ (d i : Nat), i + d = l.length → Ev (fun k => spec_prPlace.l0 k a l (l.length : Int) i) (ixF l a d i) := by
  intro d
  induction d with
  | zero =>
    intro i hd
    exact Ev.end_ fun k => by rw [spec_prPlace.l0, if_neg (by omega)]; rfl
  | succ d ih =>
    intro i hd
    rw [ixF]
    by_cases c : l.getD i 0 = a
    · rw [if_pos c]
      refine Ev.end_ fun k => ?_
      rw [spec_prPlace.l0, if_pos (by omega), if_pos (by omega), if_pos (by omega), rd_nat, if_pos c]
    · rw [if_neg c]
      refine Ev.one (ih (i + 1) (by omega)) fun k => ?_
      rw [spec_prPlace.l0, if_pos (by omega), if_pos (by omega), if_pos (by omega), rd_nat, if_neg c, wrap_next (n := l.length) (by omega) hn]
def fkV (l : List Int) (a : Int) : Int × Int × Bool := if tblB l = true then (if 0 ≤ a ∧ a ≤ 999 then (if a ∈ l then (ixF l a l.length 0, ((costN l.length a.toNat (ixF l a l.length 0).toNat : Nat) : Int), true) else (0, 0, false)) else (0, 0, false)) else (0, 0, false)
theorem isKey_eq (a : Int) : impl_isKey.f a = some (decide (0 ≤ a ∧ a ≤ 999)) := by unfold impl_isKey.f; rw [between_eq]; rfl
theorem tbl_len {l : List Int} (h : tblB l = true) : 2 ≤ l.length ∧ l.length ≤ 12 := by
  unfold tblB at h
  simp only [Bool.and_eq_true, decide_eq_true_eq] at h
  omega
theorem impl_FindKey_ev (l : List Int) (a : Int) (hn : l.length ≤ 4611686018427387904) : Ev (fun k => impl_FindKey.f k l a) (fkV l a) := by
  unfold impl_FindKey.f fkV
  refine Ev.bind (isTable_ev l hn) ?_
  have stop : Ev (fun k => impl_FindKey.j0 k a true l) (0, 0, false) := Ev.end_ fun k => by rw [impl_FindKey.j0, if_pos rfl]
  cases h : tblB l with
  | false => simp only [Bool.false_eq_true, if_false]; exact stop
  | true =>
    have hl := tbl_len h
    simp only [if_true, isKey_eq, Option.bind_some, decide_eq_true_eq]
    by_cases ha : 0 ≤ a ∧ a ≤ 999
    · simp only [ha, and_self, if_true]
      refine Ev.bind (containsI_ev l a hn) ?_
      rcases ixF_spec l a l.length 0 (by omega) with ⟨h1, h2⟩ | ⟨j, h1, h2, h3, h4⟩
      · rw [List.drop_zero] at h2
        rw [decide_eq_false h2, if_neg h2]
        exact stop
      · rw [List.drop_zero] at h4
        obtain ⟨key, rfl⟩ : ∃ key : Nat, a = key := ⟨a.toNat, by omega⟩
        rw [if_pos h4, h1, decide_eq_true h4, Int.toNat_natCast, Int.toNat_natCast]
        refine Ev.step (f := fun k => (slices_Index_int_int.f k l (key : Int)).bind fun t229 => ((impl_Table_cost.f l t229).bind fun t230 => (some (t229, t230, true)))) (fun k => by rw [impl_FindKey.j0, if_neg (by decide)]) ?_
        refine Ev.bind (index_ev l (key : Int) hn) ?_
        rw [h1, tcost_eq (by omega) (by omega) h2 h3]
        exact Ev.now _
    · simp only [ha, if_false]; exact stop
end Go.Proofs.YteakjjimkagmkaaGreatDoor.Pure
namespace Go.Proofs.YteakjjimkagmkaaGreatDoor.Pure
open Go.RowKit Go.Proofs.YteakjjimkagmkaaGreatDoor.G Go.Proofs.YteakjjimkagmkaaGreatDoorW.PrintWords Go.Proofs.YteakjjimkagmkaaGreatDoorW.PrintLast Go.Proofs.YteakjjimkagmkaaGreatDoorW.PrintMore
set_option linter.unusedSectionVars false
theorem Cells.clear {t : List Int} (hc : Cells t) {p : Nat} (hp : p < t.length) : Cells (t.set p (-1)) := by
  intro i hi
  rw [List.length_set] at hi
  rw [← t_g0 (by rw [List.length_set]; exact hi), TabT.getD_set _ _ _ _ _ hp]
  split
  · omega
  · rw [t_g0 hi]; exact hc i hi
end Go.Proofs.YteakjjimkagmkaaGreatDoor.Pure
namespace Go.Proofs.YteakjjimkagmkaaGreatDoor.Pure
open Go.RowKit Go.Proofs.YteakjjimkagmkaaGreatDoor.G Go.Proofs.YteakjjimkagmkaaGreatDoorW.PrintWords Go.Proofs.YteakjjimkagmkaaGreatDoorW.PrintLast
def partOf (l S : List Int) : List Int := l.map fun x => if x ∈ S then x else -1
theorem part_len (l S : List Int) : (partOf l S).length = l.length := by simp [partOf]
theorem part_get (l S : List Int) {i : Nat} (hi : i < l.length) : (partOf l S).getD i 0 = if l.getD i 0 ∈ S then l.getD i 0 else -1 := by
  unfold partOf
  rw [getD_get (by simpa using hi), getD_get hi]
  simp
theorem part_nil (l : List Int) : partOf l [] = TabT.empty l.length := by
  unfold partOf TabT.empty
  refine List.ext_getElem (by simp) (fun i _ _ => by simp)
/-- A key may come next behind S. -/
def rdyB (l S : List Int) (x : Int) : Bool := wayS l S x (cstK l x) 0 && !decide (x ∈ S)
theorem index_at (l : List Int) (a : Int) (hn : l.length ≤ 1000) : ∀ (d i : Nat), i + d = l.length → ∀ k, d + 1 ≤ k → slices_Index_int_int.l0 k l a (l.length : Int) i = some (ixF l a d i) := by
  intro d
  induction d with
  | zero =>
    intro i hd k hk
    obtain ⟨k, rfl⟩ : ∃ q, k = q + 1 := ⟨k - 1, by omega⟩
    rw [slices_Index_int_int.l0, if_neg (by omega)]; rfl
  | succ d ih =>
    intro i hd k hk
    obtain ⟨k, rfl⟩ : ∃ q, k = q + 1 := ⟨k - 1, by omega⟩
    rw [ixF]
    by_cases c : l.getD i 0 = a
    · rw [if_pos c, slices_Index_int_int.l0, if_pos (by omega), if_pos (by omega), if_pos (by omega), rd_nat, if_pos c.symm]
    · rw [if_neg c, slices_Index_int_int.l0, if_pos (by omega), if_pos (by omega), if_pos (by omega), rd_nat, if_neg (fun e => c e.symm), wrap_next (n := l.length) (by omega) (by omega)]
      exact ih (i + 1) (by omega) k (by omega)
theorem index_at0 (l : List Int) (a : Int) (hn : l.length ≤ 1000) : slices_Index_int_int.f 2000 l a = some (ixF l a l.length 0) := index_at l a hn l.length 0 (by omega) 2000 (by omega)
theorem ix_here {l : List Int} (h : tblB l = true) {i : Nat} (hi : i < l.length) (h0 : 0 ≤ l.getD i 0) : ixF l (l.getD i 0) l.length 0 = (i : Int) := by
  rcases ixF_spec l (l.getD i 0) l.length 0 (by omega) with ⟨_, h2⟩ | ⟨j, h1, h2, h3, _⟩
  · exact absurd (by rw [List.drop_zero]; exact getD_mem hi) h2
  · rw [h1]
    rcases Nat.lt_trichotomy i j with c | c | c
    · exact absurd h3.symm (tbl_dist h i j c h2 h0)
    · rw [c]
    · exact absurd h3 (tbl_dist h j i c hi (by rw [h3]; exact h0))
theorem atK_here {l : List Int} (h : tblB l = true) {i : Nat} (hi : i < l.length) (h0 : 0 ≤ l.getD i 0) : slices_Index_int_int.f 2000 l (l.getD i 0) = some (i : Int) ∧ atK l (l.getD i 0) = (i : Int) := by
  have h2 := (tblB_parts h).2.1
  have e := index_at0 l (l.getD i 0) (by omega)
  rw [ix_here h hi h0] at e
  exact ⟨e, by unfold atK; rw [e]; rfl⟩
theorem cst_here {l : List Int} (h : tblB l = true) {i : Nat} (hi : i < l.length) (h0 : 0 ≤ l.getD i 0) : impl_Table_cost.f l (i : Int) = some ((costN l.length (l.getD i 0).toNat i : Nat) : Int) ∧ cstK l (l.getD i 0) = costN l.length (l.getD i 0).toNat i := by
  obtain ⟨h1, h2, h3, h4⟩ := tblB_parts h
  have hv := h3 i hi
  have e := tcost_eq (l := l) (key := (l.getD i 0).toNat) (at_ := i) (by omega) (by omega) hi (by omega)
  refine ⟨e, ?_⟩
  unfold cstK
  rw [(atK_here h hi h0).2, e]
  simp
theorem key_at {l : List Int} {x : Int} (hx : x ∈ keysZ l) : ∃ i, i < l.length ∧ l.getD i 0 = x ∧ 0 ≤ x := by
  obtain ⟨h1, h2⟩ := keysZ_mem.1 hx
  obtain ⟨i, hi, e⟩ := List.getElem_of_mem h1
  exact ⟨i, hi, by rw [getD_get hi]; exact e, h2⟩
theorem keys_okB {l : List Int} (h : tblB l = true) : (keysZ l).all (keyOk l) = true := by
  obtain ⟨h1, h2, h3, h4⟩ := tblB_parts h
  rw [List.all_eq_true]
  intro x hx
  obtain ⟨i, hi, rfl, h0⟩ := key_at hx
  have hv := h3 i hi
  obtain ⟨a1, a2⟩ := atK_here h hi h0
  obtain ⟨b1, b2⟩ := cst_here h hi h0
  have hl := costN_lt (n := l.length) (key := (l.getD i 0).toNat) (at_ := i) (by omega)
  unfold keyOk
  rw [a2, b2]
  simp only [Bool.and_eq_true, decide_eq_true_eq]
  exact ⟨⟨⟨⟨h0, hv.2⟩, a1⟩, b1⟩, by omega⟩
theorem cells_okB {l : List Int} (h : tblB l = true) : l.all cellOk = true := by
  obtain ⟨h1, h2, h3, h4⟩ := tblB_parts h
  rw [List.all_eq_true]
  intro x hx
  obtain ⟨i, hi, e⟩ := List.getElem_of_mem hx
  have := h3 i hi
  rw [getD_get hi, e] at this
  unfold cellOk
  simp only [Bool.and_eq_true, decide_eq_true_eq]
  exact this
def rdyTo (l S : List Int) : Nat → List Int
  | 0 => []
  | q + 1 => if 0 ≤ l.getD q 0 ∧ rdyB l S (l.getD q 0) = true then putZ (l.getD q 0) (rdyTo l S q) else rdyTo l S q
theorem rdyTo_len (l S : List Int) : ∀ q, (rdyTo l S q).length ≤ q
  | 0 => by simp [rdyTo]
  | q + 1 => by
    have := rdyTo_len l S q
    have := putZ_len (l.getD q 0) (rdyTo l S q)
    rw [rdyTo]
    split <;> omega
theorem rdyTo_mem (l S : List Int) (x : Int) : ∀ q, x ∈ rdyTo l S q ↔ ∃ j, j < q ∧ l.getD j 0 = x ∧ 0 ≤ x ∧ rdyB l S x = true
  | 0 => by simp [rdyTo]
  | q + 1 => by
    rw [rdyTo]
    split
    · rename_i h
      rw [putZ_mem, rdyTo_mem l S x q]
      constructor
      · rintro (e | ⟨j, h1, h2, h3⟩)
        · exact ⟨q, by omega, e.symm, by rw [e]; exact h⟩
        · exact ⟨j, by omega, h2, h3⟩
      · rintro ⟨j, h1, h2, h3⟩
        by_cases e : j = q
        · subst e; exact Or.inl h2.symm
        · exact Or.inr ⟨j, by omega, h2, h3⟩
    · rename_i h
      rw [rdyTo_mem l S x q]
      constructor
      · rintro ⟨j, h1, h2, h3⟩; exact ⟨j, by omega, h2, h3⟩
      · rintro ⟨j, h1, h2, h3⟩
        by_cases e : j = q
        · subst e; rw [h2] at h; exact absurd h3 h
        · exact ⟨j, by omega, h2, h3⟩
theorem rdyTo_strict (l S : List Int) : ∀ q, (rdyTo l S q).Pairwise (· < ·)
  | 0 => by simp [rdyTo]
  | q + 1 => by
    rw [rdyTo]
    split
    · exact putZ_strict _ _ (rdyTo_strict l S q)
    · exact rdyTo_strict l S q
theorem rdy_filter {l : List Int} (h : tblB l = true) (S : List Int) : rdyTo l S l.length = (keysZ l).filter (rdyB l S) := by
  refine strict_ext _ _ (rdyTo_strict _ _ _) ((keysZ_strict h).filter _) (fun x => ?_)
  rw [rdyTo_mem, List.mem_filter]
  constructor
  · rintro ⟨j, h1, h2, h3, h4⟩
    exact ⟨keysZ_mem.2 ⟨h2 ▸ getD_mem h1, h3⟩, h4⟩
  · rintro ⟨h1, h2⟩
    obtain ⟨i, hi, e, h0⟩ := key_at h1
    exact ⟨i, hi, e, h0, h2⟩
theorem part_used {l S : List Int} (hS : ∀ x ∈ S, 0 ≤ x) {i : Nat} (hi : i < l.length) : ((partOf l S).getD i 0 != -1) = decide (l.getD i 0 ∈ S) := by
  rw [part_get l S hi]
  by_cases c : l.getD i 0 ∈ S
  · rw [if_pos c, decide_eq_true c]
    have := hS _ c
    exact bne_iff_ne.mpr (by omega)
  · rw [if_neg c, decide_eq_false c]; rfl
end Go.Proofs.YteakjjimkagmkaaGreatDoor.Pure
namespace Go.Proofs.YteakjjimkagmkaaGreatDoor.Pure
open Go.RowKit Go.Proofs.YteakjjimkagmkaaGreatDoor.G Go.Proofs.YteakjjimkagmkaaGreatDoorW.PrintWords Go.Proofs.YteakjjimkagmkaaGreatDoorW.PrintLast
section
variable {l : List Int} (h : tblB l = true) {S : List Int} (hS : ∀ x ∈ S, 0 ≤ x)
include h hS
theorem rd_way (key i c : Nat) (out r : List Int) (hk : key ≤ 1000) (hi : i < l.length) (hc : costN l.length key i = c) : ∀ (j : Nat), j ≤ c → ∀ b,
    Ev (fun k => spec_prReady.l1 k (partOf l S) (l.length : Int) out (i : Int) (key : Int) (b && wayS l S (key : Int) j (c - j)) 0 l (l.length : Int) (i : Int)) r →
    Ev (fun k => spec_prReady.l1 k (partOf l S) (l.length : Int) out (i : Int) (key : Int) b (j : Int) l (l.length : Int) (i : Int)) r := by
  obtain ⟨h1, h2, h3, h4⟩ := tblB_parts h
  have hcn : c < l.length := by rw [← hc]; exact costN_lt (by omega)
  intro j
  induction j with
  | zero =>
    intro _ b hr
    rw [wayS, Bool.and_true] at hr
    exact hr
  | succ j ih =>
    intro hj b hr
    have hcell := back_cell (n := l.length) (by omega) hi hc hj (by omega)
    have e1 : Int.tmod (wrap64 ((wrap64 ((i : Int) - ((j + 1 : Nat) : Int))) + (l.length : Int))) (l.length : Int) = (((key + (c - (j + 1))) % l.length : Nat) : Int) := by
      rw [wrap_id (x := (i : Int) - ((j + 1 : Nat) : Int)) (by omega) (by omega), wrap_id (by omega) (by omega), ← hcell, show (i : Int) - ((j + 1 : Nat) : Int) + (l.length : Int) = ((i + l.length - (j + 1) : Nat) : Int) by omega]
      rfl
    have hm := Nat.mod_lt (key + (c - (j + 1))) (show 0 < l.length by omega)
    rw [wayS, show c - (j + 1) + 1 = c - j by omega, Int.toNat_natCast] at hr
    cases b with
    | false =>
      rw [Bool.false_and] at hr
      refine Ev.one (ih (by omega) false (by rw [Bool.false_and]; exact hr)) fun k => ?_
      rw [spec_prReady.l1, if_pos (by omega), if_neg (by decide), wrap_id (x := ((j + 1 : Nat) : Int) - 1) (by omega) (by omega), show ((j + 1 : Nat) : Int) - 1 = (j : Int) by omega]
    | true =>
      rw [Bool.true_and] at hr
      refine Ev.one (ih (by omega) _ hr) fun k => ?_
      rw [spec_prReady.l1, if_pos (by omega), if_pos rfl, if_neg (by omega), e1, if_pos (by omega), if_pos (by rw [part_len]; omega), rd_nat, part_used hS hm, wrap_id (x := ((j + 1 : Nat) : Int) - 1) (by omega) (by omega), show ((j + 1 : Nat) : Int) - 1 = (j : Int) by omega]
theorem prReady_ev : Ev (fun k => spec_prReady.f k l (partOf l S)) (rdyTo l S l.length) := by
  obtain ⟨h1, h2, h3, h4⟩ := tblB_parts h
  unfold spec_prReady.f
  rw [part_len]
  have := Ev.up0 l.length (fun q => rdyTo l S q) (fun k s q => spec_prReady.l0 k (partOf l S) (l.length : Int) s l (l.length : Int) q) (rdyTo l S l.length) (fun q hq hE => ?_) (Ev.end_ fun k => ?_)
  · simpa [rdyTo] using this
  · have hv := h3 q hq
    have hpl := rdyTo_len l S q
    by_cases hf : l.getD q 0 = -1
    · rw [rdyTo, if_neg (fun e => by omega)] at hE
      refine Ev.one (f := fun k => spec_prReady.j1 k (partOf l S) (l.length : Int) (rdyTo l S q) (q : Int) (l.getD q 0) l (l.length : Int) (q : Int) true) (Ev.one hE fun k => ?_) fun k => ?_
      · rw [spec_prReady.j1, if_pos rfl, wrap_next (n := l.length) hq (by omega)]
      · rw [spec_prReady.l0, if_pos (by omega), if_pos (by omega), if_pos (by omega), rd_nat, if_pos hf]
    · obtain ⟨key, hkey⟩ : ∃ key : Nat, l.getD q 0 = key := ⟨(l.getD q 0).toNat, by omega⟩
      have h0 : 0 ≤ l.getD q 0 := by omega
      have hcs := (cst_here h hq h0).2
      by_cases hp : l.getD q 0 ∈ S
      · rw [rdyTo, if_neg (fun e => by have := e.2; unfold rdyB at this; rw [decide_eq_true hp] at this; simp at this)] at hE
        refine Ev.one (f := fun k => spec_prReady.j1 k (partOf l S) (l.length : Int) (rdyTo l S q) (q : Int) (l.getD q 0) l (l.length : Int) (q : Int) true) (Ev.one hE fun k => ?_) fun k => ?_
        · rw [spec_prReady.j1, if_pos rfl, wrap_next (n := l.length) hq (by omega)]
        · rw [spec_prReady.l0, if_pos (by omega), if_pos (by omega), if_pos (by omega), rd_nat, if_neg hf, if_pos (by rw [part_len]; omega), rd_nat, part_used hS hq, decide_eq_true hp]
      · refine Ev.one (f := fun k => spec_prReady.j1 k (partOf l S) (l.length : Int) (rdyTo l S q) (q : Int) (l.getD q 0) l (l.length : Int) (q : Int) false) ?_ fun k => ?_
        · refine Ev.one (f := fun k => spec_prReady.l1 k (partOf l S) (l.length : Int) (rdyTo l S q) (q : Int) (key : Int) true ((costN l.length key q : Nat) : Int) l (l.length : Int) (q : Int)) ?_ fun k => ?_
          · refine rd_way h hS key q _ (rdyTo l S q) _ (by omega) hq rfl (costN l.length key q) (Nat.le_refl _) true ?_
            rw [Nat.sub_self, Bool.true_and]
            rw [rdyTo] at hE
            unfold rdyB at hE
            rw [hcs, decide_eq_false hp, Bool.not_false, Bool.and_true, hkey, Int.toNat_natCast] at hE
            cases hw : wayS l S (key : Int) (costN l.length key q) 0 with
            | true =>
              rw [hw, if_pos ⟨by omega, rfl⟩] at hE
              refine Ev.step (f := fun k => (spec_l1Put.f k (rdyTo l S q) (key : Int)).bind fun t167 => (spec_prReady.l0 k (partOf l S) (l.length : Int) t167 l (l.length : Int) ((q + 1 : Nat) : Int))) (fun k => by
                rw [spec_prReady.l1, if_neg (by omega), if_pos rfl, wrap_next (n := l.length) hq (by omega)]) ?_
              exact Ev.bind (l1Put_ev _ _ (by omega)) hE
            | false =>
              rw [hw, if_neg (fun e => by cases e.2)] at hE
              refine Ev.one hE fun k => ?_
              rw [spec_prReady.l1, if_neg (by omega), if_neg (by decide), wrap_next (n := l.length) hq (by omega)]
          · rw [spec_prReady.j1, if_neg (by decide), hkey, prCost_eq (by omega) (by omega) (by omega) hq]
            rfl
        · rw [spec_prReady.l0, if_pos (by omega), if_pos (by omega), if_pos (by omega), rd_nat, if_neg hf, if_pos (by rw [part_len]; omega), rd_nat, part_used hS hq, decide_eq_false hp]
  · rw [spec_prReady.l0, if_neg (by omega)]
end
end Go.Proofs.YteakjjimkagmkaaGreatDoor.Pure
namespace Go.Proofs.YteakjjimkagmkaaGreatDoor.Pure
open Go.RowKit Go.Proofs.YteakjjimkagmkaaGreatDoor.G Go.Proofs.YteakjjimkagmkaaGreatDoorW.PrintWords Go.Proofs.YteakjjimkagmkaaGreatDoorW.PrintLast
def fo (l : List Int) : Nat → List Int → List Int
  | 0, S => S
  | d + 1, S => match (keysZ l).filter (rdyB l S) with
    | [] => S
    | x :: _ => fo l d (S ++ [x])
theorem sub_len : ∀ (a b : List Int), a.Nodup → (∀ x ∈ a, x ∈ b) → a.length ≤ b.length
  | [], b, _, _ => by simp
  | x :: a, b, hn, hs => by
    rw [List.nodup_cons] at hn
    have hx := hs x List.mem_cons_self
    have := sub_len a (b.erase x) hn.2 (fun y hy => by
      have e : y ≠ x := fun e => hn.1 (e ▸ hy)
      exact (List.mem_erase_of_ne e).2 (hs y (List.mem_cons_of_mem _ hy)))
    rw [List.length_erase_of_mem hx] at this
    have hp := List.length_pos_of_mem hx
    rw [List.length_cons]
    omega
theorem wayS_iff (l S : List Int) (x : Int) : ∀ (c s : Nat), wayS l S x c s = true ↔ ∀ m, m < c → l.getD ((x.toNat + s + m) % l.length) 0 ∈ S
  | 0, s => by simp [wayS]
  | c + 1, s => by
    rw [wayS, Bool.and_eq_true, decide_eq_true_eq, wayS_iff l S x c (s + 1)]
    constructor
    · rintro ⟨h1, h2⟩ m hm
      cases m with
      | zero => exact h1
      | succ m => have := h2 m (by omega); rw [show x.toNat + s + (m + 1) = x.toNat + (s + 1) + m by omega]; exact this
    · intro h
      refine ⟨h 0 (by omega), fun m hm => ?_⟩
      have := h (m + 1) (by omega)
      rw [show x.toNat + (s + 1) + m = x.toNat + s + (m + 1) by omega]; exact this
theorem us_part {l S : List Int} (hS : ∀ x ∈ S, 0 ≤ x) {i : Nat} (hi : i < l.length) : TabT.us (partOf l S) i = decide (l.getD i 0 ∈ S) := by
  rw [us_of (by rw [part_len]; exact hi), part_get l S hi]
  by_cases c : l.getD i 0 ∈ S
  · rw [if_pos c, decide_eq_true c]; exact decide_eq_true (hS _ c)
  · rw [if_neg c, decide_eq_false c]; rfl
theorem some_ready {l S : List Int} (h : tblB l = true) (hS : ∀ x ∈ S, 0 ≤ x) {x : Int} (hx : x ∈ keysZ l) (hxS : x ∉ S) : (keysZ l).filter (rdyB l S) ≠ [] := by
  obtain ⟨h1, h2, h3, h4⟩ := tblB_parts h
  obtain ⟨i, hi, rfl, h0⟩ := key_at hx
  obtain ⟨j, hj1, hj2, hj3⟩ := TabT.exists_ready (p := partOf l S) (tbl_valid h) ⟨i, by rw [us_of hi]; exact decide_eq_true h0, by rw [us_part hS hi]; exact decide_eq_false hxS⟩
  have lj := TabT.us_lt hj1
  have vj := us_val hj1
  obtain ⟨key, hkey⟩ : ∃ key : Nat, l.getD j 0 = key := ⟨(l.getD j 0).toNat, by omega⟩
  have hr : rdyB l S (l.getD j 0) = true := by
    rw [rdyB, Bool.and_eq_true]
    constructor
    · rw [wayS_iff, (cst_here h lj vj).2, hkey, Int.toNat_natCast]
      intro m hm
      rw [costN_cost lj] at hm
      rw [t_g0 lj, hkey] at hj3
      have hu := hj3 m hm
      have hm2 := TabT.cost_lt lj (key : Int)
      have hcy := TabT.cy_lt (n := l.length) (i := TabT.own l.length (key : Int) + m) (by have := TabT.own_lt (n := l.length) (by omega) (key : Int); omega)
      rw [us_part hS hcy] at hu
      rw [Nat.add_zero, way_cell (by omega) (by omega)]
      exact of_decide_eq_true hu
    · rw [us_part hS lj] at hj2
      rw [hj2]; rfl
  intro e
  have : l.getD j 0 ∈ (keysZ l).filter (rdyB l S) := List.mem_filter.2 ⟨keysZ_mem.2 ⟨getD_mem lj, vj⟩, hr⟩
  rw [e] at this
  cases this
theorem idx_head (p : Int → Bool) : ∀ (ks : List Int) (i : Int), (ks.filter p = [] → idxF p ks i = -1) ∧ ∀ x r, ks.filter p = x :: r → ∃ j : Nat, idxF p ks i = i + j ∧ ks.getD j 0 = x ∧ j < ks.length
  | [], i => by simp [idxF]
  | y :: ks, i => by
    by_cases c : p y = true
    · refine ⟨fun e => by simp [c] at e, fun x r e => ?_⟩
      rw [List.filter_cons_of_pos c] at e
      exact ⟨0, by rw [idxF, if_pos c]; simp, by simpa using (List.cons.inj e).1, by simp⟩
    · obtain ⟨h1, h2⟩ := idx_head p ks (i + 1)
      rw [List.filter_cons_of_neg c, idxF, if_neg c]
      refine ⟨h1, fun x r e => ?_⟩
      obtain ⟨j, e1, e2, e3⟩ := h2 x r e
      exact ⟨j + 1, by rw [e1]; omega, by simpa using e2, by simpa using e3⟩
structure Done (l S : List Int) : Prop where
  mem : ∀ x ∈ S, x ∈ keysZ l
  nodup : S.Nodup
theorem Done.nonneg {l S : List Int} (D : Done l S) : ∀ x ∈ S, 0 ≤ x := fun x hx => (keysZ_mem.1 (D.mem x hx)).2
theorem Done.le {l S : List Int} (D : Done l S) : S.length ≤ (keysZ l).length := sub_len _ _ D.nodup D.mem
theorem Done.snoc {l S : List Int} (D : Done l S) {x : Int} {r : List Int} (e : (keysZ l).filter (rdyB l S) = x :: r) : Done l (S ++ [x]) ∧ x ∈ keysZ l ∧ x ∉ S := by
  have hx : x ∈ (keysZ l).filter (rdyB l S) := by rw [e]; exact List.mem_cons_self
  obtain ⟨h1, h2⟩ := List.mem_filter.1 hx
  have h3 : x ∉ S := by
    rw [rdyB, Bool.and_eq_true] at h2
    simpa using h2.2
  refine ⟨⟨fun y hy => ?_, ?_⟩, h1, h3⟩
  · rcases List.mem_append.1 hy with hy | hy
    · exact D.mem y hy
    · rw [List.mem_singleton.1 hy]; exact h1
  · rw [List.nodup_append]
    exact ⟨D.nodup, by simp, fun a ha b hb e => h3 (by rw [List.mem_singleton] at hb; rw [← hb, ← e]; exact ha)⟩
theorem Done.nil (l : List Int) : Done l [] := ⟨by simp, by simp⟩
theorem fo_done {l : List Int} : ∀ (d : Nat) (S : List Int), Done l S → Done l (fo l d S)
  | 0, S, D => D
  | d + 1, S, D => by
    rw [fo]
    split
    · exact D
    · rename_i x r e
      exact fo_done d _ (D.snoc e).1
theorem all_done {l S : List Int} (h : tblB l = true) (D : Done l S) (hl : S.length = (keysZ l).length) : (keysZ l).filter (rdyB l S) = [] := by
  cases e : (keysZ l).filter (rdyB l S) with
  | nil => rfl
  | cons x r =>
    have := (D.snoc e).1.le
    rw [List.length_append, List.length_singleton] at this
    omega
theorem not_done {l S : List Int} (h : tblB l = true) (D : Done l S) (hl : S.length < (keysZ l).length) : (keysZ l).filter (rdyB l S) ≠ [] := by
  by_cases c : ∃ x, x ∈ keysZ l ∧ x ∉ S
  · obtain ⟨x, h1, h2⟩ := c
    exact some_ready h D.nonneg h1 h2
  · have hn := (keysZ_perm l).nodup_iff.mpr (filter_nodup (tbl_dist h))
    have := sub_len (keysZ l) S hn (fun x hx => by
      by_cases c2 : x ∈ S
      · exact c2
      · exact absurd ⟨x, hx, c2⟩ c)
    omega
theorem firstGo_eq {l : List Int} (h : tblB l = true) : ∀ (d : Nat) (S : List Int), Done l S → S.length + d = (keysZ l).length → firstGo l (keysZ l) d S = some (fo l d S)
  | 0, S, D, hl => rfl
  | d + 1, S, D, hl => by
    have hne := not_done h D (by omega)
    rw [firstGo, fo]
    cases e : (keysZ l).filter (rdyB l S) with
    | nil => exact absurd e hne
    | cons x r =>
      obtain ⟨j, e1, e2, e3⟩ := (idx_head (rdyB l S) (keysZ l) 0).2 x r e
      have e4 : idxF (comesF l S) (keysZ l) 0 = (j : Int) := by rw [show comesF l S = rdyB l S from rfl, e1]; omega
      rw [e4, if_pos (by omega), rd_nat, e2]
      exact firstGo_eq h d _ (D.snoc e).1 (by rw [List.length_append, List.length_singleton]; omega)
theorem first_f {l : List Int} (h : tblB l = true) : impl_Table_first.f l = some (fo l (keysZ l).length []) := by
  obtain ⟨h1, h2, h3, h4⟩ := tblB_parts h
  unfold impl_Table_first.f
  rw [if_pos ⟨by omega, by omega, cells_okB h, keys_okB h⟩]
  exact firstGo_eq h _ _ (Done.nil l) (by simp)
theorem prPlace_ev (l : List Int) (a : Int) (hn : l.length ≤ 4611686018427387904) : Ev (fun k => spec_prPlace.f k l a) (ixF l a l.length 0) := by
  unfold spec_prPlace.f
  exact place_l0 l a hn l.length 0 (by omega)
theorem part_set {l S : List Int} (h : tblB l = true) {i : Nat} (hi : i < l.length) (h0 : 0 ≤ l.getD i 0) : (partOf l S).set i (l.getD i 0) = partOf l (S ++ [l.getD i 0]) := by
  refine List.ext_getElem (by simp [partOf]) (fun j hj1 hj2 => ?_)
  have hj : j < l.length := by rw [part_len] at hj2; exact hj2
  have e1 : (partOf l (S ++ [l.getD i 0]))[j] = if l.getD j 0 ∈ S ++ [l.getD i 0] then l.getD j 0 else -1 := by
    rw [← part_get l _ hj, getD_get hj2]
  have e2 : (partOf l S)[j]'(by rw [part_len]; exact hj) = if l.getD j 0 ∈ S then l.getD j 0 else -1 := by
    rw [← part_get l _ hj, getD_get (by rw [part_len]; exact hj)]
  rw [List.getElem_set, e1, e2]
  by_cases c : i = j
  · subst c
    rw [if_pos rfl, if_pos (by simp)]
  · rw [if_neg c]
    have hd : l.getD j 0 ≠ l.getD i 0 := fun e => by
      rcases Nat.lt_or_ge i j with q | q
      · exact tbl_dist h i j q hj h0 e.symm
      · exact tbl_dist h j i (by omega) hi (by rw [e]; exact h0) e
    simp only [List.mem_append, List.mem_singleton, hd, or_false]
theorem prFirst_l0 {l : List Int} (h : tblB l = true) : ∀ (d : Nat) (S : List Int), Done l S → S.length + d = (keysZ l).length → Ev (fun k => spec_prFirst.l0 k (partOf l S) S ((keysZ l).filter (rdyB l S)) l) (fo l d S) := by
  obtain ⟨h1, h2, h3, h4⟩ := tblB_parts h
  intro d
  induction d with
  | zero =>
    intro S D hl
    rw [all_done h D (by omega)]
    exact Ev.end_ fun k => by rw [spec_prFirst.l0, if_neg (by simp)]; rfl
  | succ d ih =>
    intro S D hl
    rw [fo]
    cases e : (keysZ l).filter (rdyB l S) with
    | nil => exact Ev.end_ fun k => by rw [spec_prFirst.l0, if_neg (by simp)]
    | cons x r =>
      obtain ⟨D2, hx, hxS⟩ := D.snoc e
      obtain ⟨i, hi, rfl, h0⟩ := key_at hx
      have hle := D.le
      have hkl := keysZ_len l
      refine Ev.step (f := fun k => (spec_prPlace.f k l (l.getD i 0)).bind fun t180 => (if 0 ≤ t180 then (if t180 < ((partOf l S).length : Int) then ((some ((partOf l S).set (t180 : Int).toNat (l.getD i 0) : List Int)).bind fun y182 => (if S.length < 17592186044416 then ((spec_prReady.f k l y182).bind fun t187 => (spec_prFirst.l0 k y182 (S ++ [l.getD i 0]) t187 l)) else (none))) else (none)) else (none))) (fun k => by
        rw [spec_prFirst.l0, if_pos (by simp), if_pos (by simp)]
        rfl) ?_
      refine Ev.bind (prPlace_ev l _ (by omega)) ?_
      rw [ix_here h hi h0]
      simp only [if_pos (show (0 : Int) ≤ (i : Int) by omega), if_pos (show (i : Int) < ((partOf l S).length : Int) by rw [part_len]; omega), Int.toNat_natCast, Option.bind_some, part_set h hi h0, if_pos (show S.length < 17592186044416 by omega)]
      refine Ev.bind (prReady_ev h D2.nonneg) ?_
      rw [rdy_filter h]
      exact ih _ D2 (by rw [List.length_append, List.length_singleton]; omega)
theorem prFirst_ev {l : List Int} (h : tblB l = true) : Ev (fun k => spec_prFirst.f k l) (fo l (keysZ l).length []) := by
  obtain ⟨h1, h2, h3, h4⟩ := tblB_parts h
  unfold spec_prFirst.f
  refine Ev.bind (t_prEmpty_ev l.length (by omega)) ?_
  rw [← part_nil l]
  refine Ev.bind (prReady_ev h (by simp)) ?_
  rw [rdy_filter h]
  exact prFirst_l0 h _ _ (Done.nil l) (by simp)
end Go.Proofs.YteakjjimkagmkaaGreatDoor.Pure
namespace Go.Proofs.YteakjjimkagmkaaGreatDoor.Pure
open Go.RowKit Go.Proofs.YteakjjimkagmkaaGreatDoor.G Go.Proofs.YteakjjimkagmkaaGreatDoorW.PrintWords Go.Proofs.YteakjjimkagmkaaGreatDoorW.PrintLast Go.Proofs.YteakjjimkagmkaaGreatDoorW.PrintMore
set_option linter.unusedSectionVars false
theorem part_part (l S : List Int) (hS : ∀ x ∈ S, 0 ≤ x) : TabT.Part (partOf l S) l := by
  refine ⟨part_len l S, fun i hi => ?_⟩
  have hl := TabT.us_lt hi
  rw [part_len] at hl
  rw [us_part hS hl] at hi
  have hm := of_decide_eq_true hi
  refine ⟨by rw [us_of hl]; exact decide_eq_true (hS _ hm), ?_⟩
  rw [t_g0 (by rw [part_len]; exact hl), t_g0 hl, part_get l S hl, if_pos hm]
theorem rdy_ready {l S : List Int} (h : tblB l = true) (hS : ∀ x ∈ S, 0 ≤ x) {i : Nat} (hi : i < l.length) (h0 : 0 ≤ l.getD i 0) (hr : rdyB l S (l.getD i 0) = true) : TabT.Ready l (partOf l S) i := by
  obtain ⟨h1, h2, h3, h4⟩ := tblB_parts h
  rw [rdyB, Bool.and_eq_true] at hr
  obtain ⟨key, hkey⟩ : ∃ key : Nat, l.getD i 0 = key := ⟨(l.getD i 0).toNat, by omega⟩
  refine ⟨by rw [us_of hi]; exact decide_eq_true h0, by rw [us_part hS hi]; simpa using hr.2, fun m hm => ?_⟩
  have hw := hr.1
  rw [wayS_iff, (cst_here h hi h0).2, hkey, Int.toNat_natCast, costN_cost hi] at hw
  rw [t_g0 hi, hkey] at hm ⊢
  have hm2 := TabT.cost_lt hi (key : Int)
  have := hw m hm
  rw [Nat.add_zero, way_cell (by omega) (by omega)] at this
  have hcy := TabT.cy_lt (n := l.length) (i := TabT.own l.length (key : Int) + m) (by have := TabT.own_lt (n := l.length) (by omega) (key : Int); omega)
  rw [us_part hS hcy]
  exact decide_eq_true this
theorem ins_part {l S : List Int} (h : tblB l = true) (hS : ∀ x ∈ S, 0 ≤ x) {i : Nat} (hi : i < l.length) (h0 : 0 ≤ l.getD i 0) (hr : rdyB l S (l.getD i 0) = true) : TabT.ins (partOf l S) (l.getD i 0) = partOf l (S ++ [l.getD i 0]) := by
  have hp := TabT.ready_pos (part_part l S hS) (rdy_ready h hS hi h0 hr)
  rw [t_g0 hi] at hp
  rw [TabT.ins, hp, part_set h hi h0]
theorem fo_order {l : List Int} (h : tblB l = true) : ∀ (d : Nat) (S : List Int), Done l S → S.length + d = (keysZ l).length → ∃ R, fo l d S = S ++ R ∧ TabT.insAll (partOf l S) R = l
  | 0, S, D, hl => by
    refine ⟨[], by simp [fo], ?_⟩
    have hall : ∀ x ∈ keysZ l, x ∈ S := by
      intro x hx
      by_cases c : x ∈ S
      · exact c
      · have := sub_len (x :: S) (keysZ l) (List.nodup_cons.2 ⟨c, D.nodup⟩) (fun y hy => by
          rcases List.mem_cons.1 hy with rfl | hy
          · exact hx
          · exact D.mem y hy)
        rw [List.length_cons] at this
        omega
    show partOf l S = l
    refine List.ext_getElem (part_len l S) (fun i h1 h2 => ?_)
    have hv := (tblB_parts h).2.2.1 i h2
    rw [← getD_get h1, ← getD_get h2, part_get l S h2]
    by_cases c : l.getD i 0 ∈ S
    · rw [if_pos c]
    · rw [if_neg c]
      by_cases q : 0 ≤ l.getD i 0
      · exact absurd (hall _ (keysZ_mem.2 ⟨getD_mem h2, q⟩)) c
      · omega
  | d + 1, S, D, hl => by
    have hne := not_done h D (by omega)
    rw [fo]
    cases e : (keysZ l).filter (rdyB l S) with
    | nil => exact absurd e hne
    | cons x r =>
      obtain ⟨D2, hx, hxS⟩ := D.snoc e
      have hr : rdyB l S x = true := (List.mem_filter.1 (by rw [e]; exact List.mem_cons_self : x ∈ (keysZ l).filter (rdyB l S))).2
      obtain ⟨i, hi, rfl, h0⟩ := key_at hx
      obtain ⟨R, r1, r2⟩ := fo_order h d _ D2 (by rw [List.length_append, List.length_singleton]; omega)
      refine ⟨l.getD i 0 :: R, (show fo l d (S ++ [l.getD i 0]) = S ++ l.getD i 0 :: R by rw [r1]; simp), ?_⟩
      show TabT.insAll (TabT.ins (partOf l S) (l.getD i 0)) R = l
      rw [ins_part h D.nonneg hi h0 hr]
      exact r2
theorem order_makes {l : List Int} (h : tblB l = true) : TabT.insAll (TabT.empty l.length) (fo l (keysZ l).length []) = l := by
  obtain ⟨R, r1, r2⟩ := fo_order h (keysZ l).length [] (Done.nil l) (by simp)
  rw [r1, List.nil_append, ← part_nil l]
  exact r2
end Go.Proofs.YteakjjimkagmkaaGreatDoor.Pure
namespace Go.Proofs.YteakjjimkagmkaaGreatDoor.G
def splA : List UInt8 → List UInt8 → List (List UInt8)
  | cur, [] => [cur]
  | cur, c :: r => if c = 32 then cur :: splA [] r else splA (cur ++ [c]) r
theorem splA_ne (cur l : List UInt8) : splA cur l ≠ [] := by
  induction l generalizing cur with
  | nil => simp [splA]
  | cons c r ih => rw [splA]; split <;> simp [ih]
theorem splA_len (cur l : List UInt8) : (splA cur l).length ≤ l.length + 1 := by
  induction l generalizing cur with
  | nil => simp [splA]
  | cons c r ih =>
    rw [splA]
    split
    · have := ih []; simp only [List.length_cons]; omega
    · have := ih (cur ++ [c]); simp only [List.length_cons]; omega
theorem splA_sub (cur l : List UInt8) : ∀ w ∈ splA cur l, w.length ≤ cur.length + l.length := by
  induction l generalizing cur with
  | nil => intro w hw; simp [splA] at hw; subst hw; omega
  | cons c r ih =>
    intro w hw
    rw [splA] at hw
    split at hw
    · rcases List.mem_cons.1 hw with rfl | hw
      · omega
      · have := ih [] w hw; simp only [List.length_cons, List.length_nil] at *; omega
    · have := ih (cur ++ [c]) w hw; simp only [List.length_cons, List.length_append, List.length_nil] at *; omega
theorem join_two (x y : List UInt8) (r : List (List UInt8)) (sep : List UInt8) : Lib.join (x :: y :: r) sep = x ++ sep ++ Lib.join (y :: r) sep := by
  rw [Lib.join_cons, Lib.join_cons]
  simp [Lib.joinTail]
theorem splA_join (cur l : List UInt8) : Lib.join (splA cur l) [32] = cur ++ l := by
  induction l generalizing cur with
  | nil => simp [splA, Lib.join_one]
  | cons c r ih =>
    rw [splA]
    split
    · rename_i h
      subst h
      have h := ih []
      cases e : splA [] r with
      | nil => exact absurd e (splA_ne _ _)
      | cons y t =>
        rw [e] at h
        rw [join_two, h]
        simp
    · rw [ih]
      simp
theorem splA_word (cur w : List UInt8) (hw : ∀ c ∈ w, c ≠ 32) (r : List UInt8) : splA cur (w ++ r) = splA (cur ++ w) r := by
  induction w generalizing cur with
  | nil => simp
  | cons c w ih =>
    rw [List.cons_append, splA, if_neg (hw c List.mem_cons_self), ih _ (fun c h => hw c (List.mem_cons_of_mem _ h))]
    simp
theorem splA_of_join : ∀ (ws : List (List UInt8)) (w : List UInt8), (∀ x ∈ w :: ws, ∀ c ∈ x, c ≠ 32) → splA [] (Lib.join (w :: ws) [32]) = w :: ws
  | [], w, h => by
    rw [Lib.join_one]
    have := splA_word [] w (h w (by simp)) []
    simpa [splA] using this
  | v :: ws, w, h => by
    rw [join_two, List.append_assoc, splA_word [] w (h w (by simp)), List.singleton_append, splA, if_pos rfl, splA_of_join ws v (fun x hx => h x (List.mem_cons_of_mem _ hx))]
    simp
theorem index_nil (c : UInt8) : Lib.index [] [c] = -1 := by simp [Lib.index]
theorem index_eq (c : UInt8) (l : List UInt8) : Lib.index (c :: l) [c] = 0 := by rw [Lib.index]; simp [List.isPrefixOf]
theorem index_ne (b c : UInt8) (l : List UInt8) (h : b ≠ c) : Lib.index (b :: l) [c] = if Lib.index l [c] == -1 then -1 else Lib.index l [c] + 1 := by
  have hp : ([c] : List UInt8).isPrefixOf (b :: l) = false := by simp [List.isPrefixOf, Ne.symm h]
  rw [Lib.index, hp]; simp
theorem splA_miss : ∀ (l cur : List UInt8), Lib.index l [32] = -1 → splA cur l = [cur ++ l]
  | [], cur, _ => by simp [splA]
  | c :: r, cur, h => by
    by_cases hc : c = 32
    · subst hc; rw [index_eq] at h; omega
    · rw [index_ne c 32 r hc] at h
      have hr : Lib.index r [32] = -1 := by
        by_cases e : Lib.index r [32] = -1
        · exact e
        · rw [if_neg (by simpa using e)] at h
          have := Lib.index_ge r [32]
          omega
      rw [splA, if_neg hc, splA_miss r _ hr]
      simp
theorem splA_hit : ∀ (l cur : List UInt8) (i : Nat), Lib.index l [32] = i → splA cur l = (cur ++ l.take i) :: splA [] (l.drop (i + 1))
  | [], cur, i, h => by rw [index_nil] at h; omega
  | c :: r, cur, i, h => by
    by_cases hc : c = 32
    · subst hc
      rw [index_eq] at h
      obtain rfl : i = 0 := by omega
      rw [splA, if_pos rfl]
      simp
    · rw [index_ne c 32 r hc] at h
      by_cases e : Lib.index r [32] = -1
      · rw [if_pos (by simpa using e)] at h; omega
      · rw [if_neg (by simpa using e)] at h
        have := Lib.index_ge r [32]
        obtain ⟨j, rfl⟩ : ∃ j, i = j + 1 := ⟨i - 1, by omega⟩
        rw [splA, if_neg hc, splA_hit r _ j (by omega)]
        simp
theorem splitK_splA : ∀ (k : Nat) (l : List UInt8), Lib.count l [32] = k → Lib.splitK [32] 0 k l = splA [] l
  | 0, l, h => by
    rw [Lib.splitK]
    by_cases e : Lib.index l [32] = -1
    · rw [splA_miss l [] e]; simp
    · have := Lib.index_ge l [32]
      obtain ⟨i, hi⟩ : ∃ i : Nat, Lib.index l [32] = i := ⟨(Lib.index l [32]).toNat, by omega⟩
      rw [Lib.count_hit (by simp) hi] at h
      omega
  | k + 1, l, h => by
    rw [Lib.splitK]
    by_cases e : Lib.index l [32] = -1
    · rw [Lib.count_miss e] at h; omega
    · have := Lib.index_ge l [32]
      obtain ⟨i, hi⟩ : ∃ i : Nat, Lib.index l [32] = i := ⟨(Lib.index l [32]).toNat, by omega⟩
      rw [Lib.count_hit (by simp) hi] at h
      rw [if_neg (by simpa using e), hi, Int.toNat_natCast, splA_hit l [] i hi, Nat.add_zero, List.nil_append]
      simp only [List.length_singleton] at h ⊢
      rw [splitK_splA k _ (by omega)]
theorem bytes_ext {a b : ByteArray} (h : a.data.toList = b.data.toList) : a = b := by
  obtain ⟨⟨a⟩⟩ := a
  obtain ⟨⟨b⟩⟩ := b
  simpa using h
def mkB (l : List UInt8) : ByteArray := ⟨l.toArray⟩
theorem mkB_data (l : List UInt8) : (mkB l).data.toList = l := by simp [mkB]
theorem splitB_splA (s : ByteArray) : Lib.splitB ⟨#[32]⟩ 0 (Lib.countB s ⟨#[32]⟩) s = (splA [] s.data.toList).map mkB := by
  have h := Lib.splitB_data ⟨#[32]⟩ 0 (Lib.countB s ⟨#[32]⟩) s
  rw [show (⟨#[32]⟩ : ByteArray).data.toList = [32] from rfl, splitK_splA _ _ rfl] at h
  have inj : ∀ (a : List ByteArray) (b : List (List UInt8)), a.map (·.data.toList) = b → a = b.map mkB := by
    intro a
    induction a with
    | nil => intro b h; cases b with
      | nil => rfl
      | cons _ _ => simp at h
    | cons x a ih =>
      intro b h
      cases b with
      | nil => simp at h
      | cons y b =>
        simp only [List.map_cons, List.cons.injEq] at h ⊢
        exact ⟨bytes_ext (by rw [h.1, mkB_data]), ih b h.2⟩
  exact inj _ _ h
theorem dig_toNat {d : Nat} (h : d < 10) : (UInt8.ofNat (48 + d)).toNat = 48 + d := by
  rw [UInt8.toNat_ofNat']
  omega
theorem dec_lt {n : Nat} (h : n < 1000) : (n < 10 ∧ Lib.decDigits n = [UInt8.ofNat (48 + n)]) ∨ (10 ≤ n ∧ n < 100 ∧ Lib.decDigits n = [UInt8.ofNat (48 + n / 10), UInt8.ofNat (48 + n % 10)]) ∨
    (100 ≤ n ∧ Lib.decDigits n = [UInt8.ofNat (48 + n / 100), UInt8.ofNat (48 + n / 10 % 10), UInt8.ofNat (48 + n % 10)]) := by
  by_cases h1 : n < 10
  · exact .inl ⟨h1, Lib.decDigits_one h1⟩
  · by_cases h2 : n < 100
    · exact .inr (.inl ⟨by omega, h2, Lib.decDigits_two h1 h2⟩)
    · refine .inr (.inr ⟨by omega, ?_⟩)
      rw [Lib.decDigits, dif_neg h1, Lib.decDigits_two (by omega) (by omega), Nat.div_div_eq_div_mul]
      rfl
theorem dec_digit {n : Nat} (h : n < 1000) : ∀ c ∈ Lib.decDigits n, 48 ≤ c.toNat ∧ c.toNat ≤ 57 := by
  have d1 := dig_toNat (d := n % 10) (by omega)
  rcases dec_lt h with ⟨h1, e⟩ | ⟨h1, h2, e⟩ | ⟨h1, e⟩ <;> rw [e] <;> intro c hc <;> simp only [List.mem_cons, List.mem_nil_iff, or_false] at hc
  · subst hc; rw [dig_toNat h1]; omega
  · rcases hc with rfl | rfl
    · rw [dig_toNat (by omega)]; omega
    · rw [d1]; omega
  · rcases hc with rfl | rfl | rfl
    · rw [dig_toNat (by omega)]; omega
    · rw [dig_toNat (by omega)]; omega
    · rw [d1]; omega
theorem dec_len {n : Nat} (h : n < 1000) : 1 ≤ (Lib.decDigits n).length ∧ (Lib.decDigits n).length ≤ 3 := by
  rcases dec_lt h with ⟨h1, e⟩ | ⟨h1, h2, e⟩ | ⟨h1, e⟩ <;> rw [e] <;> simp
def valG : List UInt8 → Int → Int
  | [], n => n
  | c :: r, n => if c.toNat < 48 ∨ 57 < c.toNat then -1 else valG r (10 * n + ((c.toNat - 48 : Nat) : Int))
/-- What the reference reads. -/
def rdV (w : List UInt8) : Int := if 1 ≤ w.length ∧ w.length ≤ 6 ∧ ¬ (w.head? = some 48 ∧ 1 < w.length) then valG w 0 else -1
theorem valG_digits {w : List UInt8} (h : ∀ c ∈ w, 48 ≤ c.toNat ∧ c.toNat ≤ 57) (n : Nat) : valG w n = ((w.foldl (fun a c => 10 * a + (c.toNat - 48)) n : Nat) : Int) := by
  induction w generalizing n with
  | nil => rfl
  | cons c r ih =>
    have hc := h c List.mem_cons_self
    rw [valG, if_neg (by omega), List.foldl_cons, ← ih (fun c hc => h c (List.mem_cons_of_mem _ hc))]
    congr 1
theorem dec_fold {n : Nat} (h : n < 1000) : (Lib.decDigits n).foldl (fun a c => 10 * a + (c.toNat - 48)) 0 = n := by
  have d1 := dig_toNat (d := n % 10) (by omega)
  rcases dec_lt h with ⟨h1, e⟩ | ⟨h1, h2, e⟩ | ⟨h1, e⟩ <;> rw [e]
  · simp only [List.foldl_cons, List.foldl_nil, dig_toNat h1]; omega
  · simp only [List.foldl_cons, List.foldl_nil, d1, dig_toNat (show n / 10 < 10 by omega)]; omega
  · simp only [List.foldl_cons, List.foldl_nil, d1, dig_toNat (show n / 100 < 10 by omega), dig_toNat (show n / 10 % 10 < 10 by omega)]; omega
theorem ofNat48 {d : Nat} (h : d < 10) (e : UInt8.ofNat (48 + d) = 48) : d = 0 := by
  have := congrArg UInt8.toNat e
  rw [dig_toNat h] at this
  have : (48 : UInt8).toNat = 48 := rfl
  omega
theorem rdV_dec {n : Nat} (h : n < 1000) : rdV (Lib.decDigits n) = n := by
  have hl := dec_len h
  have hn : ¬ ((Lib.decDigits n).head? = some 48 ∧ 1 < (Lib.decDigits n).length) := by
    rintro ⟨a, b⟩
    rcases dec_lt h with ⟨h1, e⟩ | ⟨h1, h2, e⟩ | ⟨h1, e⟩ <;> rw [e] at a b
    · simp at b
    · simp only [List.head?_cons, Option.some.injEq] at a
      have := ofNat48 (by omega) a
      omega
    · simp only [List.head?_cons, Option.some.injEq] at a
      have := ofNat48 (by omega) a
      omega
  rw [rdV, if_pos ⟨hl.1, by omega, hn⟩]
  have := valG_digits (dec_digit h) 0
  rw [dec_fold h] at this
  exact this
theorem parse_dec : ∀ (w : List UInt8) (n : Nat), (∀ c ∈ w, 48 ≤ c.toNat ∧ c.toNat ≤ 57) → w.length ≤ 3 → n < 1000000 → Lib.parseUint10 n w = .ok (w.foldl (fun a c => 10 * a + (c.toNat - 48)) n)
  | [], n, _, _, _ => rfl
  | c :: r, n, h, hl, hn => by
    have hc := h c List.mem_cons_self
    have go : ∀ (w : List UInt8) (n : Nat) (B : Nat), (∀ c ∈ w, 48 ≤ c.toNat ∧ c.toNat ≤ 57) → n < B → B * 10 ^ w.length ≤ 1000000000 → Lib.parseUint10 n w = .ok (w.foldl (fun a c => 10 * a + (c.toNat - 48)) n) := by
      intro w
      induction w with
      | nil => intro n B _ _ _; rfl
      | cons c r ih =>
        intro n B h hn hB
        have hc := h c List.mem_cons_self
        have hp : 1 ≤ 10 ^ r.length := Nat.one_le_pow _ _ (by omega)
        have hB2 : B * 10 * 10 ^ r.length ≤ 1000000000 := by rw [List.length_cons, Nat.pow_succ] at hB; rw [Nat.mul_assoc, Nat.mul_comm 10]; exact hB
        have hB3 : B * 10 ≤ 1000000000 := Nat.le_trans (Nat.le_mul_of_pos_right _ hp) hB2
        rw [Lib.parseUint10, if_pos hc, if_neg (by omega), if_neg (by omega), List.foldl_cons, Nat.mul_comm n 10]
        exact ih _ (B * 10) (fun c hc => h c (List.mem_cons_of_mem _ hc)) (by omega) hB2
    refine go (c :: r) n 1000000 h hn ?_
    have : 10 ^ (c :: r).length ≤ 10 ^ 3 := Nat.pow_le_pow_right (by omega) hl
    omega
theorem atoi_dec {n : Nat} (h : n < 1000) : Lib.atoiAll (Lib.decDigits n) = .ok (n : Int) := by
  have hd := dec_digit h
  have hl := dec_len h
  have hp := parse_dec (Lib.decDigits n) 0 hd hl.2 (by omega)
  rw [dec_fold h] at hp
  cases e : Lib.decDigits n with
  | nil => rw [e] at hl; simp at hl
  | cons c r =>
    have hc := hd c (by rw [e]; exact List.mem_cons_self)
    have h1 : ¬ (c.toNat = 43 ∨ c.toNat = 45) := by omega
    have hm : Lib.parseMag (if c.toNat = 43 ∨ c.toNat = 45 then r else c :: r) = .ok n := by
      rw [if_neg h1, Lib.parseMag, if_neg (by simp), ← e, hp]
    unfold Lib.atoiAll
    simp only [hm]
    rw [if_neg (by omega), if_neg (by omega), if_neg (by omega)]
theorem itoa_dec (n : Nat) : Lib.itoa (n : Int) = Lib.decDigits n := by
  rw [Lib.itoa, if_neg (by omega), Int.toNat_natCast]
end Go.Proofs.YteakjjimkagmkaaGreatDoor.G
namespace Go.Proofs.YteakjjimkagmkaaGreatDoor.G
open Go.RowKit Go.Proofs.YteakjjimkagmkaaGreatDoorW.PrintWords Go.Proofs.YteakjjimkagmkaaGreatDoorW.PrintLast Go.Proofs.YteakjjimkagmkaaGreatDoorW.PrintMore
theorem mkB_size (l : List UInt8) : (mkB l).size = l.length := by simp [mkB, ByteArray.size]
theorem mkB_append (a b : List UInt8) : mkB a ++ mkB b = mkB (a ++ b) := bytes_ext (by rw [mkB_data, ByteArray.data_append, Array.toList_append, mkB_data, mkB_data])
theorem mkB_toList (l : List UInt8) : (mkB l).toList = l := by rw [ByteArray.toList_eq]; exact mkB_data l
theorem bt_get (s : ByteArray) (i : Nat) : bt s (i : Int) = ((s.data.toList.getD i 0).toNat : Int) := by
  unfold bt
  rw [Int.toNat_natCast]
  split
  · rename_i h
    have h' : i < s.data.toList.length := by rw [data_length]; exact h
    rw [List.getD_eq_getElem?_getD, List.getElem?_eq_getElem h']
    simp
    rfl
  · rename_i h
    have h' : ¬ i < s.data.toList.length := by rw [data_length]; exact h
    rw [List.getD_eq_getElem?_getD, List.getElem?_eq_none (by omega)]
    rfl
theorem l1Num_ev : ∀ (n : Nat), n < 1000 → Ev (fun k => spec_l1Num.f k (n : Int)) (mkB (Lib.decDigits n)) := by
  intro n
  induction n using Nat.strongRecOn with
  | _ n ih =>
    intro hn
    have one : ∀ d : Nat, d < 10 → strOfNums [wrap64 (48 + (d : Int)) % 256] = mkB [UInt8.ofNat (48 + d)] := fun d hd => by
      rw [wrap_id (by omega) (by omega)]
      refine bytes_ext ?_
      rw [strOfNums_data, mkB_data, List.map_singleton, show ((48 + (d : Int)) % 256).toNat = 48 + d by omega]
    by_cases h : n < 10
    · refine Ev.end_ fun k => ?_
      rw [spec_l1Num.f, if_pos (by omega), one n h, Lib.decDigits_one h]
    · have e1 : Int.tdiv (n : Int) 10 = ((n / 10 : Nat) : Int) := (Int.ofNat_tdiv n 10).symm
      have e2 : Int.tmod (n : Int) 10 = ((n % 10 : Nat) : Int) := (Int.ofNat_tmod n 10).symm
      refine Ev.step (f := fun k => (spec_l1Num.f k ((n / 10 : Nat) : Int)).bind fun t => (if t.size + (mkB [UInt8.ofNat (48 + n % 10)]).size ≤ 9223372036854775807 then (some (t ++ mkB [UInt8.ofNat (48 + n % 10)])) else (none))) (fun k => by
        rw [spec_l1Num.f, if_neg (by omega), e1, e2, wrap_id (x := ((n / 10 : Nat) : Int)) (by omega) (by omega)]
        simp only [Option.bind_some, one (n % 10) (by omega)]) ?_
      refine Ev.bind (ih (n / 10) (by omega) (by omega)) ?_
      have hl := dec_len (n := n / 10) (by omega)
      have hc : ((mkB (Lib.decDigits (n / 10))).size + (mkB [UInt8.ofNat (48 + n % 10)]).size ≤ 9223372036854775807) = True := eq_true (by rw [mkB_size, mkB_size]; simp; omega)
      simp only [hc, if_true, mkB_append]
      rw [show Lib.decDigits n = Lib.decDigits (n / 10) ++ [UInt8.ofNat (48 + n % 10)] by rw [Lib.decDigits, dif_neg h]]
      exact Ev.now _
def cellT (x : Int) : List UInt8 := if x < 0 then [46] else Lib.decDigits x.toNat
def textL (l : List Int) : List UInt8 := Lib.join (l.map cellT) [32]
def CellR (l : List Int) : Prop := ∀ x ∈ l, -1 ≤ x ∧ x ≤ 999
theorem cellT_len {x : Int} (h : -1 ≤ x ∧ x ≤ 999) : (cellT x).length ≤ 3 := by
  unfold cellT
  split
  · simp
  · exact (dec_len (n := x.toNat) (by omega)).2
theorem join_snoc : ∀ (xs : List (List UInt8)) (y sep : List UInt8), xs ≠ [] → Lib.join (xs ++ [y]) sep = Lib.join xs sep ++ sep ++ y
  | [], _, _, h => absurd rfl h
  | [x], y, sep, _ => by rw [List.singleton_append, join_two, Lib.join_one, Lib.join_one]
  | x :: z :: r, y, sep, _ => by
    rw [List.cons_append, List.cons_append, join_two, ← List.cons_append, join_snoc (z :: r) y sep (by simp), join_two]
    simp
theorem text_snoc {l : List Int} (h : l ≠ []) (x : Int) : textL (l ++ [x]) = textL l ++ [32] ++ cellT x := by
  unfold textL
  rw [List.map_append, List.map_singleton, join_snoc _ _ _ (by simpa using h)]
theorem text_one (x : Int) : textL [x] = cellT x := by unfold textL; rw [List.map_singleton, Lib.join_one]
theorem tk_snoc {l : List Int} {i : Nat} (h : i < l.length) : l.take (i + 1) = l.take i ++ [l.getD i 0] := by
  rw [List.take_succ_eq_append_getElem h, List.getD_eq_getElem?_getD, List.getElem?_eq_getElem h]
  rfl
theorem text_len : ∀ (i : Nat) {l : List Int}, CellR l → i ≤ l.length → (textL (l.take i)).length ≤ 4 * i
  | 0, l, _, _ => by simp [textL, Lib.join_nil]
  | i + 1, l, h, hi => by
    have hc := cellT_len (h (l.getD i 0) (by rw [List.getD_eq_getElem?_getD, List.getElem?_eq_getElem (by omega)]; exact List.getElem_mem _))
    rw [tk_snoc (by omega)]
    cases e : l.take i with
    | nil =>
      rw [List.nil_append, text_one]; omega
    | cons a r =>
      rw [← e, text_snoc (by rw [e]; simp), List.length_append, List.length_append, List.length_singleton]
      have := text_len i h (by omega)
      omega
theorem cellR_get {l : List Int} (h : CellR l) {i : Nat} (hi : i < l.length) : -1 ≤ l.getD i 0 ∧ l.getD i 0 ≤ 999 := h _ (by rw [List.getD_eq_getElem?_getD, List.getElem?_eq_getElem hi]; exact List.getElem_mem _)
theorem prText_ev {l : List Int} (h : CellR l) (hn : l.length ≤ 1000) : Ev (fun k => spec_prText.f k l) (mkB (textL l)) := by
  unfold spec_prText.f
  have loop : ∀ (d i : Nat), i + d = l.length → Ev (fun k => spec_prText.l0 k (mkB (textL (l.take i))) l (l.length : Int) (i : Int)) (mkB (textL l)) := by
    intro d
    induction d with
    | zero =>
      intro i hi
      exact Ev.end_ fun k => by rw [spec_prText.l0, if_neg (by omega), List.take_of_length_le (by omega)]
    | succ d ih =>
      intro i hi
      have hlt : i < l.length := by omega
      have ih1 := ih (i + 1) (by omega)
      have hr := cellR_get h hlt
      have hcl := cellT_len hr
      have htl := text_len i h (by omega)
      have hw := wrap_next (i := i) (n := l.length) hlt (by omega)
      have s32 : (⟨#[32]⟩ : ByteArray) = mkB [32] := rfl
      have s46 : (⟨#[46]⟩ : ByteArray) = mkB [46] := rfl
      have cellneg : l.getD i 0 = -1 → cellT (l.getD i 0) = [46] := fun e => by rw [e]; rfl
      have cellpos : ¬ l.getD i 0 = -1 → cellT (l.getD i 0) = Lib.decDigits (l.getD i 0).toNat := fun e => by unfold cellT; rw [if_neg (by omega)]
      rw [tk_snoc hlt] at ih1
      by_cases h0 : i = 0
      · subst h0
        rw [List.take_zero, List.nil_append, text_one] at ih1
        by_cases hc : l.getD 0 0 = -1
        · rw [cellneg hc] at ih1
          refine Ev.one ih1 fun k => ?_
          rw [spec_prText.l0, if_pos (by omega), if_pos (by omega), if_pos (by omega), if_neg (by omega), rd_nat, if_pos hc, if_pos (by simp [textL, Lib.join_nil, mkB_size]), hw, s46]
          simp [textL, Lib.join_nil, mkB_append]
        · rw [cellpos hc] at ih1
          obtain ⟨n, hnn⟩ : ∃ n : Nat, l.getD 0 0 = n := ⟨(l.getD 0 0).toNat, by omega⟩
          refine Ev.step (f := fun k => (spec_l1Num.f k (n : Int)).bind fun t125 => (if (mkB []).size + t125.size ≤ 9223372036854775807 then (spec_prText.l0 k (mkB [] ++ t125) l (l.length : Int) ((0 + 1 : Nat) : Int)) else (none))) (fun k => by
            rw [spec_prText.l0, if_pos (by omega), if_pos (by omega), if_pos (by omega), if_neg (by omega), rd_nat, if_neg hc, hnn, hw]; simp [textL, Lib.join_nil]) ?_
          refine Ev.bind (l1Num_ev n (by omega)) ?_
          rw [hnn, Int.toNat_natCast] at ih1
          have hdl := dec_len (n := n) (by omega)
          have hcc : ((mkB []).size + (mkB (Lib.decDigits n)).size ≤ 9223372036854775807) = True := eq_true (by rw [mkB_size, mkB_size]; simp; omega)
          simp only [hcc, if_true, mkB_append, List.nil_append]
          exact ih1
      · have hne : l.take i ≠ [] := by
          intro e
          have := congrArg List.length e
          rw [List.length_take] at this
          simp only [List.length_nil] at this
          omega
        rw [text_snoc hne] at ih1
        have c1 : (mkB (textL (l.take i))).size + 1 ≤ 9223372036854775807 := by rw [mkB_size]; omega
        by_cases hc : l.getD i 0 = -1
        · rw [cellneg hc] at ih1
          refine Ev.one ih1 fun k => ?_
          rw [spec_prText.l0, if_pos (by omega), if_pos (by omega), if_pos (by omega), if_pos (by omega), if_pos c1, rd_nat, if_pos hc, s32, s46, mkB_append, if_pos (by rw [mkB_size]; simp; omega), mkB_append, hw]
        · rw [cellpos hc] at ih1
          obtain ⟨n, hnn⟩ : ∃ n : Nat, l.getD i 0 = n := ⟨(l.getD i 0).toNat, by omega⟩
          refine Ev.step (f := fun k => (spec_l1Num.f k (n : Int)).bind fun t124 => (if (mkB (textL (l.take i) ++ [32])).size + t124.size ≤ 9223372036854775807 then (spec_prText.l0 k (mkB (textL (l.take i) ++ [32]) ++ t124) l (l.length : Int) ((i + 1 : Nat) : Int)) else (none))) (fun k => by
            rw [spec_prText.l0, if_pos (by omega), if_pos (by omega), if_pos (by omega), if_pos (by omega), if_pos c1, rd_nat, if_neg hc, s32, mkB_append, hnn, hw]) ?_
          refine Ev.bind (l1Num_ev n (by omega)) ?_
          rw [hnn, Int.toNat_natCast] at ih1
          have hdl := dec_len (n := n) (by omega)
          have hcc : ((mkB (textL (l.take i) ++ [32])).size + (mkB (Lib.decDigits n)).size ≤ 9223372036854775807) = True := eq_true (by rw [mkB_size, mkB_size, List.length_append, List.length_singleton]; omega)
          simp only [hcc, if_true, mkB_append]
          exact ih1
  have := loop l.length 0 (by omega)
  rw [List.take_zero] at this
  exact this
theorem itext_ev {l : List Int} (h : CellR l) (hn : l.length ≤ 1000) : Ev (fun k => impl_Table_text.f k l) (mkB (textL l)) := by
  unfold impl_Table_text.f
  have loop : ∀ (d i : Nat), i + d = l.length → Ev (fun k => impl_Table_text.l0 k ((l.take i).map fun x => mkB (cellT x)) l (l.length : Int) (i : Int)) (mkB (textL l)) := by
    intro d
    induction d with
    | zero =>
      intro i hi
      refine Ev.end_ fun k => ?_
      have htl := text_len l.length h (Nat.le_refl _)
      rw [List.take_length] at htl
      rw [impl_Table_text.l0, if_neg (by omega), List.take_of_length_le (by omega), strings_Join.f]
      have e : joinB (l.map fun x => mkB (cellT x)) ⟨#[32]⟩ = textL l := by
        unfold joinB textL
        rw [List.map_map, show (⟨#[32]⟩ : ByteArray).data.toList = [32] from rfl]
        congr 1
      rw [e, if_pos ⟨by simp; omega, by omega⟩, Option.bind_some]
      rfl
    | succ d ih =>
      intro i hi
      have hlt : i < l.length := by omega
      have ih1 := ih (i + 1) (by omega)
      have hr := cellR_get h hlt
      have hw := wrap_next (i := i) (n := l.length) hlt (by omega)
      rw [tk_snoc hlt, List.map_append, List.map_singleton] at ih1
      have hlen : ((l.take i).map fun x => mkB (cellT x)).length < 8796093022208 := by rw [List.length_map, List.length_take]; omega
      refine Ev.one ih1 fun k => ?_
      rw [impl_Table_text.l0, if_pos (by omega), if_pos (by omega), if_pos (by omega), rd_nat]
      by_cases hc : l.getD i 0 < 0
      · rw [if_pos hc, if_pos hlen, hw]
        unfold cellT
        rw [if_pos hc]
        rfl
      · rw [if_neg hc, strconv_Itoa.f, if_pos (by omega), Option.bind_some, if_pos hlen, hw]
        unfold cellT
        rw [if_neg hc, Lib.itoa, if_neg hc]
        rfl
  exact loop l.length 0 (by omega)
theorem l1Split_ev (s : ByteArray) (hs : s.size ≤ 1048576) : Ev (fun k => spec_l1Split.f k s 32) ((splA [] s.data.toList).map mkB) := by
  unfold spec_l1Split.f
  have hL : s.data.toList.length = s.size := data_length s
  have loop : ∀ (d i from_ : Nat) (acc : List ByteArray), i + d = s.size → from_ ≤ i → acc.length ≤ i →
      Ev (fun k => spec_l1Split.l0 k s 32 acc (from_ : Int) (i : Int)) (acc ++ (splA ((s.data.toList.drop from_).take (i - from_)) (s.data.toList.drop i)).map mkB) := by
    intro d
    induction d with
    | zero =>
      intro i from_ acc hi hf ha
      refine Ev.end_ fun k => ?_
      rw [spec_l1Split.l0, if_neg (by omega), if_pos (by omega), if_pos (by omega), if_pos (by omega), Int.toNat_natCast, (List.drop_eq_nil_of_le (by omega) : s.data.toList.drop i = []), splA, Lib.extract_eq, show s.size = i by omega]
      rfl
    | succ d ih =>
      intro i from_ acc hi hf ha
      have hlt : i < s.data.toList.length := by omega
      have hw := wrap_next (i := i) (n := s.size) (by omega) (by omega)
      have hd : s.data.toList.drop i = s.data.toList.getD i 0 :: s.data.toList.drop (i + 1) := by
        rw [List.drop_eq_getElem_cons hlt, List.getD_eq_getElem?_getD, List.getElem?_eq_getElem hlt]; rfl
      rw [hd, splA]
      by_cases hc : s.data.toList.getD i 0 = 32
      · rw [if_pos hc]
        have ih1 := ih (i + 1) (i + 1) (acc ++ [s.extract from_ i]) (by omega) (Nat.le_refl _) (by simp; omega)
        rw [Nat.sub_self, List.take_zero, List.append_assoc, List.singleton_append] at ih1
        rw [List.map_cons, show mkB ((s.data.toList.drop from_).take (i - from_)) = s.extract from_ i from (Lib.extract_eq s from_ i).symm]
        refine Ev.one ih1 fun k => ?_
        rw [spec_l1Split.l0, if_pos (by omega), if_pos (by omega), bt_get, hc, if_pos (show ((UInt8.toNat 32 : Nat) : Int) = 32 from rfl), if_pos (by omega), if_pos (by omega), if_pos (by omega), if_pos (by omega), Int.toNat_natCast, Int.toNat_natCast, hw]
      · rw [if_neg hc]
        have ih1 := ih (i + 1) from_ acc (by omega) (by omega) (by omega)
        rw [show (s.data.toList.drop from_).take (i + 1 - from_) = (s.data.toList.drop from_).take (i - from_) ++ [s.data.toList.getD i 0] by
          rw [show i + 1 - from_ = (i - from_) + 1 by omega, List.take_succ_eq_append_getElem (by rw [List.length_drop]; omega), List.getElem_drop, List.getD_eq_getElem?_getD, List.getElem?_eq_getElem hlt]
          simp only [show from_ + (i - from_) = i by omega]
          rfl] at ih1
        refine Ev.one ih1 fun k => ?_
        have hne : ¬ (((s.data.toList.getD i 0).toNat : Int) = 32) := fun e => hc (UInt8.toNat_inj.1 (by have : (32 : UInt8).toNat = 32 := rfl; omega))
        rw [spec_l1Split.l0, if_pos (by omega), if_pos (by omega), bt_get, if_neg hne, hw]
  have := loop s.size 0 0 [] (by omega) (Nat.le_refl _) (Nat.le_refl _)
  simpa using this
theorem l1Read_ev (s : ByteArray) (hs : s.size ≤ 1048576) : Ev (fun k => spec_l1Read.f k s) (rdV s.data.toList) := by
  unfold spec_l1Read.f
  have hL : s.data.toList.length = s.size := data_length s
  have stop : Ev (fun k => spec_l1Read.j0 k s true) (-1) := Ev.end_ fun k => by rw [spec_l1Read.j0, if_pos rfl]
  rw [l1In_eq]
  simp only [Option.bind_some]
  by_cases h : 1 ≤ (s.size : Int) ∧ (s.size : Int) ≤ 6
  · have loop : ∀ (d i n : Nat), i + d = s.size → n < 10 ^ i → Ev (fun k => spec_l1Read.l0 k s (n : Int) (i : Int)) (valG (s.data.toList.drop i) (n : Int)) := by
      intro d
      induction d with
      | zero =>
        intro i n hi hn
        rw [List.drop_eq_nil_of_le (by omega), valG]
        exact Ev.end_ fun k => by rw [spec_l1Read.l0, if_neg (by omega)]
      | succ d ih =>
        intro i n hi hn
        have hlt : i < s.data.toList.length := by omega
        have hw := wrap_next (i := i) (n := s.size) (by omega) (by omega)
        have hd : s.data.toList.drop i = s.data.toList.getD i 0 :: s.data.toList.drop (i + 1) := by
          rw [List.drop_eq_getElem_cons hlt, List.getD_eq_getElem?_getD, List.getElem?_eq_getElem hlt]; rfl
        rw [hd, valG]
        obtain ⟨c, hc⟩ : ∃ c, c = (s.data.toList.getD i 0).toNat := ⟨_, rfl⟩
        have hc8 : c < 256 := by rw [hc]; exact UInt8.toNat_lt _
        rw [← hc]
        have hp : 10 ^ i ≤ 10 ^ 5 := Nat.pow_le_pow_right (by omega) (by omega)
        by_cases h1 : c < 48
        · rw [if_pos (.inl h1)]
          exact Ev.end_ fun k => by rw [spec_l1Read.l0, if_pos (by omega), if_pos (by omega), bt_get, ← hc, if_pos (by omega)]
        · by_cases h2 : 57 < c
          · rw [if_pos (.inr h2)]
            exact Ev.end_ fun k => by rw [spec_l1Read.l0, if_pos (by omega), if_pos (by omega), bt_get, ← hc, if_neg (by omega), if_pos (by omega)]
          · rw [if_neg (by omega)]
            have ih1 := ih (i + 1) (10 * n + (c - 48)) (by omega) (by rw [Nat.pow_succ]; omega)
            rw [show ((10 * n + (c - 48) : Nat) : Int) = 10 * (n : Int) + ((c - 48 : Nat) : Int) by omega] at ih1
            refine Ev.one ih1 fun k => ?_
            rw [spec_l1Read.l0, if_pos (by omega), if_pos (by omega), bt_get, ← hc, if_neg (by omega), if_neg (by omega), hw, wrap_id (x := 10 * (n : Int)) (by omega) (by omega), show ((c : Int) - 48) % 256 = ((c - 48 : Nat) : Int) by omega, wrap_id (by omega) (by omega)]
    have l00 := loop s.size 0 0 (by omega) (by simp)
    simp only [h, and_self, decide_true, if_true, show (0 : Int) < (s.size : Int) by omega]
    have b0 := bt_get s 0
    have hlt : 0 < s.data.toList.length := by omega
    have hh : s.data.toList.head? = some (s.data.toList.getD 0 0) := by
      rw [List.head?_eq_getElem?, List.getD_eq_getElem?_getD, List.getElem?_eq_getElem hlt]; rfl
    have hgo : Ev (fun k => spec_l1Read.j0 k s false) (valG s.data.toList 0) := by
      refine Ev.one (f := fun k => spec_l1Read.l0 k s 0 0) (by simpa using l00) fun k => ?_
      rw [spec_l1Read.j0, if_neg (by decide)]
    by_cases hz : s.data.toList.getD 0 0 = 32 + 16
    · have hz' : s.data.toList.getD 0 0 = 48 := hz
      have hb : bt s 0 = 48 := by rw [show (0 : Int) = ((0 : Nat) : Int) from rfl, b0, hz']; rfl
      simp only [hb, if_true]
      by_cases hm : (s.size : Int) > 1
      · rw [show rdV s.data.toList = -1 by rw [rdV, if_neg (fun e => e.2.2 ⟨by rw [hh, hz'], by omega⟩)]]
        simp only [hm, decide_true]
        exact stop
      · rw [show rdV s.data.toList = valG s.data.toList 0 by rw [rdV, if_pos ⟨by omega, by omega, fun e => by omega⟩]]
        simp only [hm, decide_false]
        exact hgo
    · have hb : ¬ bt s 0 = 48 := by
        rw [show (0 : Int) = ((0 : Nat) : Int) from rfl, b0]
        intro e
        exact hz (UInt8.toNat_inj.1 (by have : ((32 : UInt8) + 16).toNat = 48 := rfl; omega))
      simp only [hb, if_false]
      rw [show rdV s.data.toList = valG s.data.toList 0 by rw [rdV, if_pos ⟨by omega, by omega, fun e => hz (by rw [hh] at e; exact Option.some.inj e.1)⟩]]
      exact hgo
  · rw [show rdV s.data.toList = -1 by rw [rdV, if_neg (fun e => h ⟨by omega, by omega⟩)]]
    simp only [h, decide_false, Bool.false_eq_true, if_false]
    exact stop
theorem tbl_cellR {l : List Int} (h : tblB l = true) : CellR l := by
  obtain ⟨h1, h2, h3, h4⟩ := tblB_parts h
  intro x hx
  obtain ⟨i, hi, rfl⟩ := List.getElem_of_mem hx
  have := h3 i hi
  rwa [List.getD_eq_getElem?_getD, List.getElem?_eq_getElem hi] at this
def txV (l : List Int) : ByteArray × Bool := if tblB l = true then (mkB (textL l), true) else (mkB [], false)
theorem spec_text_ev (l : List Int) (hn : l.length ≤ 4611686018427387904) : Ev (fun k => spec_TableText.f k l) (txV l) := by
  unfold spec_TableText.f txV
  refine Ev.bind (prGood_ev l hn) ?_
  cases h : tblB l with
  | false => simp only [Bool.false_eq_true, if_false]; exact Ev.now _
  | true =>
    have := (tblB_parts h).2.1
    simp only [if_true]
    refine Ev.bind (prText_ev (tbl_cellR h) (by omega)) ?_
    exact Ev.now _
theorem impl_text_ev (l : List Int) (hn : l.length ≤ 4611686018427387904) : Ev (fun k => impl_TableText.f k l) (txV l) := by
  unfold impl_TableText.f txV
  refine Ev.bind (isTable_ev l hn) ?_
  cases h : tblB l with
  | false => simp only [Bool.false_eq_true, if_false]; exact Ev.now _
  | true =>
    have := (tblB_parts h).2.1
    simp only [if_true]
    refine Ev.bind (itext_ev (tbl_cellR h) (by omega)) ?_
    exact Ev.now _
def spW (w : List UInt8) : Int := if w = [46] then -1 else max (rdV w) 0
def pvW (w : List UInt8) : Option Int := if w = [46] then some (-1) else if (readV w).2 = true then (if (readV w).1 < 0 then none else some (readV w).1) else none
theorem dec_ne {n : Nat} (h : n < 1000) : Lib.decDigits n ≠ [46] := fun e => by
  have := dec_digit h 46 (by rw [e]; exact List.mem_singleton_self _)
  have e2 : (46 : UInt8).toNat = 46 := rfl
  omega
theorem cellT_pos {c : Int} (h : 0 ≤ c) : cellT c = Lib.decDigits c.toNat := by unfold cellT; rw [if_neg (by omega)]
theorem cellT_neg {c : Int} (h : c = -1) : cellT c = [46] := by rw [h]; rfl
theorem spW_cell {c : Int} (h : -1 ≤ c ∧ c ≤ 999) : spW (cellT c) = c := by
  by_cases hc : c = -1
  · rw [cellT_neg hc, spW, if_pos rfl, hc]
  · obtain ⟨n, rfl⟩ : ∃ n : Nat, c = n := ⟨c.toNat, by omega⟩
    rw [cellT_pos (by omega), Int.toNat_natCast, spW, if_neg (dec_ne (by omega)), rdV_dec (by omega)]
    omega
theorem pvW_cell {c : Int} (h : -1 ≤ c ∧ c ≤ 999) : pvW (cellT c) = some c := by
  by_cases hc : c = -1
  · rw [cellT_neg hc, pvW, if_pos rfl, hc]
  · obtain ⟨n, rfl⟩ : ∃ n : Nat, c = n := ⟨c.toNat, by omega⟩
    have e : readV (Lib.decDigits n) = ((n : Int), true) := by
      unfold readV
      rw [atoi_dec (by omega)]
      simp only [itoa_dec, decide_true]
    rw [cellT_pos (by omega), Int.toNat_natCast, pvW, if_neg (dec_ne (by omega)), e]
    simp only [if_true]
    rw [if_neg (by omega)]
theorem cell_of_pvW {w : List UInt8} {c : Int} (h : pvW w = some c) (hc : c ≤ 999) : cellT c = w := by
  unfold pvW at h
  split at h
  · rename_i e
    obtain rfl := Option.some.inj h
    rw [e]; rfl
  · split at h
    · rename_i hb
      split at h
      · cases h
      · rename_i hn
        obtain rfl := Option.some.inj h
        unfold readV at hb hn ⊢
        cases ha : Lib.atoiAll w with
        | ok v =>
          rw [ha] at hb hn
          simp only [decide_eq_true_eq] at hb hn ⊢
          rw [cellT_pos (by omega), ← itoa_dec, ← hb]
          congr 1
          omega
        | range => rw [ha] at hb; cases hb
        | _ => rw [ha] at hb; cases hb
    · cases h
theorem cell_chars {c : Int} (h : -1 ≤ c ∧ c ≤ 999) : ∀ x ∈ cellT c, x ≠ 32 := by
  intro x hx e
  subst e
  by_cases hc : c = -1
  · rw [cellT_neg hc] at hx
    simp at hx
  · rw [cellT_pos (by omega)] at hx
    have := dec_digit (n := c.toNat) (by omega) _ hx
    have e2 : (32 : UInt8).toNat = 32 := rfl
    omega
theorem text_words {cs : List Int} (h : CellR cs) (hn : cs ≠ []) : splA [] (textL cs) = cs.map cellT := by
  cases cs with
  | nil => exact absurd rfl hn
  | cons c r =>
    unfold textL
    rw [List.map_cons]
    refine splA_of_join _ _ (fun x hx => ?_)
    rw [← List.map_cons] at hx
    obtain ⟨y, hy, rfl⟩ := List.mem_map.1 hx
    exact cell_chars (h y hy)
theorem pv_cells : ∀ {cs : List Int}, CellR cs → (cs.map cellT).mapM pvW = some cs
  | [], _ => rfl
  | c :: r, h => by
    rw [List.map_cons, List.mapM_cons, pvW_cell (h c List.mem_cons_self), pv_cells (fun x hx => h x (List.mem_cons_of_mem _ hx))]
    rfl
theorem cells_pv : ∀ {ws : List (List UInt8)} {cs : List Int}, ws.mapM pvW = some cs → CellR cs → cs.map cellT = ws
  | [], cs, h, _ => by
    rw [List.mapM_nil] at h
    obtain rfl := Option.some.inj h
    rfl
  | w :: r, cs, h, hc => by
    rw [List.mapM_cons] at h
    simp only [Option.bind_eq_bind, Option.pure_def, Option.bind_eq_some_iff, Option.some.injEq] at h
    obtain ⟨c, h1, t, h2, rfl⟩ := h
    rw [List.map_cons, cell_of_pvW h1 (hc c List.mem_cons_self).2, cells_pv h2 (fun x hx => hc x (List.mem_cons_of_mem _ hx))]
theorem sp_cells {cs : List Int} (h : CellR cs) : (cs.map cellT).map spW = cs := by
  rw [List.map_map]
  conv => rhs; rw [← List.map_id cs]
  exact List.map_congr_left (fun x hx => spW_cell (h x hx))
def ptV (s : List UInt8) : List Int × Bool :=
  match (splA [] s).mapM pvW with
  | some cs => if tblB cs = true then (cs, true) else ([], false)
  | none => ([], false)
def spV (s : List UInt8) (cs : List Int) : List Int × Bool := if tblB cs = true ∧ textL cs = s then (cs, true) else ([], false)
theorem tbl_ne {cs : List Int} (h : tblB cs = true) : cs ≠ [] := fun e => by
  have := (tblB_parts h).1
  rw [e] at this
  simp at this
theorem spV_ptV (s : List UInt8) : spV s ((splA [] s).map spW) = ptV s := by
  unfold spV ptV
  have back : ∀ cs, tblB cs = true → textL cs = s → (splA [] s).mapM pvW = some cs := fun cs h e => by
    rw [← e, text_words (tbl_cellR h) (tbl_ne h)]
    exact pv_cells (tbl_cellR h)
  cases hm : (splA [] s).mapM pvW with
  | none =>
    simp only
    rw [if_neg]
    rintro ⟨h1, h2⟩
    rw [back _ h1 h2] at hm
    cases hm
  | some cs =>
    simp only
    by_cases ht : tblB cs = true
    · have hw := cells_pv hm (tbl_cellR ht)
      have e1 : (splA [] s).map spW = cs := by rw [← hw]; exact sp_cells (tbl_cellR ht)
      have e2 : textL cs = s := by
        unfold textL
        rw [hw, splA_join]
        rfl
      rw [e1, if_pos ⟨ht, e2⟩, if_pos ht]
    · rw [if_neg ht, if_neg]
      rintro ⟨h1, h2⟩
      have := back _ h1 h2
      rw [hm] at this
      have e := Option.some.inj this
      rw [e] at ht
      exact ht h1
theorem rdOf_get {ws : List (List UInt8)} {i : Nat} (h : i < ws.length) : rdOf ByteArray.empty (ws.map mkB) (i : Int) = mkB (ws.getD i []) := by
  rw [rdOf, Int.toNat_natCast, List.getD_eq_getElem?_getD, List.getElem?_eq_getElem (by simpa using h), List.getElem_map, List.getD_eq_getElem?_getD, List.getElem?_eq_getElem h]
  rfl
theorem drop_get {ws : List (List UInt8)} {i : Nat} (h : i < ws.length) : ws.drop i = ws.getD i [] :: ws.drop (i + 1) := by
  rw [List.drop_eq_getElem_cons h, List.getD_eq_getElem?_getD, List.getElem?_eq_getElem h]
  rfl
theorem mem_getD {ws : List (List UInt8)} {i : Nat} (h : i < ws.length) : ws.getD i [] ∈ ws := by
  rw [List.getD_eq_getElem?_getD, List.getElem?_eq_getElem h]
  exact List.getElem_mem h
def goV (acc : List Int) (r : List (List UInt8)) : List Int × Bool :=
  match r.mapM pvW with
  | some cs => if tblB (acc ++ cs) = true then (acc ++ cs, true) else ([], false)
  | none => ([], false)
theorem goV_some {w : List UInt8} {c : Int} (h : pvW w = some c) (acc : List Int) (r : List (List UInt8)) : goV acc (w :: r) = goV (acc ++ [c]) r := by
  unfold goV
  rw [List.mapM_cons, h]
  simp only [Option.bind_eq_bind, Option.bind_some]
  cases r.mapM pvW with
  | none => rfl
  | some cs => simp
theorem goV_none {w : List UInt8} (h : pvW w = none) (acc : List Int) (r : List (List UInt8)) : goV acc (w :: r) = ([], false) := by
  unfold goV
  rw [List.mapM_cons, h]
  rfl
theorem impl_parse_l0 (ws : List (List UInt8)) (hw : ∀ w ∈ ws, w.length ≤ 1048576) (hn : ws.length ≤ 1048577) : ∀ (d i : Nat) (acc : List Int), i + d = ws.length → acc.length ≤ i →
    Ev (fun k => impl_ParseTable.l0 k (ws.map mkB) (ws.length : Int) (i : Int) acc) (goV acc (ws.drop i)) := by
  intro d
  induction d with
  | zero =>
    intro i acc hi ha
    refine Ev.step (f := fun k => (impl_isTable.f k acc).bind fun t220 => (if t220 = true then (some (acc, true)) else (some (([] : List Int), false)))) (fun k => by rw [impl_ParseTable.l0, if_neg (by omega)]) ?_
    refine Ev.bind (isTable_ev acc (by omega)) ?_
    rw [List.drop_eq_nil_of_le (by omega)]
    unfold goV
    simp only [List.mapM_nil, Option.pure_def, List.append_nil]
    cases tblB acc with
    | true => simp only [if_true]; exact Ev.now _
    | false => simp only [Bool.false_eq_true, if_false]; exact Ev.now _
  | succ d ih =>
    intro i acc hi ha
    have hlt : i < ws.length := by omega
    have hwn := wrap_next (i := i) (n := ws.length) hlt (by omega)
    have hsz := hw _ (mem_getD hlt)
    rw [drop_get hlt]
    obtain ⟨w, hww⟩ : ∃ w, w = ws.getD i [] := ⟨_, rfl⟩
    rw [← hww] at hsz ⊢
    have hrd : impl_readNumber.f (mkB w) = some (readV w) := by
      unfold impl_readNumber.f
      rw [if_pos (by rw [mkB_size]; exact hsz), mkB_data]
    have step : ∀ (k : Nat), impl_ParseTable.l0 (k + 1) (ws.map mkB) (ws.length : Int) (i : Int) acc = (if w = [46] then (if acc.length < 17592186044416 then (impl_ParseTable.l0 k (ws.map mkB) (ws.length : Int) ((i + 1 : Nat) : Int) (acc ++ [(-1)])) else (none)) else (if (readV w).2 = true then (if (readV w).1 < 0 then (some (([] : List Int), false)) else (if acc.length < 17592186044416 then (impl_ParseTable.l0 k (ws.map mkB) (ws.length : Int) ((i + 1 : Nat) : Int) (acc ++ [(readV w).1])) else (none))) else (some (([] : List Int), false)))) := fun k => by
      rw [impl_ParseTable.l0, if_pos (by omega), if_pos (by omega), if_pos (by rw [List.length_map]; omega), rdOf_get hlt, ← hww, hrd, Option.bind_some, mkB_toList, hwn]
    have hacc : acc.length < 17592186044416 := by omega
    by_cases h1 : w = [46]
    · rw [goV_some (c := -1) (by rw [pvW, if_pos h1])]
      refine Ev.one (ih (i + 1) (acc ++ [-1]) (by omega) (by simp; omega)) fun k => ?_
      rw [step, if_pos h1, if_pos hacc]
    · by_cases h2 : (readV w).2 = true
      · by_cases h3 : (readV w).1 < 0
        · rw [goV_none (by rw [pvW, if_neg h1, if_pos h2, if_pos h3])]
          exact Ev.end_ fun k => by rw [step, if_neg h1, if_pos h2, if_pos h3]
        · rw [goV_some (c := (readV w).1) (by rw [pvW, if_neg h1, if_pos h2, if_neg h3])]
          refine Ev.one (ih (i + 1) (acc ++ [(readV w).1]) (by omega) (by simp; omega)) fun k => ?_
          rw [step, if_neg h1, if_pos h2, if_neg h3, if_pos hacc]
      · rw [goV_none (by rw [pvW, if_neg h1, if_neg h2])]
        exact Ev.end_ fun k => by rw [step, if_neg h1, if_neg h2]
theorem words_ok (s : ByteArray) (hs : s.size ≤ 1048576) : (∀ w ∈ splA [] s.data.toList, w.length ≤ 1048576) ∧ (splA [] s.data.toList).length ≤ 1048577 := by
  have hL : s.data.toList.length = s.size := data_length s
  refine ⟨fun w hw => ?_, ?_⟩
  · have := splA_sub [] s.data.toList w hw
    simp only [List.length_nil] at this
    omega
  · have := splA_len [] s.data.toList
    omega
theorem impl_parse_ev (s : ByteArray) (hs : s.size ≤ 1048576) : Ev (fun k => impl_ParseTable.f k s) (ptV s.data.toList) := by
  obtain ⟨h1, h2⟩ := words_ok s hs
  have e : strings_Split.f s ⟨#[32]⟩ = some ((splA [] s.data.toList).map mkB) := by
    unfold strings_Split.f
    rw [if_pos ⟨by omega, by decide⟩, splitB_splA]
  unfold impl_ParseTable.f
  simp only [e, Option.bind_some, List.length_map]
  have := impl_parse_l0 _ h1 h2 (splA [] s.data.toList).length 0 [] (by omega) (Nat.le_refl _)
  rw [List.drop_zero] at this
  exact this
theorem most_eq (a b : Int) : spec_l1Most.f a b = some (max a b) := by
  unfold spec_l1Most.f
  first | (split <;> simp <;> omega) | (by_cases h : a > b <;> simp [h] <;> omega)
theorem spec_parse_l0 (s : ByteArray) (ws : List (List UInt8)) (hw : ∀ w ∈ ws, w.length ≤ 1048576) (hn : ws.length ≤ 1048577) : ∀ (d i : Nat) (acc : List Int), i + d = ws.length → acc.length ≤ 12 →
    Ev (fun k => spec_ParseTable.l0 k s (ws.map mkB) (ws.length : Int) (i : Int) acc) (spV s.data.toList (acc ++ (ws.drop i).map spW)) := by
  intro d
  induction d with
  | zero =>
    intro i acc hi ha
    refine Ev.step (f := fun k => (spec_prGood.f k acc).bind fun t213 => (if t213 = true then ((spec_prText.f k acc).bind fun t214 => (if t214.toList = s.toList then (some (acc, true)) else (some (([] : List Int), false)))) else (some (([] : List Int), false)))) (fun k => by rw [spec_ParseTable.l0, if_neg (by omega)]) ?_
    refine Ev.bind (prGood_ev acc (by omega)) ?_
    rw [List.drop_eq_nil_of_le (by omega), List.map_nil, List.append_nil]
    unfold spV
    cases h : tblB acc with
    | false =>
      simp only [Bool.false_eq_true, if_false, false_and]
      exact Ev.now _
    | true =>
      simp only [if_true, true_and]
      refine Ev.bind (prText_ev (tbl_cellR h) (by omega)) ?_
      simp only [ByteArray.toList_eq, mkB_data]
      by_cases e : textL acc = s.data.toList
      · simp only [e, if_true]; exact Ev.now _
      · simp only [e, if_false]; exact Ev.now _
  | succ d ih =>
    intro i acc hi ha
    have hlt : i < ws.length := by omega
    have hwn := wrap_next (i := i) (n := ws.length) hlt (by omega)
    have hsz := hw _ (mem_getD hlt)
    rw [drop_get hlt, List.map_cons]
    obtain ⟨w, hww⟩ : ∃ w, w = ws.getD i [] := ⟨_, rfl⟩
    rw [← hww] at hsz ⊢
    by_cases h12 : acc.length = 12
    · have e : spV s.data.toList (acc ++ spW w :: (ws.drop (i + 1)).map spW) = ([], false) := by
        unfold spV
        rw [if_neg]
        rintro ⟨h, _⟩
        have := (tblB_parts h).2.1
        simp at this
        omega
      rw [e]
      exact Ev.end_ fun k => by rw [spec_ParseTable.l0, if_pos (by omega), if_pos (by omega), if_pos (by rw [List.length_map]; omega), if_pos (by omega)]
    · have ih1 := ih (i + 1) (acc ++ [spW w]) (by omega) (by simp; omega)
      rw [List.append_assoc, List.singleton_append] at ih1
      by_cases h1 : w = [46]
      · rw [show spW w = -1 by rw [spW, if_pos h1]] at ih1 ⊢
        refine Ev.one ih1 fun k => ?_
        rw [spec_ParseTable.l0, if_pos (by omega), if_pos (by omega), if_pos (by rw [List.length_map]; omega), if_neg (by omega), rdOf_get hlt, ← hww, mkB_toList, if_pos h1, if_pos (by omega), hwn]
      · have e : spW w = max (rdV w) 0 := by rw [spW, if_neg h1]
        rw [e] at ih1 ⊢
        refine Ev.step (f := fun k => (spec_l1Read.f k (mkB w)).bind fun t208 => ((spec_l1Most.f t208 0).bind fun t209 => (if acc.length < 17592186044416 then (spec_ParseTable.l0 k s (ws.map mkB) (ws.length : Int) ((i + 1 : Nat) : Int) (acc ++ [t209])) else (none)))) (fun k => by
          rw [spec_ParseTable.l0, if_pos (by omega), if_pos (by omega), if_pos (by rw [List.length_map]; omega), if_neg (by omega), rdOf_get hlt, ← hww, mkB_toList, if_neg h1, hwn]) ?_
        have hr := l1Read_ev (mkB w) (by rw [mkB_size]; exact hsz)
        rw [mkB_data] at hr
        refine Ev.bind hr ?_
        simp only [most_eq, Option.bind_some, show acc.length < 17592186044416 by omega, if_true]
        exact ih1
theorem spec_parse_ev (s : ByteArray) (hs : s.size ≤ 1048576) : Ev (fun k => spec_ParseTable.f k s) (ptV s.data.toList) := by
  obtain ⟨h1, h2⟩ := words_ok s hs
  unfold spec_ParseTable.f
  refine Ev.bind (l1Split_ev s hs) ?_
  simp only [List.length_map]
  have := spec_parse_l0 s _ h1 h2 (splA [] s.data.toList).length 0 [] (by omega) (by simp)
  rw [List.drop_zero, List.nil_append, spV_ptV] at this
  exact this
theorem ptV_len (s : List UInt8) : (ptV s).1.length ≤ 12 := by
  unfold ptV
  split
  · split
    · rename_i h
      exact (tblB_parts h).2.1
    · simp
  · simp
theorem text_back {l : List Int} (h : tblB l = true) : ptV (textL l) = (l, true) := by
  unfold ptV
  rw [text_words (tbl_cellR h) (tbl_ne h), pv_cells (tbl_cellR h)]
  simp only [h, if_true]
theorem txV_back {l : List Int} (h : (txV l).2 = true) : ptV (txV l).1.data.toList = (l, true) := by
  unfold txV at h ⊢
  by_cases c : tblB l = true
  · rw [if_pos c, mkB_data]
    exact text_back c
  · rw [if_neg c] at h
    cases h
end Go.Proofs.YteakjjimkagmkaaGreatDoor.G
namespace Go.Proofs.YteakjjimkagmkaaGreatDoor.Pure
open Go.RowKit Go.Proofs.YteakjjimkagmkaaGreatDoor.G Go.Proofs.YteakjjimkagmkaaGreatDoorW.PrintWords Go.Proofs.YteakjjimkagmkaaGreatDoorW.PrintLast
/-- A cell's place on the street that begins behind cell g. -/
def sC (n g o : Nat) : Nat := (o + 2 * n - g - 1) % n
end Go.Proofs.YteakjjimkagmkaaGreatDoor.Pure
