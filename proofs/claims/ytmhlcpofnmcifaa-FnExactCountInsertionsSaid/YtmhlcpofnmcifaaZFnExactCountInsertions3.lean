/- The law FnExactCountInsertions: part 3 of the printed functions and the facts on them that its row leans on (merged by this session's slim.py). -/
import Derived.Test.YtmhlcpofnmcifaaZFnExactCountInsertions2
namespace Go.Proofs.Ytmhlcpofnmcifaa.G
open Go.RowKit Go.Proofs.YtmhlcpofnmcifaaW.PrintWords Go.Proofs.YtmhlcpofnmcifaaW.PrintLast Go.Proofs.YtmhlcpofnmcifaaW.PrintMore
set_option linter.unusedVariables false
set_option linter.unusedSimpArgs false
section
variable (l : List Int) (hn : 2 ≤ l.length) (hn2 : l.length ≤ 12) (hr : ∀ j, j < l.length → -1 ≤ l.getD j 0 ∧ l.getD j 0 ≤ 999)
include hn hn2 hr
theorem sp_way (key i c : Nat) (hk : key ≤ 1000) (hi : i < l.length) (hc : costN l.length key i = c) (r : Bool) (h : Ev (fun k => spec_prGood.l0 k (l.length : Int) l (l.length : Int) (wrap64 ((i : Int) + 1)) l) r) : ∀ (j : Nat), j ≤ c →
    Ev (fun k => spec_prGood.l1 k (l.length : Int) (i : Int) (j : Int) l (l.length : Int) (i : Int) l) (if wayF l key (c - j) j = true then r else false) := by
  have hcn : c < l.length := by rw [← hc]; exact costN_lt (by omega)
  intro j
  induction j with
  | zero =>
    intro _
    rw [wayF, if_pos rfl]
    exact Ev.one h fun k => by rw [spec_prGood.l1, if_neg (by omega)]
  | succ j ih =>
    intro hj
    have hcell := back_cell (n := l.length) (by omega) hi hc hj (by omega)
    have e1 : Int.tmod (wrap64 ((wrap64 ((i : Int) - ((j + 1 : Nat) : Int))) + (l.length : Int))) (l.length : Int) = (((key + (c - (j + 1))) % l.length : Nat) : Int) := by
      rw [wrap_id (x := (i : Int) - ((j + 1 : Nat) : Int)) (by omega) (by omega), wrap_id (by omega) (by omega), ← hcell, show (i : Int) - ((j + 1 : Nat) : Int) + (l.length : Int) = ((i + l.length - (j + 1) : Nat) : Int) by omega]
      rfl
    have hm := Nat.mod_lt (key + (c - (j + 1))) (show 0 < l.length by omega)
    have hv := hr _ hm
    rw [wayF, show c - (j + 1) + 1 = c - j by omega]
    by_cases hf : l.getD ((key + (c - (j + 1))) % l.length) 0 = -1
    · rw [show decide (0 ≤ l.getD ((key + (c - (j + 1))) % l.length) 0) = false from decide_eq_false (by omega), Bool.false_and, if_neg (by decide)]
      refine Ev.end_ fun k => ?_
      rw [spec_prGood.l1, if_pos (by omega), if_neg (by omega), e1, if_pos (by omega), if_pos (by omega), rd_nat, if_pos hf]
    · rw [show decide (0 ≤ l.getD ((key + (c - (j + 1))) % l.length) 0) = true from decide_eq_true (by omega), Bool.true_and]
      refine Ev.one (ih (by omega)) fun k => ?_
      rw [spec_prGood.l1, if_pos (by omega), if_neg (by omega), e1, if_pos (by omega), if_pos (by omega), rd_nat, if_neg hf, wrap_id (x := ((j + 1 : Nat) : Int) - 1) (by omega) (by omega), show ((j + 1 : Nat) : Int) - 1 = (j : Int) by omega]
theorem im_way (key i c : Nat) (hk : key ≤ 1000) (hi : i < l.length) (hc : c < l.length) (r : Bool) (h : Ev (fun k => impl_isTable.l0 k l (l.length : Int) (wrap64 ((i : Int) + 1)) l) r) : ∀ (d s : Nat), s + d = c →
    Ev (fun k => impl_isTable.l1 k (key : Int) l (l.length : Int) (i : Int) (c : Int) (s : Int) l) (if wayF l key s d = true then r else false) := by
  have hr0 := hr
  intro d
  induction d with
  | zero =>
    intro s hs
    rw [wayF, if_pos rfl]
    exact Ev.one h fun k => by rw [impl_isTable.l1, if_neg (by omega)]
  | succ d ih =>
    intro s hs
    have e1 : Int.tmod (wrap64 ((key : Int) + (s : Int))) (l.length : Int) = (((key + s) % l.length : Nat) : Int) := by
      rw [wrap_id (by omega) (by omega), show (key : Int) + (s : Int) = ((key + s : Nat) : Int) by omega]
      rfl
    have hm := Nat.mod_lt (key + s) (show 0 < l.length by omega)
    rw [wayF]
    by_cases hf : l.getD ((key + s) % l.length) 0 < 0
    · rw [show decide (0 ≤ l.getD ((key + s) % l.length) 0) = false from decide_eq_false (by omega), Bool.false_and, if_neg (by decide)]
      refine Ev.end_ fun k => ?_
      rw [impl_isTable.l1, if_pos (by omega), if_neg (by omega), e1, if_pos (by omega), if_pos (by omega), rd_nat, if_pos hf]
    · rw [show decide (0 ≤ l.getD ((key + s) % l.length) 0) = true from decide_eq_true (by omega), Bool.true_and]
      refine Ev.one (ih (s + 1) (by omega)) fun k => ?_
      rw [impl_isTable.l1, if_pos (by omega), if_neg (by omega), e1, if_pos (by omega), if_pos (by omega), rd_nat, if_neg hf, wrap_next (n := 1000) (by omega) (by omega)]
theorem sp_good_l0 : ∀ (d i : Nat), i + d = l.length → Ev (fun k => spec_prGood.l0 k (l.length : Int) l (l.length : Int) (i : Int) l) (okFrom l d i) := by
  intro d
  induction d with
  | zero =>
    intro i hd
    exact Ev.end_ fun k => by rw [spec_prGood.l0, if_neg (by omega)]; rfl
  | succ d ih =>
    intro i hd
    have hi : i < l.length := by omega
    have hv := hr i hi
    rw [okFrom, okCell]
    by_cases hf : l.getD i 0 = -1
    · rw [show decide (l.getD i 0 < 0) = true from decide_eq_true (by omega), Bool.true_or, Bool.true_and]
      refine Ev.one (ih (i + 1) (by omega)) fun k => ?_
      rw [spec_prGood.l0, if_pos (by omega), if_pos (by omega), if_pos (by omega), rd_nat, if_pos hf, wrap_next (n := l.length) hi (by omega)]
    · rw [show decide (l.getD i 0 < 0) = false from decide_eq_false (by omega), Bool.false_or]
      obtain ⟨key, hkey⟩ : ∃ key : Nat, l.getD i 0 = key := ⟨(l.getD i 0).toNat, by omega⟩
      rw [hkey, Int.toNat_natCast]
      refine Ev.step (f := fun k => (spec_l1Has.f k (l.take i) (key : Int)).bind fun t169 => (if t169 = true then (some false) else (spec_prGood.l1 k (l.length : Int) (i : Int) ((costN l.length key i : Nat) : Int) l (l.length : Int) (i : Int) l))) (fun k => by
        rw [spec_prGood.l0, if_pos (by omega), if_pos (by omega), if_pos (by omega), rd_nat, if_neg hf, if_pos (by omega), Int.toNat_natCast, hkey, prCost_eq (by omega) (by omega) (by omega) hi]; rfl) ?_
      refine Ev.bind (l1Has_ev _ _ (by simp; omega)) ?_
      cases hh : decide ((key : Int) ∈ l.take i) with
      | true => simp only [if_true, Bool.not_true, Bool.false_and]; exact Ev.now _
      | false =>
        simp only [Bool.false_eq_true, if_false, Bool.not_false, Bool.true_and]
        have h0 := ih (i + 1) (by omega)
        have hw := sp_way l hn hn2 hr key i (costN l.length key i) (by omega) hi rfl _ (by rw [wrap_next (n := l.length) hi (by omega)]; exact h0) (costN l.length key i) (Nat.le_refl _)
        rw [Nat.sub_self] at hw
        cases hww : wayF l key 0 (costN l.length key i) with
        | true => rw [hww, if_pos rfl] at hw; rw [Bool.true_and]; exact hw
        | false => rw [hww, if_neg (by decide)] at hw; rw [Bool.false_and]; exact hw
theorem im_good_l0 : ∀ (d i : Nat), i + d = l.length → Ev (fun k => impl_isTable.l0 k l (l.length : Int) (i : Int) l) (okFrom l d i) := by
  intro d
  induction d with
  | zero =>
    intro i hd
    exact Ev.end_ fun k => by rw [impl_isTable.l0, if_neg (by omega)]; rfl
  | succ d ih =>
    intro i hd
    have hi : i < l.length := by omega
    have hv := hr i hi
    rw [okFrom, okCell]
    by_cases hf : l.getD i 0 < 0
    · rw [decide_eq_true hf, Bool.true_or, Bool.true_and]
      refine Ev.one (ih (i + 1) (by omega)) fun k => ?_
      rw [impl_isTable.l0, if_pos (by omega), if_pos (by omega), if_pos (by omega), rd_nat, if_pos hf, wrap_next (n := l.length) hi (by omega)]
    · rw [decide_eq_false hf, Bool.false_or]
      obtain ⟨key, hkey⟩ : ∃ key : Nat, l.getD i 0 = key := ⟨(l.getD i 0).toNat, by omega⟩
      have htc := tcost_eq (l := l) (key := key) (at_ := i) (by omega) (by omega) hi hkey
      rw [hkey, Int.toNat_natCast]
      refine Ev.step (f := fun k => (slices_Contains_int_int.f k (l.take i) (key : Int)).bind fun t195 => (if t195 = true then (some false) else (impl_isTable.l1 k (key : Int) l (l.length : Int) (i : Int) ((costN l.length key i : Nat) : Int) 0 l))) (fun k => by
        rw [impl_isTable.l0, if_pos (by omega), if_pos (by omega), if_pos (by omega), rd_nat, if_neg hf, if_pos (by omega), Int.toNat_natCast, hkey, htc]; rfl) ?_
      refine Ev.bind (containsI_ev _ _ (by simp; omega)) ?_
      cases hh : decide ((key : Int) ∈ l.take i) with
      | true => simp only [if_true, Bool.not_true, Bool.false_and]; exact Ev.now _
      | false =>
        simp only [Bool.false_eq_true, if_false, Bool.not_false, Bool.true_and]
        have h0 := ih (i + 1) (by omega)
        have hw := im_way l hn hn2 hr key i (costN l.length key i) (by omega) hi (costN_lt (by omega)) _ (by rw [wrap_next (n := l.length) hi (by omega)]; exact h0) (costN l.length key i) 0 (by omega)
        cases hww : wayF l key 0 (costN l.length key i) with
        | true => rw [hww, if_pos rfl] at hw; rw [Bool.true_and]; exact hw
        | false => rw [hww, if_neg (by decide)] at hw; rw [Bool.false_and]; exact hw
end
end Go.Proofs.Ytmhlcpofnmcifaa.G
namespace Go.Proofs.Ytmhlcpofnmcifaa.G
open Go.RowKit Go.Proofs.YtmhlcpofnmcifaaW.PrintWords Go.Proofs.YtmhlcpofnmcifaaW.PrintLast Go.Proofs.YtmhlcpofnmcifaaW.PrintMore
set_option linter.unusedVariables false
set_option linter.unusedSimpArgs false
theorem allT_get {l : List Int} {lo hi : Int} (h : (l.all fun x => decide (lo ≤ x ∧ x ≤ hi)) = true) {j : Nat} (hj : j < l.length) : lo ≤ l.getD j 0 ∧ l.getD j 0 ≤ hi := by
  rw [List.all_eq_true] at h
  have := h l[j] (List.getElem_mem hj)
  rw [List.getD_eq_getElem?_getD, List.getElem?_eq_getElem hj]
  simpa using this
theorem areBetween_eq (l : List Int) (lo hi : Int) : impl_areBetween.f l lo hi = some (l.all fun x => decide (lo ≤ x ∧ x ≤ hi)) := by
  unfold impl_areBetween.f
  congr 2
  funext x
  rw [Bool.eq_iff_iff]; simp
theorem prGood_ev (l : List Int) (hn : l.length ≤ 4611686018427387904) : Ev (fun k => spec_prGood.f k l) (tblB l) := by
  unfold spec_prGood.f tblB
  simp only [l1In_eq, Option.bind_some]
  have stop : Ev (fun k => spec_prGood.j0 k (l.length : Int) true l) false := Ev.end_ fun k => by rw [spec_prGood.j0, if_pos rfl]
  by_cases h1 : 2 ≤ (l.length : Int) ∧ (l.length : Int) ≤ 12
  · rw [decide_eq_true h1]
    simp only [if_true, Bool.true_and]
    refine Ev.bind (l1All_ev l (-1) 999 hn) ?_
    cases h2 : (l.all fun x => decide (-1 ≤ x ∧ x ≤ 999)) with
    | false => simp only [Bool.false_eq_true, if_false, Bool.false_and]; exact stop
    | true =>
      simp only [if_true, Bool.true_and]
      refine Ev.bind (l1Has_ev l (-1) hn) ?_
      cases h3 : decide ((-1 : Int) ∈ l) with
      | false => simp only [Bool.not_false, Bool.false_and]; exact stop
      | true =>
        simp only [Bool.not_true, Bool.true_and]
        exact Ev.one (sp_good_l0 l (by omega) (by omega) (fun j hj => allT_get h2 hj) l.length 0 (by omega)) fun k => by rw [spec_prGood.j0, if_neg (by decide)]; rfl
  · rw [decide_eq_false h1]
    simp only [Bool.false_eq_true, if_false, Bool.false_and]
    exact stop
theorem isTable_ev (l : List Int) (hn : l.length ≤ 4611686018427387904) : Ev (fun k => impl_isTable.f k l) (tblB l) := by
  unfold impl_isTable.f tblB
  simp only [isSize_eq, areBetween_eq, Option.bind_some]
  have stop : Ev (fun k => impl_isTable.j0 k true l) false := Ev.end_ fun k => by rw [impl_isTable.j0, if_pos rfl]
  by_cases h1 : 2 ≤ (l.length : Int) ∧ (l.length : Int) ≤ 12
  · rw [decide_eq_true h1]
    simp only [if_true, Bool.true_and]
    cases h2 : (l.all fun x => decide (-1 ≤ x ∧ x ≤ 999)) with
    | false => simp only [Bool.false_eq_true, if_false, Bool.false_and]; exact stop
    | true =>
      simp only [if_true, Bool.true_and]
      refine Ev.bind (containsI_ev l (-1) hn) ?_
      cases h3 : decide ((-1 : Int) ∈ l) with
      | false => simp only [Bool.not_false, Bool.false_and]; exact stop
      | true =>
        simp only [Bool.not_true, Bool.true_and]
        exact Ev.one (im_good_l0 l (by omega) (by omega) (fun j hj => allT_get h2 hj) l.length 0 (by omega)) fun k => by rw [impl_isTable.j0, if_neg (by decide)]; rfl
  · rw [decide_eq_false h1]
    simp only [Bool.false_eq_true, if_false, Bool.false_and]
    exact stop
/-- The places below q at which p holds. -/
def idxsTo (p : Int → Bool) (l : List Int) : Nat → List Int
  | 0 => []
  | q + 1 => idxsTo p l q ++ (if p (l.getD q 0) = true then [(q : Int)] else [])
def posP (x : Int) : Bool := decide (0 ≤ x)
def impl_Table_used.f (l0_0 : List Int) : Option (List Int) := if l0_0.length ≤ 1000000 then some (idxsTo posP l0_0 l0_0.length) else none
theorem tblB_parts {l : List Int} (h : tblB l = true) : 2 ≤ l.length ∧ l.length ≤ 12 ∧ (∀ j, j < l.length → -1 ≤ l.getD j 0 ∧ l.getD j 0 ≤ 999) ∧ (-1 : Int) ∈ l := by
  unfold tblB at h
  simp only [Bool.and_eq_true, decide_eq_true_eq] at h
  exact ⟨by omega, by omega, fun j hj => allT_get h.1.1.2 hj, h.1.2⟩
theorem getD_mem {l : List Int} {i : Nat} (h : i < l.length) : l.getD i 0 ∈ l := by
  rw [List.getD_eq_getElem?_getD, List.getElem?_eq_getElem h]; exact List.getElem_mem h
theorem getD_get {l : List Int} {i : Nat} (h : i < l.length) : l.getD i 0 = l[i] := by
  rw [List.getD_eq_getElem?_getD, List.getElem?_eq_getElem h]; rfl
def putZ (n : Int) : List Int → List Int
  | [] => [n]
  | y :: r => if y < n then y :: putZ n r else if y = n then y :: r else n :: y :: r
theorem putZ_split (n : Int) : ∀ (i : Nat) (L : List Int), i ≤ L.length → (∀ j, j < i → L.getD j 0 < n) → putZ n L = L.take i ++ putZ n (L.drop i)
  | 0, L, _, _ => by simp
  | i + 1, [], h, _ => by simp at h
  | i + 1, y :: r, h, hl => by
    have h0 : y < n := hl 0 (by omega)
    rw [putZ, if_pos h0, List.take_succ_cons, List.drop_succ_cons, List.cons_append, ← putZ_split n i r (by simpa using h) (fun j hj => by have := hl (j + 1) (by omega); simpa using this)]
theorem putZ_mem (n x : Int) : ∀ L : List Int, x ∈ putZ n L ↔ x = n ∨ x ∈ L
  | [] => by simp [putZ]
  | y :: r => by
    rw [putZ]
    split
    · rw [List.mem_cons, putZ_mem n x r, List.mem_cons]
      constructor
      · rintro (h | h | h)
        · exact Or.inr (Or.inl h)
        · exact Or.inl h
        · exact Or.inr (Or.inr h)
      · rintro (h | h | h)
        · exact Or.inr (Or.inl h)
        · exact Or.inl h
        · exact Or.inr (Or.inr h)
    · split
      · rename_i h; subst h; simp
      · simp
theorem putZ_strict (n : Int) : ∀ L : List Int, L.Pairwise (· < ·) → (putZ n L).Pairwise (· < ·)
  | [], _ => by simp [putZ]
  | y :: r, h => by
    rw [List.pairwise_cons] at h
    rw [putZ]
    split
    · rename_i hy
      rw [List.pairwise_cons]
      refine ⟨fun x hx => ?_, putZ_strict n r h.2⟩
      rcases (putZ_mem n x r).mp hx with e | e
      · omega
      · exact h.1 x e
    · split
      · exact List.pairwise_cons.mpr h
      · rw [List.pairwise_cons]
        refine ⟨fun x hx => ?_, List.pairwise_cons.mpr h⟩
        rcases List.mem_cons.mp hx with e | e
        · omega
        · have := h.1 x e; omega
theorem putZ_len (n : Int) : ∀ L : List Int, (putZ n L).length ≤ L.length + 1
  | [] => by simp [putZ]
  | y :: r => by
    have := putZ_len n r
    rw [putZ]
    split
    · simp; omega
    · split <;> simp
theorem l1Put_l0 (L : List Int) (n : Int) (hl : L.length ≤ 1000000) : ∀ (d i : Nat), i + d = L.length → (∀ j, j < i → L.getD j 0 < n) → Ev (fun k => spec_l1Put.l0 k L n (i : Int)) (putZ n L) := by
  intro d
  induction d with
  | zero =>
    intro i hd hlt
    refine Ev.end_ fun k => ?_
    rw [spec_l1Put.l0, if_neg (by omega)]
    simp only [Option.bind_some, List.nil_append, List.length_nil, Int.toNat_natCast]
    rw [if_pos (by omega), if_pos (by omega), if_pos (by simp; omega), if_pos (by simp; omega), if_pos (by simp; omega), putZ_split n i L (by omega) hlt, List.drop_of_length_le (by omega), List.append_nil]
    rfl
  | succ d ih =>
    intro i hd hlt
    have hi : i < L.length := by omega
    by_cases h1 : L.getD i 0 < n
    · refine Ev.one (ih (i + 1) (by omega) (fun j hj => ?_)) fun k => ?_
      · by_cases e : j = i
        · rw [e]; exact h1
        · exact hlt j (by omega)
      · rw [spec_l1Put.l0, if_pos (by omega), if_pos (by omega), rd_nat, if_pos h1, wrap_next (n := L.length) hi (by omega)]
    · by_cases h2 : L.getD i 0 = n
      · refine Ev.end_ fun k => ?_
        rw [spec_l1Put.l0, if_pos (by omega), if_pos (by omega), rd_nat, if_neg h1, if_pos h2, putZ_split n i L (by omega) hlt, drop_getD hi, putZ, if_neg h1, if_pos h2, ← drop_getD hi, List.take_append_drop]
      · refine Ev.end_ fun k => ?_
        rw [spec_l1Put.l0, if_pos (by omega), if_pos (by omega), rd_nat, if_neg h1, if_neg h2]
        simp only [Option.bind_some, List.nil_append, List.length_nil, Int.toNat_natCast]
        rw [if_pos (by omega), if_pos (by simp; omega), if_pos (by simp; omega), if_pos (by simp; omega), putZ_split n i L (by omega) hlt, drop_getD hi, putZ, if_neg h1, if_neg h2, List.append_assoc]
        rfl
theorem l1Put_ev (L : List Int) (n : Int) (hl : L.length ≤ 1000000) : Ev (fun k => spec_l1Put.f k L n) (putZ n L) := by
  unfold spec_l1Put.f
  exact l1Put_l0 L n hl L.length 0 (by omega) (fun j hj => by omega)
theorem strict_ext : ∀ (a b : List Int), a.Pairwise (· < ·) → b.Pairwise (· < ·) → (∀ x, x ∈ a ↔ x ∈ b) → a = b
  | [], [], _, _, _ => rfl
  | [], y :: b, _, _, h => by have := (h y).mpr (List.mem_cons_self); cases this
  | x :: a, [], _, _, h => by have := (h x).mp (List.mem_cons_self); cases this
  | x :: a, y :: b, ha, hb, h => by
    rw [List.pairwise_cons] at ha hb
    have e : x = y := by
      rcases List.mem_cons.mp ((h x).mp (List.mem_cons_self)) with e | e
      · exact e
      · rcases List.mem_cons.mp ((h y).mpr (List.mem_cons_self)) with e2 | e2
        · exact e2.symm
        · have := hb.1 x e; have := ha.1 y e2; omega
    subst e
    congr 1
    refine strict_ext a b ha.2 hb.2 (fun z => ?_)
    constructor
    · intro hz
      rcases List.mem_cons.mp ((h z).mp (List.mem_cons_of_mem _ hz)) with e | e
      · have := ha.1 z hz; omega
      · exact e
    · intro hz
      rcases List.mem_cons.mp ((h z).mpr (List.mem_cons_of_mem _ hz)) with e | e
      · have := hb.1 z hz; omega
      · exact e
theorem sortZ_perm (l : List Int) : (sortZ l).Perm l := List.mergeSort_perm l _
theorem sortZ_le (l : List Int) : (sortZ l).Pairwise (· ≤ ·) := by
  have h := List.pairwise_mergeSort (le := fun x y : Int => decide (x ≤ y)) (fun a b c => by simp; omega) (fun a b => by simp; omega) l
  exact h.imp (fun h => by simpa using h)
theorem strict_of {l : List Int} (h : l.Pairwise (· ≤ ·)) (hn : l.Nodup) : l.Pairwise (· < ·) := by
  refine (h.and hn).imp ?_
  rintro a b ⟨h1, h2⟩
  omega
theorem filter_nodup {l : List Int} (h : ∀ i j, i < j → j < l.length → 0 ≤ l.getD i 0 → l.getD i 0 ≠ l.getD j 0) : (l.filter fun x => decide (0 ≤ x)).Nodup := by
  have h1 : l.Pairwise (fun a b => 0 ≤ a → a ≠ b) := by
    rw [List.pairwise_iff_getElem]
    intro i j hi hj hij h0
    have := h i j hij hj
    rw [getD_get hi, getD_get hj] at this
    exact this h0
  have h2 := h1.filter (fun x => decide (0 ≤ x))
  refine List.Pairwise.imp_of_mem ?_ h2
  intro a b ha hb hab
  rw [List.mem_filter] at ha
  exact hab (by simpa using ha.2)
theorem tbl_dist {l : List Int} (h : tblB l = true) : ∀ i j, i < j → j < l.length → 0 ≤ l.getD i 0 → l.getD i 0 ≠ l.getD j 0 := by
  have hok : okFrom l l.length 0 = true := by
    unfold tblB at h
    simp only [Bool.and_eq_true] at h
    exact h.2
  have hall : ∀ (d i : Nat), i + d = l.length → okFrom l d i = true → ∀ j, i ≤ j → j < l.length → okCell l j = true := by
    intro d
    induction d with
    | zero => intro i hd _ j h1 h2; omega
    | succ d ih =>
      intro i hd hk j h1 h2
      rw [okFrom, Bool.and_eq_true] at hk
      by_cases e : j = i
      · rw [e]; exact hk.1
      · exact ih (i + 1) (by omega) hk.2 j (by omega) h2
  intro i j hij hj h0 e
  have hc := hall l.length 0 (by omega) hok j (Nat.zero_le _) hj
  unfold okCell at hc
  rw [Bool.or_eq_true, Bool.and_eq_true] at hc
  rcases hc with hc | hc
  · rw [decide_eq_true_eq] at hc; omega
  · have h1 := hc.1
    rw [Bool.not_eq_true', decide_eq_false_iff_not] at h1
    apply h1
    rw [← e, getD_get (by omega : i < l.length)]
    exact List.mem_take_iff_getElem.mpr ⟨i, by omega, rfl⟩
theorem keysZ_eq (l : List Int) : keysZ l = (sortZ l).filter fun x => decide (0 ≤ x) := by
  unfold keysZ
  congr 1
  funext x
  unfold negKey
  rw [Bool.eq_iff_iff]
  simp
theorem keysZ_perm (l : List Int) : (keysZ l).Perm (l.filter fun x => decide (0 ≤ x)) := by
  rw [keysZ_eq]
  exact (sortZ_perm l).filter _
theorem keysZ_strict {l : List Int} (h : tblB l = true) : (keysZ l).Pairwise (· < ·) := by
  have hn := (keysZ_perm l).nodup_iff.mpr (filter_nodup (tbl_dist h))
  refine strict_of ?_ hn
  rw [keysZ_eq]
  exact (sortZ_le l).filter _
theorem keysZ_mem {l : List Int} {x : Int} : x ∈ keysZ l ↔ x ∈ l ∧ 0 ≤ x := by
  rw [(keysZ_perm l).mem_iff, List.mem_filter]
  simp
def manyTo (l : List Int) : Nat → Nat
  | 0 => 0
  | q + 1 => manyTo l q + (if l.getD q 0 = -1 then 0 else 1)
theorem manyTo_le (l : List Int) : ∀ q, manyTo l q ≤ q
  | 0 => by simp [manyTo]
  | q + 1 => by have := manyTo_le l q; rw [manyTo]; split <;> omega
theorem manyTo_eq (l : List Int) (hr : ∀ j, j < l.length → -1 ≤ l.getD j 0) : ∀ q, q ≤ l.length → manyTo l q = ((l.take q).filter fun x => decide (0 ≤ x)).length
  | 0, _ => by simp [manyTo]
  | q + 1, h => by
    have := hr q (by omega)
    rw [manyTo, manyTo_eq l hr q (by omega), take_succ_getD (by omega), List.filter_append, List.length_append]
    congr 1
    by_cases e : l.getD q 0 = -1
    · rw [if_pos e, e]; rfl
    · rw [if_neg e, List.filter_cons, if_pos (decide_eq_true (by omega))]; rfl
theorem prMany_ev (l : List Int) (hn : l.length ≤ 1000000) : Ev (fun k => spec_prMany.f k l) ((manyTo l l.length : Nat) : Int) := by
  unfold spec_prMany.f
  have := Ev.up0 l.length (fun q => ((manyTo l q : Nat) : Int)) (fun k s q => spec_prMany.l0 k s l (l.length : Int) q) ((manyTo l l.length : Nat) : Int) (fun q hq h => ?_) (Ev.end_ fun k => ?_)
  · simpa [manyTo] using this
  · have hm := manyTo_le l q
    refine Ev.one h fun k => ?_
    rw [spec_prMany.l0, if_pos (by omega), if_pos (by omega), if_pos (by omega), rd_nat, wrap_next (n := l.length) hq (by omega), manyTo]
    by_cases hf : l.getD q 0 = -1
    · rw [if_pos hf, if_pos hf]; rfl
    · rw [if_neg hf, if_neg hf, wrap_next (n := 2000000) (by omega) (by omega)]
  · rw [spec_prMany.l0, if_neg (by omega)]
theorem many_keysZ {l : List Int} (hr : ∀ j, j < l.length → -1 ≤ l.getD j 0) : manyTo l l.length = (keysZ l).length := by
  rw [manyTo_eq l hr l.length (Nat.le_refl _), List.take_length, (keysZ_perm l).length_eq]
end Go.Proofs.Ytmhlcpofnmcifaa.G
namespace Go.Proofs.Ytmhlcpofnmcifaa.G
open Go.RowKit Go.Lib Go.Proofs.YtmhlcpofnmcifaaW.PrintWords Go.Proofs.YtmhlcpofnmcifaaW.PrintLast Go.Proofs.YtmhlcpofnmcifaaW.PrintMore
set_option linter.unusedVariables false
set_option linter.unusedSimpArgs false
def slices_Repeat_int_int.f (l0 : List Int) (a1 : Int) : Option (List Int) := if l0.length = 1 ∧ 0 ≤ a1 ∧ a1 ≤ 1000000 then some (List.replicate a1.toNat (rd l0 0)) else none
end Go.Proofs.Ytmhlcpofnmcifaa.G
namespace TabT
/-- A place on a circle of n, from below 2 n. -/
def cy (n i : Nat) : Nat := if i < n then i else i - n
theorem cy_mod {n i : Nat} (h : i < 2 * n) : i % n = cy n i := by
  unfold cy
  split
  · exact Nat.mod_eq_of_lt ‹_›
  · rw [Nat.mod_eq_sub_mod (by omega), Nat.mod_eq_of_lt (by omega)]
theorem cy_lt {n i : Nat} (h : i < 2 * n) : cy n i < n := by unfold cy; split <;> omega
/-- Is the cell used? -/
def us (t : List Int) (i : Nat) : Bool := decide (0 ≤ t.getD i (-1))
theorem us_lt {t : List Int} {i : Nat} (h : us t i = true) : i < t.length := by
  rcases Nat.lt_or_ge i t.length with h1 | h1
  · exact h1
  · rw [us, List.getD_eq_getElem?_getD, List.getElem?_eq_none h1] at h; simp at h
theorem getD_set (t : List Int) (p i : Nat) (k d : Int) (hp : p < t.length) : (t.set p k).getD i d = if i = p then k else t.getD i d := by
  rw [List.getD_eq_getElem?_getD, List.getElem?_set, List.getD_eq_getElem?_getD]
  by_cases e : p = i
  · subst e; simp [hp]
  · simp [e, Ne.symm e]
theorem us_set (t : List Int) (p i : Nat) (k : Int) (hp : p < t.length) (hk : 0 ≤ k) : us (t.set p k) i = (decide (i = p) || us t i) := by
  unfold us
  rw [getD_set _ _ _ _ _ hp]
  by_cases e : i = p
  · simp [e, hk]
  · simp [e]
/-- The first free cell from a on: how far it is. -/
def ffFrom (t : List Int) (a : Nat) : Nat → Nat → Nat
  | 0, d => d
  | k + 1, d => if us t (cy t.length (a + d)) = true then ffFrom t a k (d + 1) else d
def ff (t : List Int) (a : Nat) : Nat := ffFrom t a t.length 0
theorem ffFrom_eq (t : List Int) (a : Nat) (e : Nat) (hf : us t (cy t.length (a + e)) = false) :
    ∀ (k d : Nat), d ≤ e → e < d + k → (∀ m, d ≤ m → m < e → us t (cy t.length (a + m)) = true) → ffFrom t a k d = e
  | 0, d, h1, h2, _ => by omega
  | k + 1, d, h1, h2, hu => by
    unfold ffFrom
    by_cases c : d = e
    · subst c; rw [hf]; simp
    · rw [if_pos (hu d (Nat.le_refl _) (by omega))]
      exact ffFrom_eq t a e hf k (d + 1) (by omega) (by omega) (fun m h3 h4 => hu m (by omega) h4)
theorem ff_eq {t : List Int} {a e : Nat} (he : e < t.length) (hf : us t (cy t.length (a + e)) = false) (hu : ∀ m, m < e → us t (cy t.length (a + m)) = true) : ff t a = e :=
  ffFrom_eq t a e hf _ 0 (Nat.zero_le _) (by omega) (fun m _ h => hu m h)
/-- A least number. -/
theorem least_nat {p : Nat → Prop} [DecidablePred p] : ∀ (N : Nat), p N → ∃ e, e ≤ N ∧ p e ∧ ∀ m, m < e → ¬ p m
  | 0, h => ⟨0, Nat.le_refl _, h, fun m hm => absurd hm (Nat.not_lt_zero _)⟩
  | N + 1, h => by
    by_cases hx : ∃ m, m ≤ N ∧ p m
    · obtain ⟨m, hm, hp⟩ := hx
      obtain ⟨e, he, hpe, hle⟩ := least_nat m hp
      exact ⟨e, by omega, hpe, hle⟩
    · exact ⟨N + 1, Nat.le_refl _, h, fun m hm hp => hx ⟨m, by omega, hp⟩⟩
/-- There is a free cell. -/
def Free (t : List Int) : Prop := ∃ i, i < t.length ∧ us t i = false
theorem ff_spec {t : List Int} (hF : Free t) {a : Nat} (ha : a < t.length) :
    ff t a < t.length ∧ us t (cy t.length (a + ff t a)) = false ∧ ∀ m, m < ff t a → us t (cy t.length (a + m)) = true := by
  obtain ⟨i, hi, hu⟩ := hF
  have hx : us t (cy t.length (a + cy t.length (i + t.length - a))) = false := by
    have : cy t.length (a + cy t.length (i + t.length - a)) = i := by unfold cy; split <;> split <;> omega
    rw [this]; exact hu
  obtain ⟨e, he, hpe, hle⟩ := least_nat (p := fun e => us t (cy t.length (a + e)) = false) _ hx
  have hlt : e < t.length := by have : cy t.length (i + t.length - a) < t.length := cy_lt (by omega); omega
  have := ff_eq hlt hpe (fun m hm => by simpa using hle m hm)
  rw [this]
  exact ⟨hlt, hpe, fun m hm => by simpa using hle m hm⟩
/-- A key's own cell. -/
def own (n : Nat) (k : Int) : Nat := (k % (n : Int)).toNat
theorem own_lt {n : Nat} (hn : 0 < n) (k : Int) : own n k < n := by
  unfold own
  have := Int.emod_lt_of_pos k (show (0 : Int) < n by omega)
  have := Int.emod_nonneg k (show (n : Int) ≠ 0 by omega)
  omega
/-- Where a key goes. -/
def pos (t : List Int) (k : Int) : Nat := cy t.length (own t.length k + ff t (own t.length k))
def ins (t : List Int) (k : Int) : List Int := t.set (pos t k) k
@[simp] theorem length_ins (t : List Int) (k : Int) : (ins t k).length = t.length := by simp [ins]
/-- What a key costs in a cell. -/
def cost (n i : Nat) (k : Int) : Nat := cy n (i + n - own n k)
theorem cost_lt {n i : Nat} (hi : i < n) (k : Int) : cost n i k < n := cy_lt (by have := own_lt (n := n) (by omega) k; omega)
theorem own_cost {n i : Nat} (hi : i < n) (k : Int) : cy n (own n k + cost n i k) = i := by
  have := own_lt (n := n) (by omega) k
  unfold cost cy; split <;> split <;> omega
theorem cost_own {n d : Nat} (hd : d < n) (k : Int) : cost n (cy n (own n k + d)) k = d := by
  have := own_lt (n := n) (by omega) k
  unfold cost cy; split <;> split <;> omega
theorem pos_lt {t : List Int} (hF : Free t) (k : Int) : pos t k < t.length := by
  have hn : 0 < t.length := by obtain ⟨i, hi, _⟩ := hF; omega
  have ho := own_lt hn k
  have := (ff_spec hF ho).1
  exact cy_lt (by omega)
theorem pos_free {t : List Int} (hF : Free t) (k : Int) : us t (pos t k) = false := by
  have hn : 0 < t.length := by obtain ⟨i, hi, _⟩ := hF; omega
  exact (ff_spec hF (own_lt hn k)).2.1
/-- The sum of all costs. -/
def costs (t : List Int) : List Nat := t.mapIdx fun i k => if 0 ≤ k then cost t.length i k else 0
/-- Alike in their used cells. -/
def Alike (t u : List Int) : Prop := t.length = u.length ∧ ∀ i, us t i = us u i
theorem Alike.refl (t : List Int) : Alike t t := ⟨rfl, fun _ => rfl⟩
theorem Alike.symm {t u : List Int} (h : Alike t u) : Alike u t := ⟨h.1.symm, fun i => (h.2 i).symm⟩
theorem Alike.trans {t u v : List Int} (h : Alike t u) (k : Alike u v) : Alike t v := ⟨h.1.trans k.1, fun i => (h.2 i).trans (k.2 i)⟩
theorem Alike.free {t u : List Int} (h : Alike t u) (hF : Free t) : Free u := by
  obtain ⟨i, hi, hu⟩ := hF
  exact ⟨i, by have := h.1; omega, by rw [← h.2]; exact hu⟩
/-- How many cells are used. -/
def many (t : List Int) : Nat := (t.filter fun k => decide (0 ≤ k)).length
theorem free_of_many : ∀ (t : List Int), many t < t.length → Free t
  | [], h => by simp [many] at h
  | k :: t, h => by
    by_cases hk : 0 ≤ k
    · have : many t < t.length := by simp only [many, List.filter_cons, hk, decide_true, if_true, List.length_cons] at h ⊢; omega
      obtain ⟨i, hi, hu⟩ := free_of_many t this
      exact ⟨i + 1, by simp; omega, by simpa [us] using hu⟩
    · exact ⟨0, by simp, by simp [us]; omega⟩
theorem many_set : ∀ (t : List Int) (p : Nat) (k : Int), us t p = false → p < t.length → 0 ≤ k → many (t.set p k) = many t + 1
  | [], p, k, _, h, _ => by simp at h
  | x :: t, 0, k, hu, _, hk => by have : ¬ 0 ≤ x := by simpa [us] using hu
                                  simp [many, this, hk]
  | x :: t, p + 1, k, hu, hp, hk => by
    have := many_set t p k (by simpa [us] using hu) (by simpa using hp) hk
    simp only [many, List.set_cons_succ, List.filter_cons] at this ⊢
    split
    · simp only [List.length_cons]; omega
    · omega
theorem many_ins {t : List Int} (hF : Free t) {k : Int} (hk : 0 ≤ k) : many (ins t k) = many t + 1 := many_set _ _ _ (pos_free hF k) (pos_lt hF k) hk
/-- All keys, in order. -/
def insAll (t : List Int) (ks : List Int) : List Int := ks.foldl ins t
@[simp] theorem length_insAll (ks : List Int) : ∀ (t : List Int), (insAll t ks).length = t.length := by
  induction ks with
  | nil => intro t; rfl
  | cons k ks ih => intro t; simp only [insAll, List.foldl_cons] at ih ⊢; rw [ih]; simp
structure Valid (t : List Int) : Prop where
  free : Free t
  ge : ∀ i, i < t.length → -1 ≤ t.getD i (-1)
  nodup : ∀ i j, us t i = true → us t j = true → t.getD i (-1) = t.getD j (-1) → i = j
  path : ∀ i, us t i = true → ∀ m, m < cost t.length i (t.getD i (-1)) → us t (cy t.length (own t.length (t.getD i (-1)) + m)) = true
/-- A part of a table. -/
def Part (p t : List Int) : Prop := p.length = t.length ∧ ∀ i, us p i = true → us t i = true ∧ p.getD i (-1) = t.getD i (-1)
/-- The key of a cell may come next. -/
def Ready (t p : List Int) (i : Nat) : Prop := us t i = true ∧ us p i = false ∧ ∀ m, m < cost t.length i (t.getD i (-1)) → us p (cy t.length (own t.length (t.getD i (-1)) + m)) = true
theorem exists_ready {t p : List Int} (hV : Valid t) (hne : ∃ i, us t i = true ∧ us p i = false) : ∃ i, Ready t p i := by
  obtain ⟨g, hg, hgu⟩ := hV.free
  obtain ⟨i0, h1, h2⟩ := hne
  have hi0 := us_lt h1
  have hx : 1 ≤ cy t.length (i0 + t.length - g) ∧ us t (cy t.length (g + cy t.length (i0 + t.length - g))) = true ∧ us p (cy t.length (g + cy t.length (i0 + t.length - g))) = false := by
    have e : cy t.length (g + cy t.length (i0 + t.length - g)) = i0 := by unfold cy; split <;> split <;> omega
    rw [e]
    refine ⟨?_, h1, h2⟩
    have : i0 ≠ g := fun e => by rw [e, hgu] at h1; cases h1
    unfold cy; split <;> omega
  obtain ⟨e, he, ⟨he1, hp1, hp2⟩, hle⟩ := least_nat (p := fun e => 1 ≤ e ∧ us t (cy t.length (g + e)) = true ∧ us p (cy t.length (g + e)) = false) _ hx
  have hen : e < t.length := by have : cy t.length (i0 + t.length - g) < t.length := cy_lt (by omega); omega
  refine ⟨_, hp1, hp2, fun m hm => ?_⟩
  have hi := us_lt hp1
  generalize hk : t.getD (cy t.length (g + e)) (-1) = k at hm ⊢
  have hpath := hV.path _ hp1
  rw [hk] at hpath
  have ho := own_lt (n := t.length) (by omega) k
  have hc := cost_lt hi k
  have hoc := own_cost hi k
  generalize hcc : cost t.length (cy t.length (g + e)) k = c at *
  generalize own t.length k = o at *
  have hce : c < e := by
    rcases Nat.lt_or_ge c e with h | h
    · exact h
    · have := hpath (c - e) (by omega)
      have e1 : cy t.length (o + (c - e)) = g := by revert hoc; unfold cy; split <;> split <;> split <;> omega
      rw [e1, hgu] at this; cases this
  have hu := hpath m hm
  have e2 : cy t.length (o + m) = cy t.length (g + (e - c + m)) := by revert hoc; unfold cy; split <;> split <;> split <;> split <;> omega
  rw [e2] at hu ⊢
  cases hq : us p (cy t.length (g + (e - c + m))) with
  | true => rfl
  | false => exact absurd ⟨by omega, hu, hq⟩ (hle (e - c + m) (by omega))
theorem Part.free {p t : List Int} (hP : Part p t) (hF : Free t) : Free p := by
  obtain ⟨i, hi, hu⟩ := hF
  refine ⟨i, by rw [hP.1]; exact hi, ?_⟩
  cases h : us p i with
  | false => rfl
  | true => rw [(hP.2 i h).1] at hu; cases hu
/-- The key that may come next comes to its cell. -/
theorem ready_pos {t p : List Int} (hP : Part p t) {i : Nat} (hR : Ready t p i) : pos p (t.getD i (-1)) = i := by
  have hi := us_lt hR.1
  have : ff p (own t.length (t.getD i (-1))) = cost t.length i (t.getD i (-1)) := by
    apply ff_eq
    · rw [hP.1]; exact cost_lt hi _
    · rw [hP.1, own_cost hi]; exact hR.2.1
    · intro m hm; rw [hP.1]; exact hR.2.2 m hm
  unfold pos
  rw [hP.1, this, own_cost hi]
theorem Part.set {p t : List Int} (hP : Part p t) {i : Nat} (hu : us t i = true) : Part (p.set i (t.getD i (-1))) t := by
  have hi := us_lt hu
  refine ⟨by simpa using hP.1, fun j hj => ?_⟩
  rw [us_set _ _ _ _ (by rw [hP.1]; exact hi) (by simpa [us] using hu)] at hj
  rw [getD_set _ _ _ _ _ (by rw [hP.1]; exact hi)]
  by_cases e : j = i
  · subst e; simp [hu]
  · simp [e] at hj ⊢; exact hP.2 j hj
/-- A part in which all cells are used that are used in the whole. -/
theorem Part.full {p t : List Int} (hP : Part p t) (hg : ∀ i, i < t.length → -1 ≤ t.getD i (-1)) (hp : ∀ i, i < p.length → -1 ≤ p.getD i (-1)) (h : ∀ i, us t i = true → us p i = true) : p = t := by
  apply List.ext_getElem hP.1
  intro i h1 h2
  have e1 : p.getD i (-1) = p[i] := by rw [List.getD_eq_getElem?_getD, List.getElem?_eq_getElem h1]; rfl
  have e2 : t.getD i (-1) = t[i] := by rw [List.getD_eq_getElem?_getD, List.getElem?_eq_getElem h2]; rfl
  cases hu : us t i with
  | true => rw [← e1, ← e2]; exact (hP.2 i (h i hu)).2
  | false =>
    have hq : us p i = false := by
      cases hq : us p i with
      | false => rfl
      | true => rw [(hP.2 i hq).1] at hu; cases hu
    have a := hg i h2
    have b := hp i h1
    simp only [us, decide_eq_false_iff_not] at hu hq
    omega
/-- All but the paths through the hole are as in a table. -/
structure Holed (t : List Int) (h : Nat) : Prop where
  hole : h < t.length ∧ t.getD h (-1) = -1
  other : ∃ g, g < t.length ∧ g ≠ h ∧ us t g = false
  ge : ∀ i, i < t.length → -1 ≤ t.getD i (-1)
  nodup : ∀ i j, us t i = true → us t j = true → t.getD i (-1) = t.getD j (-1) → i = j
  path : ∀ i, us t i = true → ∀ m, m < cost t.length i (t.getD i (-1)) → cy t.length (own t.length (t.getD i (-1)) + m) ≠ h → us t (cy t.length (own t.length (t.getD i (-1)) + m)) = true
theorem Holed.valid {t : List Int} {h k : Nat} (hH : Holed t h) (hk : k < t.length) (h1 : 1 ≤ k) (hfree : us t (cy t.length (h + k)) = false)
    (hu : ∀ m, 1 ≤ m → m < k → us t (cy t.length (h + m)) = true ∧ cost t.length (cy t.length (h + m)) (t.getD (cy t.length (h + m)) (-1)) < m) : Valid t := by
  have hn : 0 < t.length := by omega
  have hh := hH.hole.1
  refine ⟨⟨h, hh, by rw [us, hH.hole.2]; rfl⟩, hH.ge, hH.nodup, fun i hi m hm => ?_⟩
  by_cases e : cy t.length (own t.length (t.getD i (-1)) + m) = h
  · -- the cell i lies behind the hole, before the free cell
    exfalso
    have hil := us_lt hi
    have ho := own_lt hn (t.getD i (-1))
    have hc := cost_lt hil (t.getD i (-1))
    have hoc := own_cost hil (t.getD i (-1))
    have hpath := hH.path i hi
    generalize hcc : cost t.length i (t.getD i (-1)) = c at *
    generalize own t.length (t.getD i (-1)) = o at *
    -- i = h + (c - m)
    have ei : i = cy t.length (h + (c - m)) := by revert e hoc; unfold cy; split <;> split <;> split <;> omega
    rcases Nat.lt_or_ge (c - m) k with hlt | hge
    · have := (hu (c - m) (by omega) hlt).2
      rw [← ei, hcc] at this
      omega
    · have hne : cy t.length (o + (m + k)) = cy t.length (h + k) := by revert e; unfold cy; split <;> split <;> split <;> omega
      rcases Nat.lt_or_ge (m + k) c with hmk | hmk
      · have := hpath (m + k) hmk (by rw [hne]; unfold cy; split <;> omega)
        rw [hne, hfree] at this; cases this
      · have : c - m = k := by omega
        rw [this] at ei
        rw [ei, hfree] at hi; cases hi
  · exact hH.path i hi m hm e
def keys (t : List Int) : List Int := t.filter fun k => decide (0 ≤ k)
theorem keys_set : ∀ (t : List Int) (p : Nat) (k : Int), p < t.length → us t p = false → 0 ≤ k → (keys (t.set p k)).Perm (k :: keys t)
  | [], p, k, h, _, _ => by simp at h
  | x :: t, 0, k, _, hu, hk => by
    have : ¬ 0 ≤ x := by simpa [us] using hu
    simp [keys, this, hk]
  | x :: t, p + 1, k, h, hu, hk => by
    have ih := keys_set t p k (by simpa using h) (by simpa [us] using hu) hk
    simp only [keys, List.set_cons_succ, List.filter_cons] at ih ⊢
    split
    · exact (ih.cons x).trans (List.Perm.swap _ _ _)
    · exact ih
theorem mem_keys {t : List Int} {k : Int} : k ∈ keys t ↔ ∃ i, us t i = true ∧ t.getD i (-1) = k := by
  unfold keys
  rw [List.mem_filter, List.mem_iff_getElem]
  constructor
  · rintro ⟨⟨i, hi, rfl⟩, hk⟩
    have e : t.getD i (-1) = t[i] := by rw [List.getD_eq_getElem?_getD, List.getElem?_eq_getElem hi]; rfl
    exact ⟨i, by rw [us, e]; exact hk, e⟩
  · rintro ⟨i, hu, rfl⟩
    have hi := us_lt hu
    have e : t.getD i (-1) = t[i] := by rw [List.getD_eq_getElem?_getD, List.getElem?_eq_getElem hi]; rfl
    exact ⟨⟨i, hi, e.symm⟩, by rw [us] at hu; exact hu⟩
def empty (n : Nat) : List Int := List.replicate n (-1)
theorem us_empty (n i : Nat) : us (empty n) i = false := by
  unfold us empty
  rw [List.getD_eq_getElem?_getD, List.getElem?_replicate]
  split <;> simp
theorem keys_empty (n : Nat) : keys (empty n) = [] := by
  unfold keys empty
  rw [List.filter_eq_nil_iff]
  intro x hx
  rw [List.mem_replicate] at hx
  simp [hx.2]
theorem many_keys (t : List Int) : many t = (keys t).length := rfl
theorem Part.keys_le {p t : List Int} (hP : Part p t) : many p ≤ many t := by
  have key : ∀ (p t : List Int), p.length = t.length → (∀ i, us p i = true → us t i = true) → many p ≤ many t := by
    intro p
    induction p with
    | nil => intro t _ _; simp [many]
    | cons x p ih =>
      intro t hl hu
      cases t with
      | nil => simp at hl
      | cons y t =>
        have h0 := hu 0
        have := ih t (by simpa using hl) (fun i hi => by simpa [us] using hu (i + 1) (by simpa [us] using hi))
        simp [us] at h0
        simp only [many, List.filter_cons] at this ⊢
        by_cases hx : 0 ≤ x
        · have hy := h0 hx
          simp only [hx, hy, decide_true, if_true, List.length_cons]; omega
        · simp only [hx, decide_false, Bool.false_eq_true, if_false]
          split
          · simp only [List.length_cons]; omega
          · omega
  exact key p t hP.1 (fun i hi => (hP.2 i hi).1)
/-- From a part, the keys that are left in an order that makes the table. -/
theorem complete {t : List Int} (hV : Valid t) : ∀ (d : Nat) (p : List Int), Part p t → (∀ i, i < p.length → -1 ≤ p.getD i (-1)) → many t ≤ many p + d → ∃ ks, insAll p ks = t ∧ (keys p ++ ks).Perm (keys t) ∧ many p + ks.length = many t := by
  intro d
  induction d with
  | zero =>
    intro p hP hg hm
    refine ⟨[], ?_, ?_⟩
    · show p = t
      apply Classical.byContradiction
      intro hne
      have : ∃ i, us t i = true ∧ us p i = false := by
        apply Classical.byContradiction
        intro hn
        exact hne (hP.full hV.ge hg fun i hi => by
          cases h : us p i with
          | true => rfl
          | false => exact absurd ⟨i, hi, h⟩ hn)
      obtain ⟨i, hi, hpi⟩ := this
      have := Part.keys_le (hP.set hi)
      rw [many_set p i _ hpi (by rw [hP.1]; exact us_lt hi) (by simpa [us] using hi)] at this
      omega
    · have hle := hP.keys_le
      have : p = t := by
        apply Classical.byContradiction
        intro hne
        have : ∃ i, us t i = true ∧ us p i = false := by
          apply Classical.byContradiction
          intro hn
          exact hne (hP.full hV.ge hg fun i hi => by
            cases h : us p i with
            | true => rfl
            | false => exact absurd ⟨i, hi, h⟩ hn)
        obtain ⟨i, hi, hpi⟩ := this
        have := Part.keys_le (hP.set hi)
        rw [many_set p i _ hpi (by rw [hP.1]; exact us_lt hi) (by simpa [us] using hi)] at this
        omega
      rw [this]; simp
  | succ d ih =>
    intro p hP hg hm
    by_cases hx : ∃ i, us t i = true ∧ us p i = false
    · obtain ⟨i, hR⟩ := exists_ready hV hx
      have hk : 0 ≤ t.getD i (-1) := by have := hR.1; rw [us] at this; exact of_decide_eq_true this
      have hip : i < p.length := by rw [hP.1]; exact us_lt hR.1
      have e : ins p (t.getD i (-1)) = p.set i (t.getD i (-1)) := by rw [ins, ready_pos hP hR]
      obtain ⟨ks, h1, h2, h3⟩ := ih (ins p (t.getD i (-1))) (by rw [e]; exact hP.set hR.1) (by
        intro j hj
        rw [e, getD_set _ _ _ _ _ hip]
        split
        · omega
        · exact hg j (by simpa using hj)) (by rw [e, many_set p i _ hR.2.1 hip hk]; omega)
      rw [e, many_set p i _ hR.2.1 hip hk] at h3
      refine ⟨t.getD i (-1) :: ks, h1, ?_, by simp; omega⟩
      have hp := keys_set p i _ hip hR.2.1 hk
      rw [← e] at hp
      refine List.Perm.trans ?_ h2
      refine List.Perm.trans ?_ (hp.symm.append_right ks)
      rw [List.cons_append]
      exact List.perm_middle
    · have : p = t := hP.full hV.ge hg fun i hi => by
          cases h : us p i with
          | true => rfl
          | false => exact absurd ⟨i, hi, h⟩ hx
      exact ⟨[], by rw [this]; rfl, by rw [this]; simp, by rw [this]; rfl⟩
theorem Part.empty (t : List Int) : Part (empty t.length) t := ⟨by simp [TabT.empty], fun i hi => by rw [us_empty] at hi; cases hi⟩
theorem ge_empty (n : Nat) : ∀ i, i < (empty n).length → -1 ≤ (empty n).getD i (-1) := by
  intro i _
  unfold empty
  rw [List.getD_eq_getElem?_getD, List.getElem?_replicate]
  split <;> simp
theorem Valid.order {t : List Int} (hV : Valid t) : ∃ ks, insAll (empty t.length) ks = t ∧ ks.Perm (keys t) := by
  obtain ⟨ks, h1, h2, _⟩ := complete hV (many t) (empty t.length) (Part.empty t) (ge_empty _) (by omega)
  rw [keys_empty] at h2
  exact ⟨ks, h1, h2⟩
/-- A key in a cell comes ahead of another one in the next cell. -/
def Bef (n i : Nat) (x y : Int) : Prop := cost n (cy n (i + 1)) y < cost n i x + 1 ∨ cost n (cy n (i + 1)) y = cost n i x + 1 ∧ y < x
structure Robin (t : List Int) : Prop where
  valid : Valid t
  sorted : ∀ i, us t i = true → us t (cy t.length (i + 1)) = true → Bef t.length i (t.getD i (-1)) (t.getD (cy t.length (i + 1)) (-1))
def Over (n i : Nat) (h o : Int) : Prop := cost n i o < cost n i h ∨ cost n i h = cost n i o ∧ o < h
instance (n i : Nat) (h o : Int) : Decidable (Over n i h o) := by unfold Over; infer_instance
/-- What holds at a cell, with a key in hand. -/
structure Hand (t : List Int) (h : Int) (a : Nat) : Prop where
  robin : Robin t
  two : 2 ≤ t.length
  at_ : a < t.length
  pos : 0 ≤ h
  new : ∀ i, us t i = true → t.getD i (-1) ≠ h
  path : ∀ m, m < cost t.length a h → us t (cy t.length (own t.length h + m)) = true
  ahead : us t (cy t.length (a + t.length - 1)) = true → Bef t.length (cy t.length (a + t.length - 1)) (t.getD (cy t.length (a + t.length - 1)) (-1)) h
theorem cost_next {n a : Nat} (ha : a < n) (h2 : 2 ≤ n) (h : Int) (hc : cost n a h + 1 < n) : cost n (cy n (a + 1)) h = cost n a h + 1 := by
  have ho := own_lt (n := n) (by omega) h
  revert hc
  unfold cost cy
  generalize own n h = o at *
  split <;> split <;> split <;> omega
theorem prev_next {n a : Nat} (ha : a < n) (h2 : 2 ≤ n) : cy n (cy n (a + 1) + n - 1) = a := by unfold cy; split <;> split <;> omega
theorem next_prev {n a : Nat} (ha : a < n) (h2 : 2 ≤ n) : cy n (cy n (a + n - 1) + 1) = a := by unfold cy; split <;> split <;> omega
theorem next_ne {n a : Nat} (ha : a < n) (h2 : 2 ≤ n) : cy n (a + 1) ≠ a := by unfold cy; split <;> omega
/-- A key whose path is used up to a used cell costs less than n - 1 there. -/
theorem cost_small {t : List Int} (hF : Free t) {a : Nat} {h : Int} (ha : us t a = true) (hp : ∀ m, m < cost t.length a h → us t (cy t.length (own t.length h + m)) = true) : cost t.length a h + 1 < t.length := by
  have hal := us_lt ha
  have hc := cost_lt hal h
  have hoc := own_cost hal h
  have ho := own_lt (n := t.length) (by omega) h
  apply Classical.byContradiction
  intro hn
  obtain ⟨g, hg, hgu⟩ := hF
  have hcn : cost t.length a h = t.length - 1 := by omega
  generalize cost t.length a h = c at *
  generalize own t.length h = o at *
  -- the free cell is some o + m
  have e : cy t.length (o + cy t.length (g + t.length - o)) = g := by unfold cy; split <;> split <;> omega
  have hm : cy t.length (g + t.length - o) < t.length := cy_lt (by omega)
  rcases Nat.lt_or_ge (cy t.length (g + t.length - o)) c with h1 | h1
  · have := hp _ h1
    rw [e, hgu] at this; cases this
  · have : cy t.length (g + t.length - o) = c := by omega
    rw [this, hoc] at e
    rw [← e, ha] at hgu; cases hgu
theorem us_same {t : List Int} {a : Nat} {h : Int} (ha : us t a = true) (hh : 0 ≤ h) (i : Nat) : us (t.set a h) i = us t i := by
  rw [us_set _ _ _ _ (us_lt ha) hh]
  by_cases e : i = a
  · subst e; simp [ha]
  · simp [e]
theorem Hand.swap {t : List Int} {h : Int} {a : Nat} (H : Hand t h a) (hu : us t a = true) (ho : Over t.length a h (t.getD a (-1))) : Hand (t.set a h) (t.getD a (-1)) (cy t.length (a + 1)) := by
  have hal := H.at_
  have h2 := H.two
  have hV := H.robin.valid
  have us' : ∀ i, us (t.set a h) i = us t i := us_same hu H.pos
  have gd : ∀ i, (t.set a h).getD i (-1) = if i = a then h else t.getD i (-1) := fun i => getD_set _ _ _ _ _ hal
  have hl : (t.set a h).length = t.length := by simp
  obtain ⟨o, hoe⟩ : ∃ o, o = t.getD a (-1) := ⟨_, rfl⟩
  have hpo := hV.path a hu
  rw [← hoe] at ho hpo ⊢
  have ho0 : 0 ≤ o := by rw [us] at hu; rw [hoe]; exact of_decide_eq_true hu
  have hsm := cost_small hV.free hu hpo
  have hcn := cost_next hal h2 o hsm
  have hnew := H.new
  refine ⟨⟨⟨?_, ?_, ?_, ?_⟩, ?_⟩, by rw [hl]; exact h2, by rw [hl]; exact cy_lt (by omega), ho0, ?_, ?_, ?_⟩
  · obtain ⟨g, hg, hgu⟩ := hV.free
    exact ⟨g, by rw [hl]; exact hg, by rw [us']; exact hgu⟩
  · intro i hi
    rw [gd]
    split
    · have := H.pos; omega
    · exact hV.ge i (by rw [hl] at hi; exact hi)
  · intro i j hi hj
    rw [us'] at hi hj
    rw [gd, gd]
    split
    · split
      · intro _; omega
      · intro e; exact absurd e.symm (hnew j hj)
    · split
      · intro e; exact absurd e (hnew i hi)
      · exact hV.nodup i j hi hj
  · intro i hi m hm
    rw [us'] at hi
    rw [gd, hl] at hm ⊢
    rw [us']
    split
    · rename_i e; subst e; rw [if_pos rfl] at hm; exact H.path m hm
    · rename_i e; rw [if_neg e] at hm; exact hV.path i hi m hm
  · intro i hi hi1
    rw [us', hl] at hi1
    rw [us'] at hi
    rw [gd, gd, hl]
    have hil := us_lt hi
    by_cases e1 : i = a
    · subst e1
      rw [if_pos rfl, if_neg (next_ne hal h2)]
      have := H.robin.sorted i hi hi1
      rw [← hoe] at this
      unfold Bef at this ⊢
      unfold Over at ho
      omega
    · rw [if_neg e1]
      by_cases e2 : cy t.length (i + 1) = a
      · rw [if_pos e2]
        have ep : cy t.length (a + t.length - 1) = i := by rw [← e2]; exact prev_next hil h2
        have := H.ahead
        rw [ep] at this
        exact this hi
      · rw [if_neg e2]
        exact H.robin.sorted i hi hi1
  · intro i hi
    rw [us'] at hi
    rw [gd]
    split
    · intro e
      exact hnew a hu (by rw [← hoe, e])
    · rename_i e
      intro e'
      exact e (hV.nodup i a hi hu (by rw [e', hoe]))
  · intro m hm
    rw [hl] at hm ⊢
    rw [us']
    rw [hcn] at hm
    rcases Nat.lt_or_ge m (cost t.length a o) with h1 | h1
    · exact hpo m h1
    · have : m = cost t.length a o := by omega
      rw [this, own_cost hal]; exact hu
  · rw [hl, prev_next hal h2]
    intro _
    rw [gd, if_pos rfl]
    unfold Bef
    rw [hcn]
    unfold Over at ho
    omega
theorem Hand.put {t : List Int} {h : Int} {a : Nat} (H : Hand t h a) (hu : us t a = false) (hm : many t + 1 < t.length) : Robin (t.set a h) := by
  have hal := H.at_
  have h2 := H.two
  have hV := H.robin.valid
  have us' : ∀ i, us (t.set a h) i = (decide (i = a) || us t i) := fun i => us_set _ _ _ _ hal H.pos
  have gd : ∀ i, (t.set a h).getD i (-1) = if i = a then h else t.getD i (-1) := fun i => getD_set _ _ _ _ _ hal
  have hl : (t.set a h).length = t.length := by simp
  have ua : ∀ i, us t i = true → i ≠ a := fun i hi e => by rw [e, hu] at hi; cases hi
  refine ⟨⟨?_, ?_, ?_, ?_⟩, ?_⟩
  · exact free_of_many _ (by rw [many_set t a h hu hal H.pos, hl]; exact hm)
  · intro i hi
    rw [gd]
    split
    · have := H.pos; omega
    · exact hV.ge i (by rw [hl] at hi; exact hi)
  · intro i j hi hj
    rw [us'] at hi hj
    rw [gd, gd]
    by_cases e1 : i = a
    · by_cases e2 : j = a
      · intro _; omega
      · rw [if_pos e1, if_neg e2]
        simp [e2] at hj
        intro e; exact absurd e.symm (H.new j hj)
    · simp [e1] at hi
      by_cases e2 : j = a
      · rw [if_neg e1, if_pos e2]
        intro e; exact absurd e (H.new i hi)
      · simp [e2] at hj
        rw [if_neg e1, if_neg e2]
        exact hV.nodup i j hi hj
  · intro i hi m hm'
    rw [us'] at hi
    rw [gd, hl] at hm' ⊢
    rw [us']
    by_cases e1 : i = a
    · rw [if_pos e1] at hm' ⊢
      subst e1
      rw [H.path m hm']; simp
    · simp [e1] at hi
      rw [if_neg e1] at hm' ⊢
      rw [hV.path i hi m hm']; simp
  · intro i hi hi1
    rw [hl] at hi1 ⊢
    rw [us'] at hi hi1
    rw [gd, gd]
    by_cases e1 : i = a
    · subst e1
      have hne := next_ne hal h2
      rw [if_pos rfl, if_neg hne]
      simp [hne] at hi1
      -- the key behind has its own cell there
      have hil := us_lt hi1
      have hp := hV.path _ hi1
      have hc0 : cost t.length (cy t.length (i + 1)) (t.getD (cy t.length (i + 1)) (-1)) = 0 := by
        have hoc := own_cost hil (t.getD (cy t.length (i + 1)) (-1))
        have hlt := cost_lt hil (t.getD (cy t.length (i + 1)) (-1))
        have ho := own_lt (n := t.length) (by omega) (t.getD (cy t.length (i + 1)) (-1))
        generalize cost t.length (cy t.length (i + 1)) (t.getD (cy t.length (i + 1)) (-1)) = c at *
        generalize own t.length (t.getD (cy t.length (i + 1)) (-1)) = o at *
        rcases Nat.eq_zero_or_pos c with h0 | h0
        · exact h0
        · have := hp (c - 1) (by omega)
          have e : cy t.length (o + (c - 1)) = i := by revert hoc; unfold cy; split <;> split <;> split <;> omega
          rw [e, hu] at this; cases this
      unfold Bef
      rw [hc0]
      omega
    · simp [e1] at hi
      rw [if_neg e1]
      by_cases e2 : cy t.length (i + 1) = a
      · rw [if_pos e2]
        have ep : cy t.length (a + t.length - 1) = i := by rw [← e2]; exact prev_next (us_lt hi) h2
        have := H.ahead
        rw [ep] at this
        exact this hi
      · simp [e2] at hi1
        rw [if_neg e2]
        exact H.robin.sorted i hi hi1
theorem Robin.hand {t : List Int} (hR : Robin t) (h2 : 2 ≤ t.length) {k : Int} (hk : 0 ≤ k) (hn : k ∉ keys t) : Hand t k (own t.length k) := by
  have ho := own_lt (n := t.length) (by omega) k
  have hc : cost t.length (own t.length k) k = 0 := by unfold cost cy; split <;> omega
  refine ⟨hR, h2, ho, hk, ?_, ?_, ?_⟩
  · intro i hi e
    exact hn (mem_keys.2 ⟨i, hi, e⟩)
  · intro m hm; rw [hc] at hm; omega
  · intro _
    unfold Bef
    rw [next_prev ho h2, hc]
    omega
theorem Valid.empty {n : Nat} (h : 0 < n) : Valid (empty n) :=
  ⟨⟨0, by simp [TabT.empty, h], us_empty n 0⟩, ge_empty n, fun i j hi => (by rw [us_empty] at hi; cases hi), fun i hi => (by rw [us_empty] at hi; cases hi)⟩
theorem Robin.empty {n : Nat} (h : 0 < n) : Robin (empty n) := ⟨Valid.empty h, fun i hi => (by rw [us_empty] at hi; cases hi)⟩
/-- How far behind the cell g a key's own cell lies. -/
def off (n g : Nat) (k : Int) : Nat := cy n (own n k + n - g)
theorem off_spec {t : List Int} (hV : Valid t) {g : Nat} (hg : g < t.length) (hgu : us t g = false) {e : Nat} (he : e < t.length) (hu : us t (cy t.length (g + e)) = true) :
    1 ≤ off t.length g (t.getD (cy t.length (g + e)) (-1)) ∧ off t.length g (t.getD (cy t.length (g + e)) (-1)) + cost t.length (cy t.length (g + e)) (t.getD (cy t.length (g + e)) (-1)) = e ∧
      ∀ m, off t.length g (t.getD (cy t.length (g + e)) (-1)) ≤ m → m ≤ e → us t (cy t.length (g + m)) = true := by
  have hil := us_lt hu
  have hp := hV.path _ hu
  have ho := own_lt (n := t.length) (by omega) (t.getD (cy t.length (g + e)) (-1))
  have hoc := own_cost hil (t.getD (cy t.length (g + e)) (-1))
  have hcl := cost_lt hil (t.getD (cy t.length (g + e)) (-1))
  unfold off
  generalize cost t.length (cy t.length (g + e)) (t.getD (cy t.length (g + e)) (-1)) = c at *
  generalize own t.length (t.getD (cy t.length (g + e)) (-1)) = o at *
  have he1 : e ≠ 0 := by
    intro h0
    have : cy t.length (g + e) = g := by rw [h0]; unfold cy; split <;> omega
    rw [this, hgu] at hu; cases hu
  have hce : c < e := by
    rcases Nat.lt_or_ge c e with h | h
    · exact h
    · have := hp (c - e) (by omega)
      have e1 : cy t.length (o + (c - e)) = g := by revert hoc; unfold cy; split <;> split <;> split <;> omega
      rw [e1, hgu] at this; cases this
  have hof : cy t.length (o + t.length - g) = e - c := by revert hoc; unfold cy; split <;> split <;> split <;> omega
  rw [hof]
  refine ⟨by omega, by omega, fun m h1 h2 => ?_⟩
  rcases Nat.lt_or_ge m e with h3 | h3
  · have := hp (m - (e - c)) (by omega)
    have e2 : cy t.length (o + (m - (e - c))) = cy t.length (g + m) := by revert hoc; unfold cy; split <;> split <;> split <;> split <;> omega
    rwa [e2] at this
  · have : m = e := by omega
    rw [this]; exact hu
/-- Along used cells, keys come in one order. -/
def Lt (n g : Nat) (x y : Int) : Prop := off n g x < off n g y ∨ off n g x = off n g y ∧ y < x
theorem Lt.trans {n g : Nat} {x y z : Int} (h : Lt n g x y) (k : Lt n g y z) : Lt n g x z := by unfold Lt at *; omega
theorem Robin.next {t : List Int} (hR : Robin t) {g : Nat} (hg : g < t.length) (hgu : us t g = false) {e : Nat} (he : e + 1 < t.length) (h1 : us t (cy t.length (g + e)) = true) (h2 : us t (cy t.length (g + (e + 1))) = true) :
    Lt t.length g (t.getD (cy t.length (g + e)) (-1)) (t.getD (cy t.length (g + (e + 1))) (-1)) := by
  have s1 := off_spec hR.valid hg hgu (by omega) h1
  have s2 := off_spec hR.valid hg hgu he h2
  have en : cy t.length (cy t.length (g + e) + 1) = cy t.length (g + (e + 1)) := by unfold cy; split <;> split <;> split <;> omega
  have := hR.sorted _ h1
  rw [en] at this
  have := this h2
  unfold Bef at this
  rw [en] at this
  unfold Lt
  omega
end TabT
namespace Go.Proofs.Ytmhlcpofnmcifaa.G
open Go.RowKit Go.Proofs.YtmhlcpofnmcifaaW.PrintWords Go.Proofs.YtmhlcpofnmcifaaW.PrintLast Go.Proofs.YtmhlcpofnmcifaaW.PrintMore
set_option linter.unusedVariables false
set_option linter.unusedSimpArgs false
set_option linter.unusedSectionVars false
theorem t_g0 {t : List Int} {i : Nat} (h : i < t.length) : t.getD i (-1) = t.getD i 0 := by
  rw [List.getD_eq_getElem?_getD, List.getD_eq_getElem?_getD, List.getElem?_eq_getElem h]; rfl
theorem us_val {t : List Int} {i : Nat} (h : TabT.us t i = true) : 0 ≤ t.getD i 0 := by
  have hi := TabT.us_lt h
  rw [TabT.us, decide_eq_true_eq, t_g0 hi] at h
  exact h
/-- What the cells of a table may hold. -/
def Cells (t : List Int) : Prop := ∀ i, i < t.length → -1 ≤ t.getD i 0 ∧ t.getD i 0 ≤ 999
theorem Cells.set {t : List Int} (h : Cells t) {p : Nat} {k : Int} (hp : p < t.length) (h0 : 0 ≤ k) (h9 : k ≤ 999) : Cells (t.set p k) := by
  intro i hi
  rw [List.length_set] at hi
  rw [TabT.getD_set _ _ _ _ _ hp]
  split
  · omega
  · exact h i hi
theorem Cells.empty (n : Nat) : Cells (TabT.empty n) := by
  intro i hi
  have hi2 : i < n := by simpa [TabT.empty] using hi
  unfold TabT.empty
  rw [List.getD_eq_getElem?_getD, List.getElem?_replicate, if_pos hi2]
  simp
theorem Cells.ins {t : List Int} (h : Cells t) (hF : TabT.Free t) {k : Int} (h0 : 0 ≤ k) (h9 : k ≤ 999) : Cells (TabT.ins t k) := h.set (TabT.pos_lt hF k) h0 h9
theorem t_prEmpty_ev (n : Nat) (hn : n ≤ 1000) : Ev (fun k => spec_prEmpty.f k (n : Int)) (TabT.empty n) := by
  unfold spec_prEmpty.f TabT.empty
  refine Ev.up0 n (fun q => List.replicate q (-1 : Int)) (fun k s q => spec_prEmpty.l0 k (n : Int) q s) (List.replicate n (-1)) (fun q hq h => Ev.one h fun k => ?_) (Ev.end_ fun k => ?_)
  · rw [spec_prEmpty.l0, if_pos (by omega), if_pos (by simp; omega), wrap_next (n := n) hq (by omega), List.replicate_succ']
  · rw [spec_prEmpty.l0, if_neg (by omega)]
/-- What holds when q of the keys are in. -/
structure Filled (n : Nat) (t : List Int) (q : Nat) : Prop where
  len_ : t.length = n
  cells : Cells t
  many_ : TabT.many t = q
theorem Filled.free {n q : Nat} {t : List Int} (h : Filled n t q) (hq : q < n) : TabT.Free t := TabT.free_of_many t (by rw [h.many_, h.len_]; exact hq)
theorem costN_cost {n key a : Nat} (ha : a < n) : costN n key a = TabT.cost n a (key : Int) := by
  have hm := Nat.mod_lt key (show 0 < n by omega)
  have ho : TabT.own n (key : Int) = key % n := by
    unfold TabT.own
    rw [show ((key : Int) % (n : Int)) = ((key % n : Nat) : Int) from rfl, Int.toNat_natCast]
  unfold costN TabT.cost
  rw [ho, TabT.cy_mod (by omega)]
structure RFilled (n : Nat) (t : List Int) (ks : List Int) : Prop where
  len_ : t.length = n
  cells : Cells t
  robin : TabT.Robin t
  keys_ : (TabT.keys t).Perm ks
theorem RFilled.many_ {n : Nat} {t ks : List Int} (h : RFilled n t ks) : TabT.many t = ks.length := by
  rw [TabT.many_keys]; exact h.keys_.length_eq
theorem RFilled.hand {n : Nat} {t ks : List Int} (h : RFilled n t ks) (h2 : 2 ≤ n) {k : Int} (h0 : 0 ≤ k) (hn : k ∉ ks) : TabT.Hand t k (TabT.own n k) := by
  have := h.robin.hand (by rw [h.len_]; exact h2) h0 (fun e => hn (h.keys_.mem_iff.mp e))
  rwa [h.len_] at this
end Go.Proofs.Ytmhlcpofnmcifaa.G
namespace TabT
set_option linter.unusedVariables false
set_option linter.unusedSimpArgs false
theorem Valid.ins {t : List Int} (hV : Valid t) {k : Int} (hk : 0 ≤ k) (hn : k ∉ keys t) (hm : many t + 1 < t.length) : Valid (ins t k) := by
  have hF := hV.free
  have hp := pos_lt hF k
  have hpf := pos_free hF k
  have hlen : (TabT.ins t k).length = t.length := by simp [TabT.ins]
  have hg : ∀ i, (TabT.ins t k).getD i (-1) = if i = pos t k then k else t.getD i (-1) := fun i => getD_set _ _ _ _ _ hp
  have hu : ∀ i, us (TabT.ins t k) i = (decide (i = pos t k) || us t i) := fun i => us_set _ _ _ _ hp hk
  refine ⟨?_, ?_, ?_, ?_⟩
  · exact free_of_many _ (by rw [many_ins hF hk, hlen]; exact hm)
  · intro i hi
    rw [hg]; split
    · omega
    · exact hV.ge i (by rw [← hlen]; exact hi)
  · intro i j hi hj e
    rw [hu, Bool.or_eq_true, decide_eq_true_eq] at hi hj
    rw [hg, hg] at e
    by_cases c1 : i = pos t k <;> by_cases c2 : j = pos t k
    · omega
    · rw [if_pos c1, if_neg c2] at e
      exact absurd (mem_keys.2 ⟨j, hj.resolve_left c2, e.symm⟩) hn
    · rw [if_neg c1, if_pos c2] at e
      exact absurd (mem_keys.2 ⟨i, hi.resolve_left c1, e⟩) hn
    · rw [if_neg c1, if_neg c2] at e
      exact hV.nodup i j (hi.resolve_left c1) (hj.resolve_left c2) e
  · intro i hi m hm'
    rw [hu, Bool.or_eq_true, decide_eq_true_eq] at hi
    rw [hlen, hg] at hm'
    rw [hlen, hg, hu, Bool.or_eq_true, decide_eq_true_eq]
    right
    by_cases c : i = pos t k
    · rw [if_pos c] at hm' ⊢
      have s := ff_spec hF (own_lt (n := t.length) (by omega) k)
      have hc : cost t.length (pos t k) k = ff t (own t.length k) := cost_own s.1 k
      rw [c, hc] at hm'
      exact s.2.2 m hm'
    · rw [if_neg c] at hm' ⊢
      exact hV.path i (hi.resolve_left c) m hm'
end TabT
namespace Go.Proofs.Ytmhlcpofnmcifaa.G
open Go.RowKit Go.Proofs.YtmhlcpofnmcifaaW.PrintWords Go.Proofs.YtmhlcpofnmcifaaW.PrintLast Go.Proofs.YtmhlcpofnmcifaaW.PrintMore
set_option linter.unusedVariables false
set_option linter.unusedSectionVars false
set_option linter.unusedSimpArgs false
theorem wayF_iff (l : List Int) (key : Nat) : ∀ (c s : Nat), wayF l key s c = true ↔ ∀ m, m < c → 0 ≤ l.getD ((key + s + m) % l.length) 0
  | 0, s => by simp [wayF]
  | c + 1, s => by
    rw [wayF, Bool.and_eq_true, decide_eq_true_eq, wayF_iff l key c (s + 1)]
    constructor
    · rintro ⟨h0, h⟩ m hm
      cases m with
      | zero => exact h0
      | succ m => have := h m (by omega); rwa [show key + (s + 1) + m = key + s + (m + 1) by omega] at this
    · intro h
      exact ⟨h 0 (by omega), fun m hm => by have := h (m + 1) (by omega); rwa [show key + s + (m + 1) = key + (s + 1) + m by omega] at this⟩
theorem okFrom_iff (l : List Int) : ∀ (d i : Nat), okFrom l d i = true ↔ ∀ j, i ≤ j → j < i + d → okCell l j = true
  | 0, i => by
    rw [okFrom]
    exact ⟨fun _ j h1 h2 => by omega, fun _ => rfl⟩
  | d + 1, i => by
    rw [okFrom, Bool.and_eq_true, okFrom_iff l d (i + 1)]
    constructor
    · rintro ⟨h0, h⟩ j h1 h2
      by_cases e : j = i
      · rw [e]; exact h0
      · exact h j (by omega) (by omega)
    · intro h
      exact ⟨h i (Nat.le_refl _) (by omega), fun j h1 h2 => h j (by omega) (by omega)⟩
theorem own_nat (key n : Nat) : TabT.own n (key : Int) = key % n := rfl
theorem way_cell {n key m : Nat} (hn : 0 < n) (hm : m < n) : (key + m) % n = TabT.cy n (TabT.own n (key : Int) + m) := by
  have := Nat.mod_lt key hn
  rw [own_nat, ← TabT.cy_mod (by omega), Nat.mod_add_mod]
theorem us_of {l : List Int} {i : Nat} (hi : i < l.length) : TabT.us l i = decide (0 ≤ l.getD i 0) := by
  rw [TabT.us, t_g0 hi]
theorem tbl_valid {l : List Int} (h : tblB l = true) : TabT.Valid l := by
  obtain ⟨h1, h2, h3, h4⟩ := tblB_parts h
  have hok : okFrom l l.length 0 = true := by
    unfold tblB at h
    simp only [Bool.and_eq_true] at h
    exact h.2
  have hc := (okFrom_iff l l.length 0).1 hok
  refine ⟨?_, ?_, ?_, ?_⟩
  · obtain ⟨i, hi, e⟩ := List.getElem_of_mem h4
    exact ⟨i, hi, by rw [us_of hi, getD_get hi, e]; rfl⟩
  · intro i hi
    rw [t_g0 hi]
    exact (h3 i hi).1
  · intro i j hi hj e
    have li := TabT.us_lt hi
    have lj := TabT.us_lt hj
    rw [t_g0 li, t_g0 lj] at e
    rcases Nat.lt_trichotomy i j with c | c | c
    · exact absurd e (tbl_dist h i j c lj (us_val hi))
    · exact c
    · exact absurd e.symm (tbl_dist h j i c li (us_val hj))
  · intro i hi m hm
    have li := TabT.us_lt hi
    have hv := us_val hi
    have := hc i (Nat.zero_le _) (by omega)
    obtain ⟨key, hkey⟩ : ∃ key : Nat, l.getD i 0 = key := ⟨(l.getD i 0).toNat, by omega⟩
    rw [t_g0 li, hkey] at hm ⊢
    rw [okCell, decide_eq_false (by omega), Bool.false_or, Bool.and_eq_true, hkey, Int.toNat_natCast, costN_cost li] at this
    have hw := (wayF_iff l key _ 0).1 this.2 m hm
    have hm2 := TabT.cost_lt li (key : Int)
    rw [Nat.add_zero, way_cell (by omega) (by omega)] at hw
    rw [us_of (TabT.cy_lt (by have := TabT.own_lt (n := l.length) (by omega) (key : Int); omega))]
    exact decide_eq_true hw
end Go.Proofs.Ytmhlcpofnmcifaa.G
namespace Go.Proofs.Ytmhlcpofnmcifaa.Pure
open Go.RowKit Go.Proofs.Ytmhlcpofnmcifaa.G Go.Proofs.YtmhlcpofnmcifaaW.PrintWords Go.Proofs.YtmhlcpofnmcifaaW.PrintLast
set_option linter.unusedVariables false
set_option linter.unusedSimpArgs false
def partOf (l S : List Int) : List Int := l.map fun x => if x ∈ S then x else -1
theorem part_len (l S : List Int) : (partOf l S).length = l.length := by simp [partOf]
theorem part_get (l S : List Int) {i : Nat} (hi : i < l.length) : (partOf l S).getD i 0 = if l.getD i 0 ∈ S then l.getD i 0 else -1 := by
  unfold partOf
  rw [getD_get (by simpa using hi), getD_get hi]
  simp
theorem part_nil (l : List Int) : partOf l [] = TabT.empty l.length := by
  unfold partOf TabT.empty
  refine List.ext_getElem (by simp) (fun i _ _ => by simp)
/-- A key may come next behind S. -/
def rdyB (l S : List Int) (x : Int) : Bool := wayS l S x (cstK l x) 0 && !decide (x ∈ S)
theorem index_at (l : List Int) (a : Int) (hn : l.length ≤ 1000) : ∀ (d i : Nat), i + d = l.length → ∀ k, d + 1 ≤ k → slices_Index_int_int.l0 k l a (l.length : Int) i = some (ixF l a d i) := by
  intro d
  induction d with
  | zero =>
    intro i hd k hk
    obtain ⟨k, rfl⟩ : ∃ q, k = q + 1 := ⟨k - 1, by omega⟩
    rw [slices_Index_int_int.l0, if_neg (by omega)]; rfl
  | succ d ih =>
    intro i hd k hk
    obtain ⟨k, rfl⟩ : ∃ q, k = q + 1 := ⟨k - 1, by omega⟩
    rw [ixF]
    by_cases c : l.getD i 0 = a
    · rw [if_pos c, slices_Index_int_int.l0, if_pos (by omega), if_pos (by omega), if_pos (by omega), rd_nat, if_pos c.symm]
    · rw [if_neg c, slices_Index_int_int.l0, if_pos (by omega), if_pos (by omega), if_pos (by omega), rd_nat, if_neg (fun e => c e.symm), wrap_next (n := l.length) (by omega) (by omega)]
      exact ih (i + 1) (by omega) k (by omega)
theorem index_at0 (l : List Int) (a : Int) (hn : l.length ≤ 1000) : slices_Index_int_int.f 2000 l a = some (ixF l a l.length 0) := index_at l a hn l.length 0 (by omega) 2000 (by omega)
theorem ix_here {l : List Int} (h : tblB l = true) {i : Nat} (hi : i < l.length) (h0 : 0 ≤ l.getD i 0) : ixF l (l.getD i 0) l.length 0 = (i : Int) := by
  rcases ixF_spec l (l.getD i 0) l.length 0 (by omega) with ⟨_, h2⟩ | ⟨j, h1, h2, h3, _⟩
  · exact absurd (by rw [List.drop_zero]; exact getD_mem hi) h2
  · rw [h1]
    rcases Nat.lt_trichotomy i j with c | c | c
    · exact absurd h3.symm (tbl_dist h i j c h2 h0)
    · rw [c]
    · exact absurd h3 (tbl_dist h j i c hi (by rw [h3]; exact h0))
theorem atK_here {l : List Int} (h : tblB l = true) {i : Nat} (hi : i < l.length) (h0 : 0 ≤ l.getD i 0) : slices_Index_int_int.f 2000 l (l.getD i 0) = some (i : Int) ∧ atK l (l.getD i 0) = (i : Int) := by
  have h2 := (tblB_parts h).2.1
  have e := index_at0 l (l.getD i 0) (by omega)
  rw [ix_here h hi h0] at e
  exact ⟨e, by unfold atK; rw [e]; rfl⟩
theorem cst_here {l : List Int} (h : tblB l = true) {i : Nat} (hi : i < l.length) (h0 : 0 ≤ l.getD i 0) : impl_Table_cost.f l (i : Int) = some ((costN l.length (l.getD i 0).toNat i : Nat) : Int) ∧ cstK l (l.getD i 0) = costN l.length (l.getD i 0).toNat i := by
  obtain ⟨h1, h2, h3, h4⟩ := tblB_parts h
  have hv := h3 i hi
  have e := tcost_eq (l := l) (key := (l.getD i 0).toNat) (at_ := i) (by omega) (by omega) hi (by omega)
  refine ⟨e, ?_⟩
  unfold cstK
  rw [(atK_here h hi h0).2, e]
  simp
theorem key_at {l : List Int} {x : Int} (hx : x ∈ keysZ l) : ∃ i, i < l.length ∧ l.getD i 0 = x ∧ 0 ≤ x := by
  obtain ⟨h1, h2⟩ := keysZ_mem.1 hx
  obtain ⟨i, hi, e⟩ := List.getElem_of_mem h1
  exact ⟨i, hi, by rw [getD_get hi]; exact e, h2⟩
theorem keys_okB {l : List Int} (h : tblB l = true) : (keysZ l).all (keyOk l) = true := by
  obtain ⟨h1, h2, h3, h4⟩ := tblB_parts h
  rw [List.all_eq_true]
  intro x hx
  obtain ⟨i, hi, rfl, h0⟩ := key_at hx
  have hv := h3 i hi
  obtain ⟨a1, a2⟩ := atK_here h hi h0
  obtain ⟨b1, b2⟩ := cst_here h hi h0
  have hl := costN_lt (n := l.length) (key := (l.getD i 0).toNat) (at_ := i) (by omega)
  unfold keyOk
  rw [a2, b2]
  simp only [Bool.and_eq_true, decide_eq_true_eq]
  exact ⟨⟨⟨⟨h0, hv.2⟩, a1⟩, b1⟩, by omega⟩
theorem cells_okB {l : List Int} (h : tblB l = true) : l.all cellOk = true := by
  obtain ⟨h1, h2, h3, h4⟩ := tblB_parts h
  rw [List.all_eq_true]
  intro x hx
  obtain ⟨i, hi, e⟩ := List.getElem_of_mem hx
  have := h3 i hi
  rw [getD_get hi, e] at this
  unfold cellOk
  simp only [Bool.and_eq_true, decide_eq_true_eq]
  exact this
def rdyTo (l S : List Int) : Nat → List Int
  | 0 => []
  | q + 1 => if 0 ≤ l.getD q 0 ∧ rdyB l S (l.getD q 0) = true then putZ (l.getD q 0) (rdyTo l S q) else rdyTo l S q
theorem rdyTo_len (l S : List Int) : ∀ q, (rdyTo l S q).length ≤ q
  | 0 => by simp [rdyTo]
  | q + 1 => by
    have := rdyTo_len l S q
    have := putZ_len (l.getD q 0) (rdyTo l S q)
    rw [rdyTo]
    split <;> omega
theorem rdyTo_mem (l S : List Int) (x : Int) : ∀ q, x ∈ rdyTo l S q ↔ ∃ j, j < q ∧ l.getD j 0 = x ∧ 0 ≤ x ∧ rdyB l S x = true
  | 0 => by simp [rdyTo]
  | q + 1 => by
    rw [rdyTo]
    split
    · rename_i h
      rw [putZ_mem, rdyTo_mem l S x q]
      constructor
      · rintro (e | ⟨j, h1, h2, h3⟩)
        · exact ⟨q, by omega, e.symm, by rw [e]; exact h⟩
        · exact ⟨j, by omega, h2, h3⟩
      · rintro ⟨j, h1, h2, h3⟩
        by_cases e : j = q
        · subst e; exact Or.inl h2.symm
        · exact Or.inr ⟨j, by omega, h2, h3⟩
    · rename_i h
      rw [rdyTo_mem l S x q]
      constructor
      · rintro ⟨j, h1, h2, h3⟩; exact ⟨j, by omega, h2, h3⟩
      · rintro ⟨j, h1, h2, h3⟩
        by_cases e : j = q
        · subst e; rw [h2] at h; exact absurd h3 h
        · exact ⟨j, by omega, h2, h3⟩
theorem rdyTo_strict (l S : List Int) : ∀ q, (rdyTo l S q).Pairwise (· < ·)
  | 0 => by simp [rdyTo]
  | q + 1 => by
    rw [rdyTo]
    split
    · exact putZ_strict _ _ (rdyTo_strict l S q)
    · exact rdyTo_strict l S q
theorem rdy_filter {l : List Int} (h : tblB l = true) (S : List Int) : rdyTo l S l.length = (keysZ l).filter (rdyB l S) := by
  refine strict_ext _ _ (rdyTo_strict _ _ _) ((keysZ_strict h).filter _) (fun x => ?_)
  rw [rdyTo_mem, List.mem_filter]
  constructor
  · rintro ⟨j, h1, h2, h3, h4⟩
    exact ⟨keysZ_mem.2 ⟨h2 ▸ getD_mem h1, h3⟩, h4⟩
  · rintro ⟨h1, h2⟩
    obtain ⟨i, hi, e, h0⟩ := key_at h1
    exact ⟨i, hi, e, h0, h2⟩
theorem part_used {l S : List Int} (hS : ∀ x ∈ S, 0 ≤ x) {i : Nat} (hi : i < l.length) : ((partOf l S).getD i 0 != -1) = decide (l.getD i 0 ∈ S) := by
  rw [part_get l S hi]
  by_cases c : l.getD i 0 ∈ S
  · rw [if_pos c, decide_eq_true c]
    have := hS _ c
    exact bne_iff_ne.mpr (by omega)
  · rw [if_neg c, decide_eq_false c]; rfl
end Go.Proofs.Ytmhlcpofnmcifaa.Pure
namespace Go.Proofs.Ytmhlcpofnmcifaa.Pure
open Go.RowKit Go.Proofs.Ytmhlcpofnmcifaa.G Go.Proofs.YtmhlcpofnmcifaaW.PrintWords Go.Proofs.YtmhlcpofnmcifaaW.PrintLast
set_option linter.unusedVariables false
set_option linter.unusedSimpArgs false
section
variable {l : List Int} (h : tblB l = true) {S : List Int} (hS : ∀ x ∈ S, 0 ≤ x)
include h hS
theorem rd_way (key i c : Nat) (out r : List Int) (hk : key ≤ 1000) (hi : i < l.length) (hc : costN l.length key i = c) : ∀ (j : Nat), j ≤ c → ∀ b,
    Ev (fun k => spec_prReady.l1 k (partOf l S) (l.length : Int) out (i : Int) (key : Int) (b && wayS l S (key : Int) j (c - j)) 0 l (l.length : Int) (i : Int)) r →
    Ev (fun k => spec_prReady.l1 k (partOf l S) (l.length : Int) out (i : Int) (key : Int) b (j : Int) l (l.length : Int) (i : Int)) r := by
  obtain ⟨h1, h2, h3, h4⟩ := tblB_parts h
  have hcn : c < l.length := by rw [← hc]; exact costN_lt (by omega)
  intro j
  induction j with
  | zero =>
    intro _ b hr
    rw [wayS, Bool.and_true] at hr
    exact hr
  | succ j ih =>
    intro hj b hr
    have hcell := back_cell (n := l.length) (by omega) hi hc hj (by omega)
    have e1 : Int.tmod (wrap64 ((wrap64 ((i : Int) - ((j + 1 : Nat) : Int))) + (l.length : Int))) (l.length : Int) = (((key + (c - (j + 1))) % l.length : Nat) : Int) := by
      rw [wrap_id (x := (i : Int) - ((j + 1 : Nat) : Int)) (by omega) (by omega), wrap_id (by omega) (by omega), ← hcell, show (i : Int) - ((j + 1 : Nat) : Int) + (l.length : Int) = ((i + l.length - (j + 1) : Nat) : Int) by omega]
      rfl
    have hm := Nat.mod_lt (key + (c - (j + 1))) (show 0 < l.length by omega)
    rw [wayS, show c - (j + 1) + 1 = c - j by omega, Int.toNat_natCast] at hr
    cases b with
    | false =>
      rw [Bool.false_and] at hr
      refine Ev.one (ih (by omega) false (by rw [Bool.false_and]; exact hr)) fun k => ?_
      rw [spec_prReady.l1, if_pos (by omega), if_neg (by decide), wrap_id (x := ((j + 1 : Nat) : Int) - 1) (by omega) (by omega), show ((j + 1 : Nat) : Int) - 1 = (j : Int) by omega]
    | true =>
      rw [Bool.true_and] at hr
      refine Ev.one (ih (by omega) _ hr) fun k => ?_
      rw [spec_prReady.l1, if_pos (by omega), if_pos rfl, if_neg (by omega), e1, if_pos (by omega), if_pos (by rw [part_len]; omega), rd_nat, part_used hS hm, wrap_id (x := ((j + 1 : Nat) : Int) - 1) (by omega) (by omega), show ((j + 1 : Nat) : Int) - 1 = (j : Int) by omega]
theorem prReady_ev : Ev (fun k => spec_prReady.f k l (partOf l S)) (rdyTo l S l.length) := by
  obtain ⟨h1, h2, h3, h4⟩ := tblB_parts h
  unfold spec_prReady.f
  rw [part_len]
  have := Ev.up0 l.length (fun q => rdyTo l S q) (fun k s q => spec_prReady.l0 k (partOf l S) (l.length : Int) s l (l.length : Int) q) (rdyTo l S l.length) (fun q hq hE => ?_) (Ev.end_ fun k => ?_)
  · simpa [rdyTo] using this
  · have hv := h3 q hq
    have hpl := rdyTo_len l S q
    by_cases hf : l.getD q 0 = -1
    · rw [rdyTo, if_neg (fun e => by omega)] at hE
      refine Ev.one (f := fun k => spec_prReady.j1 k (partOf l S) (l.length : Int) (rdyTo l S q) (q : Int) (l.getD q 0) l (l.length : Int) (q : Int) true) (Ev.one hE fun k => ?_) fun k => ?_
      · rw [spec_prReady.j1, if_pos rfl, wrap_next (n := l.length) hq (by omega)]
      · rw [spec_prReady.l0, if_pos (by omega), if_pos (by omega), if_pos (by omega), rd_nat, if_pos hf]
    · obtain ⟨key, hkey⟩ : ∃ key : Nat, l.getD q 0 = key := ⟨(l.getD q 0).toNat, by omega⟩
      have h0 : 0 ≤ l.getD q 0 := by omega
      have hcs := (cst_here h hq h0).2
      by_cases hp : l.getD q 0 ∈ S
      · rw [rdyTo, if_neg (fun e => by have := e.2; unfold rdyB at this; rw [decide_eq_true hp] at this; simp at this)] at hE
        refine Ev.one (f := fun k => spec_prReady.j1 k (partOf l S) (l.length : Int) (rdyTo l S q) (q : Int) (l.getD q 0) l (l.length : Int) (q : Int) true) (Ev.one hE fun k => ?_) fun k => ?_
        · rw [spec_prReady.j1, if_pos rfl, wrap_next (n := l.length) hq (by omega)]
        · rw [spec_prReady.l0, if_pos (by omega), if_pos (by omega), if_pos (by omega), rd_nat, if_neg hf, if_pos (by rw [part_len]; omega), rd_nat, part_used hS hq, decide_eq_true hp]
      · refine Ev.one (f := fun k => spec_prReady.j1 k (partOf l S) (l.length : Int) (rdyTo l S q) (q : Int) (l.getD q 0) l (l.length : Int) (q : Int) false) ?_ fun k => ?_
        · refine Ev.one (f := fun k => spec_prReady.l1 k (partOf l S) (l.length : Int) (rdyTo l S q) (q : Int) (key : Int) true ((costN l.length key q : Nat) : Int) l (l.length : Int) (q : Int)) ?_ fun k => ?_
          · refine rd_way h hS key q _ (rdyTo l S q) _ (by omega) hq rfl (costN l.length key q) (Nat.le_refl _) true ?_
            rw [Nat.sub_self, Bool.true_and]
            rw [rdyTo] at hE
            unfold rdyB at hE
            rw [hcs, decide_eq_false hp, Bool.not_false, Bool.and_true, hkey, Int.toNat_natCast] at hE
            cases hw : wayS l S (key : Int) (costN l.length key q) 0 with
            | true =>
              rw [hw, if_pos ⟨by omega, rfl⟩] at hE
              refine Ev.step (f := fun k => (spec_l1Put.f k (rdyTo l S q) (key : Int)).bind fun t167 => (spec_prReady.l0 k (partOf l S) (l.length : Int) t167 l (l.length : Int) ((q + 1 : Nat) : Int))) (fun k => by
                rw [spec_prReady.l1, if_neg (by omega), if_pos rfl, wrap_next (n := l.length) hq (by omega)]) ?_
              exact Ev.bind (l1Put_ev _ _ (by omega)) hE
            | false =>
              rw [hw, if_neg (fun e => by cases e.2)] at hE
              refine Ev.one hE fun k => ?_
              rw [spec_prReady.l1, if_neg (by omega), if_neg (by decide), wrap_next (n := l.length) hq (by omega)]
          · rw [spec_prReady.j1, if_neg (by decide), hkey, prCost_eq (by omega) (by omega) (by omega) hq]
            rfl
        · rw [spec_prReady.l0, if_pos (by omega), if_pos (by omega), if_pos (by omega), rd_nat, if_neg hf, if_pos (by rw [part_len]; omega), rd_nat, part_used hS hq, decide_eq_false hp]
  · rw [spec_prReady.l0, if_neg (by omega)]
end
end Go.Proofs.Ytmhlcpofnmcifaa.Pure
namespace Go.Proofs.Ytmhlcpofnmcifaa.Pure
open Go.RowKit Go.Proofs.Ytmhlcpofnmcifaa.G Go.Proofs.YtmhlcpofnmcifaaW.PrintWords Go.Proofs.YtmhlcpofnmcifaaW.PrintLast
set_option linter.unusedVariables false
set_option linter.unusedSimpArgs false
theorem sub_len : ∀ (a b : List Int), a.Nodup → (∀ x ∈ a, x ∈ b) → a.length ≤ b.length
  | [], b, _, _ => by simp
  | x :: a, b, hn, hs => by
    rw [List.nodup_cons] at hn
    have hx := hs x List.mem_cons_self
    have := sub_len a (b.erase x) hn.2 (fun y hy => by
      have e : y ≠ x := fun e => hn.1 (e ▸ hy)
      exact (List.mem_erase_of_ne e).2 (hs y (List.mem_cons_of_mem _ hy)))
    rw [List.length_erase_of_mem hx] at this
    have hp := List.length_pos_of_mem hx
    rw [List.length_cons]
    omega
theorem wayS_iff (l S : List Int) (x : Int) : ∀ (c s : Nat), wayS l S x c s = true ↔ ∀ m, m < c → l.getD ((x.toNat + s + m) % l.length) 0 ∈ S
  | 0, s => by simp [wayS]
  | c + 1, s => by
    rw [wayS, Bool.and_eq_true, decide_eq_true_eq, wayS_iff l S x c (s + 1)]
    constructor
    · rintro ⟨h1, h2⟩ m hm
      cases m with
      | zero => exact h1
      | succ m => have := h2 m (by omega); rw [show x.toNat + s + (m + 1) = x.toNat + (s + 1) + m by omega]; exact this
    · intro h
      refine ⟨h 0 (by omega), fun m hm => ?_⟩
      have := h (m + 1) (by omega)
      rw [show x.toNat + (s + 1) + m = x.toNat + s + (m + 1) by omega]; exact this
theorem us_part {l S : List Int} (hS : ∀ x ∈ S, 0 ≤ x) {i : Nat} (hi : i < l.length) : TabT.us (partOf l S) i = decide (l.getD i 0 ∈ S) := by
  rw [us_of (by rw [part_len]; exact hi), part_get l S hi]
  by_cases c : l.getD i 0 ∈ S
  · rw [if_pos c, decide_eq_true c]; exact decide_eq_true (hS _ c)
  · rw [if_neg c, decide_eq_false c]; rfl
theorem some_ready {l S : List Int} (h : tblB l = true) (hS : ∀ x ∈ S, 0 ≤ x) {x : Int} (hx : x ∈ keysZ l) (hxS : x ∉ S) : (keysZ l).filter (rdyB l S) ≠ [] := by
  obtain ⟨h1, h2, h3, h4⟩ := tblB_parts h
  obtain ⟨i, hi, rfl, h0⟩ := key_at hx
  obtain ⟨j, hj1, hj2, hj3⟩ := TabT.exists_ready (p := partOf l S) (tbl_valid h) ⟨i, by rw [us_of hi]; exact decide_eq_true h0, by rw [us_part hS hi]; exact decide_eq_false hxS⟩
  have lj := TabT.us_lt hj1
  have vj := us_val hj1
  obtain ⟨key, hkey⟩ : ∃ key : Nat, l.getD j 0 = key := ⟨(l.getD j 0).toNat, by omega⟩
  have hr : rdyB l S (l.getD j 0) = true := by
    rw [rdyB, Bool.and_eq_true]
    constructor
    · rw [wayS_iff, (cst_here h lj vj).2, hkey, Int.toNat_natCast]
      intro m hm
      rw [costN_cost lj] at hm
      rw [t_g0 lj, hkey] at hj3
      have hu := hj3 m hm
      have hm2 := TabT.cost_lt lj (key : Int)
      have hcy := TabT.cy_lt (n := l.length) (i := TabT.own l.length (key : Int) + m) (by have := TabT.own_lt (n := l.length) (by omega) (key : Int); omega)
      rw [us_part hS hcy] at hu
      rw [Nat.add_zero, way_cell (by omega) (by omega)]
      exact of_decide_eq_true hu
    · rw [us_part hS lj] at hj2
      rw [hj2]; rfl
  intro e
  have : l.getD j 0 ∈ (keysZ l).filter (rdyB l S) := List.mem_filter.2 ⟨keysZ_mem.2 ⟨getD_mem lj, vj⟩, hr⟩
  rw [e] at this
  cases this
structure Done (l S : List Int) : Prop where
  mem : ∀ x ∈ S, x ∈ keysZ l
  nodup : S.Nodup
theorem Done.nonneg {l S : List Int} (D : Done l S) : ∀ x ∈ S, 0 ≤ x := fun x hx => (keysZ_mem.1 (D.mem x hx)).2
theorem Done.le {l S : List Int} (D : Done l S) : S.length ≤ (keysZ l).length := sub_len _ _ D.nodup D.mem
theorem Done.snoc {l S : List Int} (D : Done l S) {x : Int} {r : List Int} (e : (keysZ l).filter (rdyB l S) = x :: r) : Done l (S ++ [x]) ∧ x ∈ keysZ l ∧ x ∉ S := by
  have hx : x ∈ (keysZ l).filter (rdyB l S) := by rw [e]; exact List.mem_cons_self
  obtain ⟨h1, h2⟩ := List.mem_filter.1 hx
  have h3 : x ∉ S := by
    rw [rdyB, Bool.and_eq_true] at h2
    simpa using h2.2
  refine ⟨⟨fun y hy => ?_, ?_⟩, h1, h3⟩
  · rcases List.mem_append.1 hy with hy | hy
    · exact D.mem y hy
    · rw [List.mem_singleton.1 hy]; exact h1
  · rw [List.nodup_append]
    exact ⟨D.nodup, by simp, fun a ha b hb e => h3 (by rw [List.mem_singleton] at hb; rw [← hb, ← e]; exact ha)⟩
theorem Done.nil (l : List Int) : Done l [] := ⟨by simp, by simp⟩
theorem all_done {l S : List Int} (h : tblB l = true) (D : Done l S) (hl : S.length = (keysZ l).length) : (keysZ l).filter (rdyB l S) = [] := by
  cases e : (keysZ l).filter (rdyB l S) with
  | nil => rfl
  | cons x r =>
    have := (D.snoc e).1.le
    rw [List.length_append, List.length_singleton] at this
    omega
theorem not_done {l S : List Int} (h : tblB l = true) (D : Done l S) (hl : S.length < (keysZ l).length) : (keysZ l).filter (rdyB l S) ≠ [] := by
  by_cases c : ∃ x, x ∈ keysZ l ∧ x ∉ S
  · obtain ⟨x, h1, h2⟩ := c
    exact some_ready h D.nonneg h1 h2
  · have hn := (keysZ_perm l).nodup_iff.mpr (filter_nodup (tbl_dist h))
    have := sub_len (keysZ l) S hn (fun x hx => by
      by_cases c2 : x ∈ S
      · exact c2
      · exact absurd ⟨x, hx, c2⟩ c)
    omega
theorem place_l0 (l : List Int) (a : Int) (hn : l.length ≤ 4611686018427387904) : ∀ (d i : Nat), i + d = l.length → Ev (fun k => spec_prPlace.l0 k a l (l.length : Int) i) (ixF l a d i) := by
  intro d
  induction d with
  | zero =>
    intro i hd
    exact Ev.end_ fun k => by rw [spec_prPlace.l0, if_neg (by omega)]; rfl
  | succ d ih =>
    intro i hd
    rw [ixF]
    by_cases c : l.getD i 0 = a
    · rw [if_pos c]
      refine Ev.end_ fun k => ?_
      rw [spec_prPlace.l0, if_pos (by omega), if_pos (by omega), if_pos (by omega), rd_nat, if_pos c]
    · rw [if_neg c]
      refine Ev.one (ih (i + 1) (by omega)) fun k => ?_
      rw [spec_prPlace.l0, if_pos (by omega), if_pos (by omega), if_pos (by omega), rd_nat, if_neg c, wrap_next (n := l.length) (by omega) hn]
theorem prPlace_ev (l : List Int) (a : Int) (hn : l.length ≤ 4611686018427387904) : Ev (fun k => spec_prPlace.f k l a) (ixF l a l.length 0) := by
  unfold spec_prPlace.f
  exact place_l0 l a hn l.length 0 (by omega)
theorem part_set {l S : List Int} (h : tblB l = true) {i : Nat} (hi : i < l.length) (h0 : 0 ≤ l.getD i 0) : (partOf l S).set i (l.getD i 0) = partOf l (S ++ [l.getD i 0]) := by
  refine List.ext_getElem (by simp [partOf]) (fun j hj1 hj2 => ?_)
  have hj : j < l.length := by rw [part_len] at hj2; exact hj2
  have e1 : (partOf l (S ++ [l.getD i 0]))[j] = if l.getD j 0 ∈ S ++ [l.getD i 0] then l.getD j 0 else -1 := by
    rw [← part_get l _ hj, getD_get hj2]
  have e2 : (partOf l S)[j]'(by rw [part_len]; exact hj) = if l.getD j 0 ∈ S then l.getD j 0 else -1 := by
    rw [← part_get l _ hj, getD_get (by rw [part_len]; exact hj)]
  rw [List.getElem_set, e1, e2]
  by_cases c : i = j
  · subst c
    rw [if_pos rfl, if_pos (by simp)]
  · rw [if_neg c]
    have hd : l.getD j 0 ≠ l.getD i 0 := fun e => by
      rcases Nat.lt_or_ge i j with q | q
      · exact tbl_dist h i j q hj h0 e.symm
      · exact tbl_dist h j i (by omega) hi (by rw [e]; exact h0) e
    simp only [List.mem_append, List.mem_singleton, hd, or_false]
/-- How many orders go on behind S, d keys being left. -/
def cn (l : List Int) : Nat → List Int → Int
  | 0, _ => 1
  | d + 1, S => if (keysZ l).filter (rdyB l S) = [] then 1 else (((keysZ l).filter (rdyB l S)).map fun x => cn l d (S ++ [x])).sum
theorem sum_range (g : Int → Int) (C : Int) (hC : 0 ≤ C) : ∀ (r : List Int), (∀ x ∈ r, 0 ≤ g x ∧ g x ≤ C) → 0 ≤ (r.map g).sum ∧ (r.map g).sum ≤ (r.length : Int) * C
  | [], _ => by simp
  | x :: r, h => by
    obtain ⟨h1, h2⟩ := sum_range g C hC r (fun y hy => h y (List.mem_cons_of_mem _ hy))
    obtain ⟨h3, h4⟩ := h x List.mem_cons_self
    rw [List.map_cons, List.sum_cons, List.length_cons]
    have : ((r.length + 1 : Nat) : Int) * C = (r.length : Int) * C + C := by rw [Int.natCast_add, Int.add_mul]; simp
    omega
theorem cn_range {l : List Int} (hl : (keysZ l).length ≤ 7) : ∀ (d : Nat) (S : List Int), 0 ≤ cn l d S ∧ cn l d S ≤ ((7 ^ d : Nat) : Int)
  | 0, S => by simp [cn]
  | d + 1, S => by
    rw [cn]
    have hp : (7 ^ (d + 1) : Nat) = 7 ^ d * 7 := Nat.pow_succ ..
    have h1 : 1 ≤ 7 ^ d := Nat.one_le_pow _ _ (by omega)
    split
    · omega
    · have hf := List.length_filter_le (rdyB l S) (keysZ l)
      obtain ⟨h2, h3⟩ := sum_range (fun x => cn l d (S ++ [x])) ((7 ^ d : Nat) : Int) (by omega) ((keysZ l).filter (rdyB l S)) (fun x _ => cn_range hl d _)
      have h4 : (((keysZ l).filter (rdyB l S)).length : Int) * ((7 ^ d : Nat) : Int) ≤ 7 * ((7 ^ d : Nat) : Int) := Int.mul_le_mul_of_nonneg_right (by omega) (by omega)
      refine ⟨h2, ?_⟩
      rw [hp]
      omega
theorem cn_small {l : List Int} (hl : (keysZ l).length ≤ 7) {d : Nat} (hd : d ≤ 7) (S : List Int) : 0 ≤ cn l d S ∧ cn l d S ≤ 1000000 := by
  obtain ⟨h1, h2⟩ := cn_range hl d S
  have h3 : (7 : Nat) ^ d ≤ 7 ^ 7 := Nat.pow_le_pow_right (by omega) hd
  have h4 : (7 : Nat) ^ 7 = 823543 := by decide
  omega
theorem insL_all (l S : List Int) (rec : List Int → Option Int) : ∀ (r : List Int) (m : Int) (b : Bool), (∀ x ∈ r, x ∈ S) → insL l S rec r m b = some (if b = true then 1 else m)
  | [], m, b, _ => rfl
  | x :: r, m, b, h => by
    rw [insL, if_pos (h x List.mem_cons_self)]
    exact insL_all l S rec r m b (fun y hy => h y (List.mem_cons_of_mem _ hy))
theorem insL_sum (l S : List Int) (rec : List Int → Option Int) (g : Int → Int) : ∀ (r : List Int) (m : Int) (b : Bool), (∀ x ∈ r, rdyB l S x = true → rec (S ++ [x]) = some (g x) ∧ 0 ≤ g x ∧ g x ≤ 1000000) → 0 ≤ m → m + (r.length : Int) * 1000000 ≤ 1000000000000 →
    (b = false ∨ ∃ x, x ∈ r ∧ x ∉ S) → insL l S rec r m b = some (m + ((r.filter (rdyB l S)).map g).sum)
  | [], m, b, _, _, _, hb => by
    rcases hb with rfl | ⟨x, hx, _⟩
    · simp [insL]
    · cases hx
  | x :: r, m, b, h, hm, hl, hb => by
    rw [List.length_cons] at hl
    have h' := fun y (hy : y ∈ r) => h y (List.mem_cons_of_mem _ hy)
    rw [insL]
    by_cases hs : x ∈ S
    · have hr : rdyB l S x = false := by rw [rdyB, decide_eq_true hs]; simp
      rw [if_pos hs, List.filter_cons_of_neg (by rw [hr]; decide)]
      refine insL_sum l S rec g r m b h' hm (by omega) ?_
      rcases hb with hb | ⟨y, hy, hyS⟩
      · exact Or.inl hb
      · rcases List.mem_cons.1 hy with rfl | hy
        · exact absurd hs hyS
        · exact Or.inr ⟨y, hy, hyS⟩
    · rw [if_neg hs, show comesF l S x = rdyB l S x from rfl]
      by_cases hc : rdyB l S x = true
      · obtain ⟨h1, h2, h3⟩ := h x List.mem_cons_self hc
        rw [if_pos hc, h1, Option.bind_some, List.filter_cons_of_pos hc, List.map_cons, List.sum_cons, wrap_id (by omega) (by omega), insL_sum l S rec g r (m + g x) false h' (by omega) (by omega) (Or.inl rfl)]
        congr 1
        omega
      · rw [if_neg hc, List.filter_cons_of_neg hc]
        exact insL_sum l S rec g r m false h' hm (by omega) (Or.inl rfl)
theorem Done.all {l S : List Int} (h : tblB l = true) (D : Done l S) (hl : S.length = (keysZ l).length) : ∀ x ∈ keysZ l, x ∈ S := by
  intro x hx
  by_cases c : x ∈ S
  · exact c
  · have := sub_len (x :: S) (keysZ l) (List.nodup_cons.2 ⟨c, D.nodup⟩) (fun y hy => by
      rcases List.mem_cons.1 hy with rfl | hy
      · exact hx
      · exact D.mem y hy)
    rw [List.length_cons] at this
    omega
theorem Done.left {l S : List Int} (h : tblB l = true) (D : Done l S) (hl : S.length < (keysZ l).length) : ∃ x, x ∈ keysZ l ∧ x ∉ S := by
  obtain ⟨x, hx⟩ := List.exists_mem_of_ne_nil _ (not_done h D hl)
  obtain ⟨h1, h2⟩ := List.mem_filter.1 hx
  rw [rdyB, Bool.and_eq_true] at h2
  exact ⟨x, h1, by simpa using h2.2⟩
theorem Done.one {l S : List Int} (D : Done l S) {x : Int} (hx : x ∈ keysZ l) (hxS : x ∉ S) : Done l (S ++ [x]) := by
  refine ⟨fun y hy => ?_, ?_⟩
  · rcases List.mem_append.1 hy with hy | hy
    · exact D.mem y hy
    · rw [List.mem_singleton.1 hy]; exact hx
  · rw [List.nodup_append]
    exact ⟨D.nodup, by simp, fun a ha b hb e => hxS (by rw [List.mem_singleton] at hb; rw [← hb, ← e]; exact ha)⟩
theorem insV_eq {l : List Int} (h : tblB l = true) (h7 : (keysZ l).length ≤ 7) : ∀ (d : Nat) (S : List Int) (e : Nat), Done l S → S.length + d = (keysZ l).length → d + 1 ≤ e → insV l (keysZ l) e S = some (cn l d S)
  | 0, S, e, D, hl, he => by
    obtain ⟨e, rfl⟩ : ∃ q, e = q + 1 := ⟨e - 1, by omega⟩
    rw [insV, insL_all _ _ _ _ _ _ (D.all h (by omega)), cn]; rfl
  | d + 1, S, e, D, hl, he => by
    obtain ⟨e, rfl⟩ : ∃ q, e = q + 1 := ⟨e - 1, by omega⟩
    rw [insV, cn, if_neg (not_done h D (by omega))]
    rw [insL_sum l S _ (fun x => cn l d (S ++ [x])) (keysZ l) 0 true (fun x hx hr => ?_) (by omega) (by omega) (Or.inr (D.left h (by omega)))]
    · rw [Int.zero_add]
    · have hxS : x ∉ S := by rw [rdyB, Bool.and_eq_true] at hr; simpa using hr.2
      exact ⟨insV_eq h h7 d _ e (D.one hx hxS) (by rw [List.length_append, List.length_singleton]; omega) (by omega), cn_small h7 (by omega) _⟩
theorem prCount_ev {l : List Int} (h : tblB l = true) (h7 : (keysZ l).length ≤ 7) : ∀ (d : Nat) (S : List Int), Done l S → S.length + d = (keysZ l).length → Ev (fun k => spec_prCount.f k l (partOf l S)) (cn l d S) := by
  obtain ⟨h1, h2, h3, h4⟩ := tblB_parts h
  intro d
  induction d with
  | zero =>
    intro S D hl
    refine Ev.step (f := fun k => (spec_prReady.f k l (partOf l S)).bind fun t176 => (if (t176.length : Int) = 0 then (some 1) else (spec_prCount.l0 k (partOf l S) 0 t176 (t176.length : Int) 0 l))) (fun k => rfl) ?_
    refine Ev.bind (prReady_ev h D.nonneg) ?_
    rw [rdy_filter h, all_done h D (by omega)]
    simp only [List.length_nil, Int.natCast_zero, if_true, cn]
    exact Ev.now _
  | succ d ih =>
    intro S D hl
    have hne := not_done h D (by omega)
    rw [cn, if_neg hne]
    refine Ev.step (f := fun k => (spec_prReady.f k l (partOf l S)).bind fun t176 => (if (t176.length : Int) = 0 then (some 1) else (spec_prCount.l0 k (partOf l S) 0 t176 (t176.length : Int) 0 l))) (fun k => rfl) ?_
    refine Ev.bind (prReady_ev h D.nonneg) ?_
    rw [rdy_filter h]
    obtain ⟨r, hr⟩ : ∃ r, r = (keysZ l).filter (rdyB l S) := ⟨_, rfl⟩
    have hrm : ∀ x ∈ r, x ∈ keysZ l ∧ x ∉ S := fun x hx => by
      rw [hr] at hx
      obtain ⟨a1, a2⟩ := List.mem_filter.1 hx
      rw [rdyB, Bool.and_eq_true] at a2
      exact ⟨a1, by simpa using a2.2⟩
    have hrl : r.length ≤ 7 := by
      have := List.length_filter_le (rdyB l S) (keysZ l)
      rw [← hr] at this; omega
    rw [← hr] at hne ⊢
    have hr0 : ¬ (r.length : Int) = 0 := fun e => hne (List.eq_nil_of_length_eq_zero (by omega))
    simp only [if_neg hr0]
    have := Ev.up0 r.length (fun q => ((r.take q).map fun x => cn l d (S ++ [x])).sum) (fun k s q => spec_prCount.l0 k (partOf l S) s r (r.length : Int) q l) ((r.map fun x => cn l d (S ++ [x])).sum) (fun q hq hE => ?_) (Ev.end_ fun k => ?_)
    · simpa using this
    · obtain ⟨hx, hxS⟩ := hrm _ (getD_mem hq)
      have D2 := D.one hx hxS
      have hxe := take_succ_getD hq
      obtain ⟨x, hxd⟩ : ∃ x, x = r.getD q 0 := ⟨_, rfl⟩
      rw [← hxd] at hx hxS D2 hxe
      obtain ⟨i, hi, hie, h0⟩ := key_at hx
      have hb := cn_small h7 (d := d) (by omega) (S ++ [x])
      have hb2 := sum_range (fun x => cn l d (S ++ [x])) 1000000 (by omega) (r.take q) (fun y _ => cn_small h7 (by omega) _)
      have hb3 : (((r.take q).length : Nat) : Int) * 1000000 ≤ 7 * 1000000 := Int.mul_le_mul_of_nonneg_right (by rw [List.length_take]; omega) (by omega)
      have hpl : (partOf l S).length = l.length := part_len l S
      refine Ev.step (f := fun k => (spec_l1Own.f (partOf l S)).bind fun t180 => ((spec_prPlace.f k l x).bind fun t183 => (if 0 ≤ t183 then (if t183 < (t180.length : Int) then ((spec_prCount.f k l (t180.set (t183 : Int).toNat x)).bind fun t185 => (spec_prCount.l0 k (partOf l S) (wrap64 (((r.take q).map fun x => cn l d (S ++ [x])).sum + t185)) r (r.length : Int) ((q + 1 : Nat) : Int) l)) else (none)) else (none)))) (fun k => by
        rw [spec_prCount.l0, if_pos (by omega), if_pos (by omega), if_pos (by omega), rd_nat, ← hxd, wrap_next (n := r.length) hq (by omega)]) ?_
      rw [show spec_l1Own.f (partOf l S) = some (partOf l S) by unfold spec_l1Own.f; first | rfl | rw [if_pos (by omega)] | (simp; omega)]
      simp only [Option.bind_some]
      refine Ev.bind (prPlace_ev l x (by omega)) ?_
      rw [← hie, ix_here h hi (by omega)]
      simp only [if_pos (show (0 : Int) ≤ (i : Int) by omega), if_pos (show (i : Int) < ((partOf l S).length : Int) by rw [part_len]; omega), Int.toNat_natCast]
      rw [part_set h hi (by omega), hie]
      refine Ev.bind (ih (S ++ [x]) D2 (by rw [List.length_append, List.length_singleton]; omega)) ?_
      rw [wrap_id (by omega) (by omega)]
      have e : ((r.take (q + 1)).map fun x => cn l d (S ++ [x])).sum = ((r.take q).map fun x => cn l d (S ++ [x])).sum + cn l d (S ++ [x]) := by
        rw [hxe, List.map_append, List.sum_append]; simp
      rw [e] at hE
      exact hE
    · rw [spec_prCount.l0, if_neg (by omega), List.take_length]
def ciV (l : List Int) : Int × Bool := if tblB l = true then (if 7 < (keysZ l).length then (0, false) else (cn l (keysZ l).length [], true)) else (0, false)
theorem spec_Count_ev (l : List Int) (hn : l.length ≤ 4611686018427387904) : Ev (fun k => spec_CountInsertions.f k l) (ciV l) := by
  unfold spec_CountInsertions.f ciV
  refine Ev.bind (prGood_ev l hn) ?_
  cases h : tblB l with
  | false =>
    simp only [Bool.false_eq_true, if_false]
    exact Ev.end_ fun k => by rw [spec_CountInsertions.j0, if_pos rfl]
  | true =>
    obtain ⟨h1, h2, h3, h4⟩ := tblB_parts h
    simp only [if_true]
    refine Ev.bind (prMany_ev l (by omega)) ?_
    rw [many_keysZ (fun j hj => (h3 j hj).1)]
    by_cases c : 7 < (keysZ l).length
    · rw [if_pos c]
      refine Ev.end_ fun k => ?_
      rw [spec_CountInsertions.j0, if_pos (decide_eq_true (by omega))]
    · rw [if_neg c]
      refine Ev.one (f := fun k => (spec_prEmpty.f k (l.length : Int)).bind fun t194 => ((spec_prCount.f k l t194).bind fun t197 => (some (t197, true)))) ?_ fun k => ?_
      · refine Ev.bind (t_prEmpty_ev l.length (by omega)) ?_
        rw [← part_nil l]
        refine Ev.bind (prCount_ev h (by omega) (keysZ l).length [] (Done.nil l) (by simp)) ?_
        exact Ev.now _
      · rw [spec_CountInsertions.j0, if_neg (by rw [decide_eq_false (by omega)]; decide)]
theorem impl_Count_ev (l : List Int) (hn : l.length ≤ 4611686018427387904) : Ev (fun k => impl_CountInsertions.f k l) (ciV l) := by
  unfold impl_CountInsertions.f ciV
  refine Ev.bind (isTable_ev l hn) ?_
  cases h : tblB l with
  | false => simp only [Bool.false_eq_true, if_false]; exact Ev.now _
  | true =>
    obtain ⟨h1, h2, h3, h4⟩ := tblB_parts h
    have hok : okTab l = true := by
      unfold okTab
      rw [cells_okB h, keys_okB h, decide_eq_true (by omega), decide_eq_true (by omega)]; rfl
    simp only [if_true, if_pos hok]
    by_cases c : 7 < (keysZ l).length
    · rw [if_pos c, if_pos c]; exact Ev.now _
    · rw [if_neg c, if_neg c, insV_eq h (by omega) (keysZ l).length [] 9 (Done.nil l) (by simp) (by omega)]
      exact Ev.now _
theorem FnExactCountInsertions (l0 : List Int) (hm : l0.length ≤ maxLen) (hb : l0.length * 8 ≤ 140737488351232) (hw : ∀ x ∈ l0, (Lit.int .i64 x).wf = true) : ∃ k, laws_FnExactCountInsertions.f k l0 = some true := by
  refine Ev.rounds ?_
  unfold laws_FnExactCountInsertions.f
  rw [szTable_eq l0 (by omega)]
  simp only [Option.bind_some]
  by_cases h : (l0.length : Int) > 1048576
  · rw [if_pos h]
    simp only [show ((-1 : Int) < 0) by decide, if_true]
    exact Ev.now _
  · rw [if_neg h]
    have hn : l0.length ≤ 1048576 := by omega
    simp only [show ¬ ((1048576 : Int) - (l0.length : Int) < 0) by omega, if_false]
    refine Ev.bind (toTable_ev l0 (by omega)) ?_
    refine Ev.bind (spec_Count_ev l0 (by omega)) ?_
    refine Ev.bind (toTable_ev l0 (by omega)) ?_
    refine Ev.bind (impl_Count_ev l0 (by omega)) ?_
    simp only [if_true, bne_self_eq_false]
    refine Ev.step (fun k => by rw [laws_FnExactCountInsertions.j0, if_neg (by decide)]) ?_
    refine Ev.bind (toTable_ev l0 (by omega)) ?_
    refine Ev.bind (eqTable_ev l0 l0 (by omega)) ?_
    simp only [decide_true, if_true]
    exact Ev.now _
end Go.Proofs.Ytmhlcpofnmcifaa.Pure
namespace Go.Proofs.YtmhlcpofnmcifaaW.PrintWords
open Go.ChangeShapes Go.WideShapes
theorem sized_ints {H : Type} {enc : TypeId × Value → H} {P : Program} {W : World} {base : Nat} {spare : Nat → Bool} {held : Bool} {t e : TypeId} {k : IntKind} {a : Option Addr} {len cap : Nat} {d : DataW H} {ps : List MemPlace} {ts : List TypeId} {ds : List (DataW H)} {j : Nat}
    (hsz : (DataW.weightsEach P ts ds).all (· ≤ reachBytes) = true) (ht : ts[j]? = some t) (hd : ds[j]? = some d) (hu : P.underlying t = some (.slice e)) (he : P.underlying e = some (.int k)) (hc : P.cellsOf e = 1) {B : Nat} (hB : P.bytesOf e = B)
    (h : DataW.Trod enc P W base spare held t (.slice a len cap) d ps) : len * B ≤ 140737488351232 := by
  obtain ⟨fuel, hf⟩ := h
  rcases open_ints hu he hc hf with ⟨hcs, _⟩ | ⟨x, l, c, zs, hcs, _, hl, _, hz, hx, _, _⟩
  · simp [Value.cells] at hcs
    obtain ⟨rfl, rfl, rfl⟩ := hcs
    simp
  · simp [Value.cells] at hcs
    obtain ⟨rfl, rfl, rfl⟩ := hcs
    obtain ⟨hx, _⟩ := Prod.mk.inj hx
    subst hx
    have z := sized_slice hsz ht hd hu
    rw [hB] at z
    have hl2 : len ≤ zs.length := by
      rw [hz]
      split
      · exact hl
      · exact Nat.le_refl _
    have h1 : (lits (H := H) k (zs.take len)).length + (lits (H := H) k (zs.drop len)).length = zs.length := by
      simp [lits]
      omega
    rw [h1] at z
    exact Nat.le_trans (Nat.mul_le_mul_right _ hl2) z
end Go.Proofs.YtmhlcpofnmcifaaW.PrintWords
namespace Go.Proofs.Ytmhlcpofnmcifaa.fnExactCountInsertions
open Go.ChangeShapes Go.WideShapes Go.ChangeAt Go.RowKit
open Go.ChangeMaps (open_string shut_string)
open Go.Proofs.YtmhlcpofnmcifaaW.PrintWords Go.Proofs.YtmhlcpofnmcifaaW.PrintLast Go.Proofs.YtmhlcpofnmcifaaW.PrintMore
set_option linter.unusedVariables false
set_option linter.unusedSimpArgs false
theorem own : ownKnob Try.prog.godebug = none := by kernel_rfl
theorem laidOut : laidOutB Try.prog = true := by kernel_rfl
def IsRow (k : IntKind) (w : World) (a : Option Addr) (len cap : Nat) (zs : List Int) : Prop :=
  (a = none ∧ len = 0 ∧ cap = 0 ∧ zs = []) ∨
  ∃ x, a = some x ∧ len ≤ cap ∧ cap ≤ maxLen ∧ zs.length = cap ∧ (∀ i, i < zs.length → w.cell? (x.add i) = some (.int k (zs.getD i 0))) ∧ ∀ n ∈ zs, (Lit.int k n).wf = true
set_option maxHeartbeats 4000000 in
set_option maxRecDepth 100000 in
theorem lifted (os : Os) (started : os.Started) (H : Type) (enc : TypeId × Value → H) :
    ReturnsInHanded {} Try.checked os 3 .any (Rows.fnExactCountInsertionsSpec.pre6 enc Try.prog Try.f3 Rows.fnExactCountInsertionsRow.domain false) (Rows.fnExactCountInsertionsSpec.post enc Try.prog Try.f3 false true false false) := by
  refine returnsInHanded_of_change_sized (C := Try.checked) own started (by kernel_rfl) Try.func3
    (ChangeSpec.witness6 (enc := enc) (C := Try.checked) false ⟨#[], #[.agg #[.slice none 0 0]], []⟩ 8 (by kernel_rfl) (by kernel_rfl) (by kernel_rfl) (by kernel_rfl)) ?_
  intro W base args ds gs before hval0 hW hcnd hsz0 _
  have hsz : (DataW.weightsEach Try.prog (Try.f3.params.toList ++ Rows.fnExactCountInsertionsSpec.plain.varTypes Try.prog) (ds ++ gs)).all (· ≤ reachBytes) = true := hsz0
  have hval : ∀ (j : Nat) t v, Try.f3.params[j]? = some t → args[j]? = some v → Value.okWide Try.prog W .any base t v := hval0
  have hW' := hW
  obtain ⟨p, q, hA0, hV, rfl, hfz, hnd⟩ := hW
  have hA : DataW.TrodAll enc Try.prog W 0 (fun _ => true) true Try.f3.params.toList args.toList ds p := hA0
  rw [Try.params3] at hA hval hsz
  obtain ⟨v0, vs0, d0, ds0, p0, q0, hargs, rfl, rfl, h0, r0⟩ := trodAll_cons hA
  obtain ⟨rfl, rfl, rfl⟩ := trodAll_nil r0
  obtain rfl : args = #[v0] := by cases args; simp_all
  obtain ⟨rfl, rfl⟩ := trodVars_none hV
  obtain ⟨cs0, rfl, hcs0⟩ := okWide_struct Try.underlying24 (hval 0 24 v0 rfl rfl)
  have k0 := h0
  have lt0 : ∀ x ∈ p0, x.block < W.heap.size := by obtain ⟨m, hm⟩ := k0; exact DataW.trod_lt m _ _ _ hm
  obtain ⟨a0, len0, cap0, z0, rfl, w0, y0⟩ : ∃ a len cap zs, cs0 = #[.slice a len cap] ∧ IsRow .i64 W a len cap zs ∧ len * 8 ≤ 140737488351232 := by
    obtain ⟨fuel, hf⟩ := h0
    obtain ⟨y, m, hx, _, hf0⟩ := trod_struct1 Try.underlying24 hf
    have hsize : cs0.size = 1 := hcs0.trans (by kernel_rfl)
    obtain ⟨u, rfl⟩ : ∃ u, cs0 = #[u] := Array.size_eq_one_iff.1 hsize
    have hone : Try.prog.cellsOf 22 = 1 := by kernel_rfl
    have hf1 : DataW.trod enc Try.prog W 0 (fun _ => true) true m 22 [u] = some y := by simpa [Value.cells, hone] using hf0
    obtain ⟨rfl, rfl⟩ := Prod.mk.inj hx
    have hsz1 : (DataW.weightsEach Try.prog [22] [y.1]).all (· ≤ reachBytes) = true := by
      rw [List.all_eq_true]
      intro b hb
      refine List.all_eq_true.1 hsz b (DataW.weights_mem_each (j := 0) rfl rfl b ?_)
      rw [DataW.weights, Try.underlying24]
      exact hb
    rcases open_ints Try.underlying22 Try.underlying3 (by kernel_rfl) hf1 with ⟨hcs, _⟩ | ⟨x, l, c, zs, hcs, _, hl, hm, hz, _, hcell, hwz⟩
    · obtain rfl : u = .slice none 0 0 := by simpa using hcs
      exact ⟨none, 0, 0, [], rfl, .inl ⟨rfl, rfl, rfl, rfl⟩, by omega⟩
    · obtain rfl : u = .slice (some x) l c := by simpa using hcs
      have hy := Go.Proofs.YtmhlcpofnmcifaaW.PrintWords.sized_ints hsz1 (j := 0) (t := 22) rfl rfl Try.underlying22 Try.underlying3 (by kernel_rfl) (B := 8) (by kernel_rfl) (⟨m, hf1⟩ : DataW.Trod enc Try.prog W 0 (fun _ => true) true 22 (.slice (some x) l c) y.1 y.2)
      exact ⟨some x, l, c, zs, rfl, .inr ⟨_, rfl, hl, hm, by simpa using hz, hcell, hwz⟩, hy⟩
  clear hA0 hval0 hsz0 hsz
  obtain ⟨l0, rfl, hr0, hm0, hw0, hc0⟩ := ReadsInt.ofRowC w0
  obtain ⟨k, h⟩ := Pure.FnExactCountInsertions l0 hm0 y0 hw0
  refine (G.laws_FnExactCountInsertions.calls k _ _ l0 true W (Kd.C_of_reads (d := (0 : Int)) (h1 := fun _ => rfl) hr0) hc0 h).mono fun e W' hee => ?_
  obtain ⟨he, bel⟩ := hee
  subst he
  exact ⟨_, rfl, _, _, _, [], _, [], hW', trodAll_mk1 (shut_bool Try.underlying4 _), (trodAll_cons_mk (Below.trod laidOut (by kernel_rfl) (of_decide_eq_true (by kernel_rfl)) k0 bel lt0) trodAll_mk0), rfl, bel.frame _, fun h => by cases h⟩
theorem over : Rows.fnExactCountInsertionsRow.holds Try.pinned (OpenSpec.ofChange Rows.fnExactCountInsertionsSpec) :=
  OpenClaim.holds_of_wide 3 Try.f3 rfl rfl rfl rfl rfl rfl rfl ⟨rfl, rfl, rfl, rfl, rfl⟩ rfl rfl rfl rfl rfl (by kernel_rfl) Try.func3 (by kernel_rfl)
    (of_decide_eq_true (by kernel_rfl)) (by unfold Func.isWrapper; first | (rw [if_pos (by decide +kernel)]; kernel_rfl) | (rw [if_neg (by decide +kernel)]; exact ⟨rfl, rfl⟩))
    (fun os started H enc _ => lifted os started H enc)
theorem proved : Rows.FnExactCountInsertionsSaid := over
#print axioms proved
end Go.Proofs.Ytmhlcpofnmcifaa.fnExactCountInsertions
namespace Go.Proofs.Ytmhlcpofnmcifaa
/-- The row, under a short name, for the claim. -/
theorem fnExactCountInsertions_holds : Rows.FnExactCountInsertionsSaid := fnExactCountInsertions.proved
end Go.Proofs.Ytmhlcpofnmcifaa
