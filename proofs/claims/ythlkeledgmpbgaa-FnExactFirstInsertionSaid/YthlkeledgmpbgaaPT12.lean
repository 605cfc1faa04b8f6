
/- The least order of insertion: the reference's ready keys, the program's keys that may come next, and that they are the same. -/

import Derived.Test.YthlkeledgmpbgaaGx3
import Derived.Test.YthlkeledgmpbgaaGx4
import Derived.Test.YthlkeledgmpbgaaGx5
import Derived.Test.YthlkeledgmpbgaaGx6

import Derived.Test.YthlkeledgmpbgaaPT7

import Derived.Test.YthlkeledgmpbgaaGvF

namespace Go.Proofs.Ythlkeledgmpbgaa.Pure

open Go.RowKit Go.Proofs.Ythlkeledgmpbgaa.G Go.Proofs.YthlkeledgmpbgaaW.PrintWords Go.Proofs.YthlkeledgmpbgaaW.PrintLast

set_option linter.unusedVariables false

set_option linter.unusedSimpArgs false

/-! ### The part of a table that holds the keys of S -/

def partOf (l S : List Int) : List Int := l.map fun x => if x ∈ S then x else -1
theorem part_len (l S : List Int) : (partOf l S).length = l.length := by simp [partOf]
theorem part_get (l S : List Int) {i : Nat} (hi : i < l.length) : (partOf l S).getD i 0 = if l.getD i 0 ∈ S then l.getD i 0 else -1 := by
  unfold partOf
  rw [getD_get (by simpa using hi), getD_get hi]
  simp
theorem part_nil (l : List Int) : partOf l [] = TabT.empty l.length := by
  unfold partOf TabT.empty
  refine List.ext_getElem (by simp) (fun i _ _ => by simp)
/-- A key may come next behind S. -/
def rdyB (l S : List Int) (x : Int) : Bool := wayS l S x (cstK l x) 0 && !decide (x ∈ S)
theorem index_at (l : List Int) (a : Int) (hn : l.length ≤ 1000) : ∀ (d i : Nat), i + d = l.length → ∀ k, d + 1 ≤ k → slices_Index_int_int.l0 k l a (l.length : Int) i = some (ixF l a d i) := by
  intro d
  induction d with
  | zero =>
    intro i hd k hk
    obtain ⟨k, rfl⟩ : ∃ q, k = q + 1 := ⟨k - 1, by omega⟩
    rw [slices_Index_int_int.l0, if_neg (by omega)]; rfl
  | succ d ih =>
    intro i hd k hk
    obtain ⟨k, rfl⟩ : ∃ q, k = q + 1 := ⟨k - 1, by omega⟩
    rw [ixF]
    by_cases c : l.getD i 0 = a
    · rw [if_pos c, slices_Index_int_int.l0, if_pos (by omega), if_pos (by omega), if_pos (by omega), rd_nat, if_pos c.symm]
    · rw [if_neg c, slices_Index_int_int.l0, if_pos (by omega), if_pos (by omega), if_pos (by omega), rd_nat, if_neg (fun e => c e.symm), wrap_next (n := l.length) (by omega) (by omega)]
      exact ih (i + 1) (by omega) k (by omega)
theorem index_at0 (l : List Int) (a : Int) (hn : l.length ≤ 1000) : slices_Index_int_int.f 2000 l a = some (ixF l a l.length 0) := index_at l a hn l.length 0 (by omega) 2000 (by omega)
theorem ix_here {l : List Int} (h : tblB l = true) {i : Nat} (hi : i < l.length) (h0 : 0 ≤ l.getD i 0) : ixF l (l.getD i 0) l.length 0 = (i : Int) := by
  rcases ixF_spec l (l.getD i 0) l.length 0 (by omega) with ⟨_, h2⟩ | ⟨j, h1, h2, h3, _⟩
  · exact absurd (by rw [List.drop_zero]; exact getD_mem hi) h2
  · rw [h1]
    rcases Nat.lt_trichotomy i j with c | c | c
    · exact absurd h3.symm (tbl_dist h i j c h2 h0)
    · rw [c]
    · exact absurd h3 (tbl_dist h j i c hi (by rw [h3]; exact h0))
theorem atK_here {l : List Int} (h : tblB l = true) {i : Nat} (hi : i < l.length) (h0 : 0 ≤ l.getD i 0) : slices_Index_int_int.f 2000 l (l.getD i 0) = some (i : Int) ∧ atK l (l.getD i 0) = (i : Int) := by
  have h2 := (tblB_parts h).2.1
  have e := index_at0 l (l.getD i 0) (by omega)
  rw [ix_here h hi h0] at e
  exact ⟨e, by unfold atK; rw [e]; rfl⟩
theorem cst_here {l : List Int} (h : tblB l = true) {i : Nat} (hi : i < l.length) (h0 : 0 ≤ l.getD i 0) : impl_Table_cost.f l (i : Int) = some ((costN l.length (l.getD i 0).toNat i : Nat) : Int) ∧ cstK l (l.getD i 0) = costN l.length (l.getD i 0).toNat i := by
  obtain ⟨h1, h2, h3, h4⟩ := tblB_parts h
  have hv := h3 i hi
  have e := tcost_eq (l := l) (key := (l.getD i 0).toNat) (at_ := i) (by omega) (by omega) hi (by omega)
  refine ⟨e, ?_⟩
  unfold cstK
  rw [(atK_here h hi h0).2, e]
  simp
theorem key_at {l : List Int} {x : Int} (hx : x ∈ keysZ l) : ∃ i, i < l.length ∧ l.getD i 0 = x ∧ 0 ≤ x := by
  obtain ⟨h1, h2⟩ := keysZ_mem.1 hx
  obtain ⟨i, hi, e⟩ := List.getElem_of_mem h1
  exact ⟨i, hi, by rw [getD_get hi]; exact e, h2⟩
theorem keys_okB {l : List Int} (h : tblB l = true) : (keysZ l).all (keyOk l) = true := by
  obtain ⟨h1, h2, h3, h4⟩ := tblB_parts h
  rw [List.all_eq_true]
  intro x hx
  obtain ⟨i, hi, rfl, h0⟩ := key_at hx
  have hv := h3 i hi
  obtain ⟨a1, a2⟩ := atK_here h hi h0
  obtain ⟨b1, b2⟩ := cst_here h hi h0
  have hl := costN_lt (n := l.length) (key := (l.getD i 0).toNat) (at_ := i) (by omega)
  unfold keyOk
  rw [a2, b2]
  simp only [Bool.and_eq_true, decide_eq_true_eq]
  exact ⟨⟨⟨⟨h0, hv.2⟩, a1⟩, b1⟩, by omega⟩
theorem cells_okB {l : List Int} (h : tblB l = true) : l.all cellOk = true := by
  obtain ⟨h1, h2, h3, h4⟩ := tblB_parts h
  rw [List.all_eq_true]
  intro x hx
  obtain ⟨i, hi, e⟩ := List.getElem_of_mem hx
  have := h3 i hi
  rw [getD_get hi, e] at this
  unfold cellOk
  simp only [Bool.and_eq_true, decide_eq_true_eq]
  exact this
/-! ### The reference's ready keys -/

def rdyTo (l S : List Int) : Nat → List Int
  | 0 => []
  | q + 1 => if 0 ≤ l.getD q 0 ∧ rdyB l S (l.getD q 0) = true then putZ (l.getD q 0) (rdyTo l S q) else rdyTo l S q
theorem rdyTo_len (l S : List Int) : ∀ q, (rdyTo l S q).length ≤ q
  | 0 => by simp [rdyTo]
  | q + 1 => by
    have := rdyTo_len l S q
    have := putZ_len (l.getD q 0) (rdyTo l S q)
    rw [rdyTo]
    split <;> omega
theorem rdyTo_mem (l S : List Int) (x : Int) : ∀ q, x ∈ rdyTo l S q ↔ ∃ j, j < q ∧ l.getD j 0 = x ∧ 0 ≤ x ∧ rdyB l S x = true
  | 0 => by simp [rdyTo]
  | q + 1 => by
    rw [rdyTo]
    split
    · rename_i h
      rw [putZ_mem, rdyTo_mem l S x q]
      constructor
      · rintro (e | ⟨j, h1, h2, h3⟩)
        · exact ⟨q, by omega, e.symm, by rw [e]; exact h⟩
        · exact ⟨j, by omega, h2, h3⟩
      · rintro ⟨j, h1, h2, h3⟩
        by_cases e : j = q
        · subst e; exact Or.inl h2.symm
        · exact Or.inr ⟨j, by omega, h2, h3⟩
    · rename_i h
      rw [rdyTo_mem l S x q]
      constructor
      · rintro ⟨j, h1, h2, h3⟩; exact ⟨j, by omega, h2, h3⟩
      · rintro ⟨j, h1, h2, h3⟩
        by_cases e : j = q
        · subst e; rw [h2] at h; exact absurd h3 h
        · exact ⟨j, by omega, h2, h3⟩
theorem rdyTo_strict (l S : List Int) : ∀ q, (rdyTo l S q).Pairwise (· < ·)
  | 0 => by simp [rdyTo]
  | q + 1 => by
    rw [rdyTo]
    split
    · exact putZ_strict _ _ (rdyTo_strict l S q)
    · exact rdyTo_strict l S q
theorem rdy_filter {l : List Int} (h : tblB l = true) (S : List Int) : rdyTo l S l.length = (keysZ l).filter (rdyB l S) := by
  refine strict_ext _ _ (rdyTo_strict _ _ _) ((keysZ_strict h).filter _) (fun x => ?_)
  rw [rdyTo_mem, List.mem_filter]
  constructor
  · rintro ⟨j, h1, h2, h3, h4⟩
    exact ⟨keysZ_mem.2 ⟨h2 ▸ getD_mem h1, h3⟩, h4⟩
  · rintro ⟨h1, h2⟩
    obtain ⟨i, hi, e, h0⟩ := key_at h1
    exact ⟨i, hi, e, h0, h2⟩
section

variable {l : List Int} (h : tblB l = true) {S : List Int} (hS : ∀ x ∈ S, 0 ≤ x)
include h hS
omit h in
theorem part_used {i : Nat} (hi : i < l.length) : ((partOf l S).getD i 0 != -1) = decide (l.getD i 0 ∈ S) := by
  rw [part_get l S hi]
  by_cases c : l.getD i 0 ∈ S
  · rw [if_pos c, decide_eq_true c]
    have := hS _ c
    exact bne_iff_ne.mpr (by omega)
  · rw [if_neg c, decide_eq_false c]; rfl
theorem rd_way (key i c : Nat) (out r : List Int) (hk : key ≤ 1000) (hi : i < l.length) (hc : costN l.length key i = c) : ∀ (j : Nat), j ≤ c → ∀ b,
    Ev (fun k => spec_prReady.l1 k (partOf l S) (l.length : Int) out (i : Int) (key : Int) (b && wayS l S (key : Int) j (c - j)) 0 l (l.length : Int) (i : Int)) r →
    Ev (fun k => spec_prReady.l1 k (partOf l S) (l.length : Int) out (i : Int) (key : Int) b (j : Int) l (l.length : Int) (i : Int)) r := by
  obtain ⟨h1, h2, h3, h4⟩ := tblB_parts h
  have hcn : c < l.length := by rw [← hc]; exact costN_lt (by omega)
  intro j
  induction j with
  | zero =>
    intro _ b hr
    rw [wayS, Bool.and_true] at hr
    exact hr
  | succ j ih =>
    intro hj b hr
    have hcell := back_cell (n := l.length) (by omega) hi hc hj (by omega)
    have e1 : Int.tmod (wrap64 ((wrap64 ((i : Int) - ((j + 1 : Nat) : Int))) + (l.length : Int))) (l.length : Int) = (((key + (c - (j + 1))) % l.length : Nat) : Int) := by
      rw [wrap_id (x := (i : Int) - ((j + 1 : Nat) : Int)) (by omega) (by omega), wrap_id (by omega) (by omega), ← hcell, show (i : Int) - ((j + 1 : Nat) : Int) + (l.length : Int) = ((i + l.length - (j + 1) : Nat) : Int) by omega]
      rfl
    have hm := Nat.mod_lt (key + (c - (j + 1))) (show 0 < l.length by omega)
    rw [wayS, show c - (j + 1) + 1 = c - j by omega, Int.toNat_natCast] at hr
    cases b with
    | false =>
      rw [Bool.false_and] at hr
      refine Ev.one (ih (by omega) false (by rw [Bool.false_and]; exact hr)) fun k => ?_
      rw [spec_prReady.l1, if_pos (by omega), if_neg (by decide), wrap_id (x := ((j + 1 : Nat) : Int) - 1) (by omega) (by omega), show ((j + 1 : Nat) : Int) - 1 = (j : Int) by omega]
    | true =>
      rw [Bool.true_and] at hr
      refine Ev.one (ih (by omega) _ hr) fun k => ?_
      rw [spec_prReady.l1, if_pos (by omega), if_pos rfl, if_neg (by omega), e1, if_pos (by omega), if_pos (by rw [part_len]; omega), rd_nat, part_used hS hm, wrap_id (x := ((j + 1 : Nat) : Int) - 1) (by omega) (by omega), show ((j + 1 : Nat) : Int) - 1 = (j : Int) by omega]
theorem prReady_ev : Ev (fun k => spec_prReady.f k l (partOf l S)) (rdyTo l S l.length) := by
  obtain ⟨h1, h2, h3, h4⟩ := tblB_parts h
  unfold spec_prReady.f
  rw [part_len]
  have := Ev.up0 l.length (fun q => rdyTo l S q) (fun k s q => spec_prReady.l0 k (partOf l S) (l.length : Int) s l (l.length : Int) q) (rdyTo l S l.length) (fun q hq hE => ?_) (Ev.end_ fun k => ?_)
  · simpa [rdyTo] using this
  · have hv := h3 q hq
    have hpl := rdyTo_len l S q
    by_cases hf : l.getD q 0 = -1
    · rw [rdyTo, if_neg (fun e => by omega)] at hE
      refine Ev.one (f := fun k => spec_prReady.j1 k (partOf l S) (l.length : Int) (rdyTo l S q) (q : Int) (l.getD q 0) l (l.length : Int) (q : Int) true) (Ev.one hE fun k => ?_) fun k => ?_
      · rw [spec_prReady.j1, if_pos rfl, wrap_next (n := l.length) hq (by omega)]
      · rw [spec_prReady.l0, if_pos (by omega), if_pos (by omega), if_pos (by omega), rd_nat, if_pos hf]
    · obtain ⟨key, hkey⟩ : ∃ key : Nat, l.getD q 0 = key := ⟨(l.getD q 0).toNat, by omega⟩
      have h0 : 0 ≤ l.getD q 0 := by omega
      have hcs := (cst_here h hq h0).2
      by_cases hp : l.getD q 0 ∈ S
      · rw [rdyTo, if_neg (fun e => by have := e.2; unfold rdyB at this; rw [decide_eq_true hp] at this; simp at this)] at hE
        refine Ev.one (f := fun k => spec_prReady.j1 k (partOf l S) (l.length : Int) (rdyTo l S q) (q : Int) (l.getD q 0) l (l.length : Int) (q : Int) true) (Ev.one hE fun k => ?_) fun k => ?_
        · rw [spec_prReady.j1, if_pos rfl, wrap_next (n := l.length) hq (by omega)]
        · rw [spec_prReady.l0, if_pos (by omega), if_pos (by omega), if_pos (by omega), rd_nat, if_neg hf, if_pos (by rw [part_len]; omega), rd_nat, part_used hS hq, decide_eq_true hp]
      · refine Ev.one (f := fun k => spec_prReady.j1 k (partOf l S) (l.length : Int) (rdyTo l S q) (q : Int) (l.getD q 0) l (l.length : Int) (q : Int) false) ?_ fun k => ?_
        · refine Ev.one (f := fun k => spec_prReady.l1 k (partOf l S) (l.length : Int) (rdyTo l S q) (q : Int) (key : Int) true ((costN l.length key q : Nat) : Int) l (l.length : Int) (q : Int)) ?_ fun k => ?_
          · refine rd_way h hS key q _ (rdyTo l S q) _ (by omega) hq rfl (costN l.length key q) (Nat.le_refl _) true ?_
            rw [Nat.sub_self, Bool.true_and]
            rw [rdyTo] at hE
            unfold rdyB at hE
            rw [hcs, decide_eq_false hp, Bool.not_false, Bool.and_true, hkey, Int.toNat_natCast] at hE
            cases hw : wayS l S (key : Int) (costN l.length key q) 0 with
            | true =>
              rw [hw, if_pos ⟨by omega, rfl⟩] at hE
              refine Ev.step (f := fun k => (spec_l1Put.f k (rdyTo l S q) (key : Int)).bind fun t167 => (spec_prReady.l0 k (partOf l S) (l.length : Int) t167 l (l.length : Int) ((q + 1 : Nat) : Int))) (fun k => by
                rw [spec_prReady.l1, if_neg (by omega), if_pos rfl, wrap_next (n := l.length) hq (by omega)]) ?_
              exact Ev.bind (l1Put_ev _ _ (by omega)) hE
            | false =>
              rw [hw, if_neg (fun e => by cases e.2)] at hE
              refine Ev.one hE fun k => ?_
              rw [spec_prReady.l1, if_neg (by omega), if_neg (by decide), wrap_next (n := l.length) hq (by omega)]
          · rw [spec_prReady.j1, if_neg (by decide), hkey, prCost_eq (by omega) (by omega) (by omega) hq]
            rfl
        · rw [spec_prReady.l0, if_pos (by omega), if_pos (by omega), if_pos (by omega), rd_nat, if_neg hf, if_pos (by rw [part_len]; omega), rd_nat, part_used hS hq, decide_eq_false hp]
  · rw [spec_prReady.l0, if_neg (by omega)]
end

/-! ### The least order -/

def fo (l : List Int) : Nat → List Int → List Int
  | 0, S => S
  | d + 1, S => match (keysZ l).filter (rdyB l S) with
    | [] => S
    | x :: _ => fo l d (S ++ [x])
theorem sub_len : ∀ (a b : List Int), a.Nodup → (∀ x ∈ a, x ∈ b) → a.length ≤ b.length
  | [], b, _, _ => by simp
  | x :: a, b, hn, hs => by
    rw [List.nodup_cons] at hn
    have hx := hs x List.mem_cons_self
    have := sub_len a (b.erase x) hn.2 (fun y hy => by
      have e : y ≠ x := fun e => hn.1 (e ▸ hy)
      exact (List.mem_erase_of_ne e).2 (hs y (List.mem_cons_of_mem _ hy)))
    rw [List.length_erase_of_mem hx] at this
    have hp := List.length_pos_of_mem hx
    rw [List.length_cons]
    omega
theorem wayS_iff (l S : List Int) (x : Int) : ∀ (c s : Nat), wayS l S x c s = true ↔ ∀ m, m < c → l.getD ((x.toNat + s + m) % l.length) 0 ∈ S
  | 0, s => by simp [wayS]
  | c + 1, s => by
    rw [wayS, Bool.and_eq_true, decide_eq_true_eq, wayS_iff l S x c (s + 1)]
    constructor
    · rintro ⟨h1, h2⟩ m hm
      cases m with
      | zero => exact h1
      | succ m => have := h2 m (by omega); rw [show x.toNat + s + (m + 1) = x.toNat + (s + 1) + m by omega]; exact this
    · intro h
      refine ⟨h 0 (by omega), fun m hm => ?_⟩
      have := h (m + 1) (by omega)
      rw [show x.toNat + (s + 1) + m = x.toNat + s + (m + 1) by omega]; exact this
theorem us_part {l S : List Int} (hS : ∀ x ∈ S, 0 ≤ x) {i : Nat} (hi : i < l.length) : TabT.us (partOf l S) i = decide (l.getD i 0 ∈ S) := by
  rw [us_of (by rw [part_len]; exact hi), part_get l S hi]
  by_cases c : l.getD i 0 ∈ S
  · rw [if_pos c, decide_eq_true c]; exact decide_eq_true (hS _ c)
  · rw [if_neg c, decide_eq_false c]; rfl
theorem some_ready {l S : List Int} (h : tblB l = true) (hS : ∀ x ∈ S, 0 ≤ x) {x : Int} (hx : x ∈ keysZ l) (hxS : x ∉ S) : (keysZ l).filter (rdyB l S) ≠ [] := by
  obtain ⟨h1, h2, h3, h4⟩ := tblB_parts h
  obtain ⟨i, hi, rfl, h0⟩ := key_at hx
  obtain ⟨j, hj1, hj2, hj3⟩ := TabT.exists_ready (p := partOf l S) (tbl_valid h) ⟨i, by rw [us_of hi]; exact decide_eq_true h0, by rw [us_part hS hi]; exact decide_eq_false hxS⟩
  have lj := TabT.us_lt hj1
  have vj := us_val hj1
  obtain ⟨key, hkey⟩ : ∃ key : Nat, l.getD j 0 = key := ⟨(l.getD j 0).toNat, by omega⟩
  have hr : rdyB l S (l.getD j 0) = true := by
    rw [rdyB, Bool.and_eq_true]
    constructor
    · rw [wayS_iff, (cst_here h lj vj).2, hkey, Int.toNat_natCast]
      intro m hm
      rw [costN_cost lj] at hm
      rw [t_g0 lj, hkey] at hj3
      have hu := hj3 m hm
      have hm2 := TabT.cost_lt lj (key : Int)
      have hcy := TabT.cy_lt (n := l.length) (i := TabT.own l.length (key : Int) + m) (by have := TabT.own_lt (n := l.length) (by omega) (key : Int); omega)
      rw [us_part hS hcy] at hu
      rw [Nat.add_zero, way_cell (by omega) (by omega)]
      exact of_decide_eq_true hu
    · rw [us_part hS lj] at hj2
      rw [hj2]; rfl
  intro e
  have : l.getD j 0 ∈ (keysZ l).filter (rdyB l S) := List.mem_filter.2 ⟨keysZ_mem.2 ⟨getD_mem lj, vj⟩, hr⟩
  rw [e] at this
  cases this
theorem idx_head (p : Int → Bool) : ∀ (ks : List Int) (i : Int), (ks.filter p = [] → idxF p ks i = -1) ∧ ∀ x r, ks.filter p = x :: r → ∃ j : Nat, idxF p ks i = i + j ∧ ks.getD j 0 = x ∧ j < ks.length
  | [], i => by simp [idxF]
  | y :: ks, i => by
    by_cases c : p y = true
    · refine ⟨fun e => by simp [c] at e, fun x r e => ?_⟩
      rw [List.filter_cons_of_pos c] at e
      exact ⟨0, by rw [idxF, if_pos c]; simp, by simpa using (List.cons.inj e).1, by simp⟩
    · obtain ⟨h1, h2⟩ := idx_head p ks (i + 1)
      rw [List.filter_cons_of_neg c, idxF, if_neg c]
      refine ⟨h1, fun x r e => ?_⟩
      obtain ⟨j, e1, e2, e3⟩ := h2 x r e
      exact ⟨j + 1, by rw [e1]; omega, by simpa using e2, by simpa using e3⟩
structure Done (l S : List Int) : Prop where
  mem : ∀ x ∈ S, x ∈ keysZ l
  nodup : S.Nodup
theorem Done.nonneg {l S : List Int} (D : Done l S) : ∀ x ∈ S, 0 ≤ x := fun x hx => (keysZ_mem.1 (D.mem x hx)).2
theorem Done.le {l S : List Int} (D : Done l S) : S.length ≤ (keysZ l).length := sub_len _ _ D.nodup D.mem
theorem Done.snoc {l S : List Int} (D : Done l S) {x : Int} {r : List Int} (e : (keysZ l).filter (rdyB l S) = x :: r) : Done l (S ++ [x]) ∧ x ∈ keysZ l ∧ x ∉ S := by
  have hx : x ∈ (keysZ l).filter (rdyB l S) := by rw [e]; exact List.mem_cons_self
  obtain ⟨h1, h2⟩ := List.mem_filter.1 hx
  have h3 : x ∉ S := by
    rw [rdyB, Bool.and_eq_true] at h2
    simpa using h2.2
  refine ⟨⟨fun y hy => ?_, ?_⟩, h1, h3⟩
  · rcases List.mem_append.1 hy with hy | hy
    · exact D.mem y hy
    · rw [List.mem_singleton.1 hy]; exact h1
  · rw [List.nodup_append]
    exact ⟨D.nodup, by simp, fun a ha b hb e => h3 (by rw [List.mem_singleton] at hb; rw [← hb, ← e]; exact ha)⟩
theorem Done.nil (l : List Int) : Done l [] := ⟨by simp, by simp⟩
theorem fo_done {l : List Int} : ∀ (d : Nat) (S : List Int), Done l S → Done l (fo l d S)
  | 0, S, D => D
  | d + 1, S, D => by
    rw [fo]
    split
    · exact D
    · rename_i x r e
      exact fo_done d _ (D.snoc e).1
theorem all_done {l S : List Int} (h : tblB l = true) (D : Done l S) (hl : S.length = (keysZ l).length) : (keysZ l).filter (rdyB l S) = [] := by
  cases e : (keysZ l).filter (rdyB l S) with
  | nil => rfl
  | cons x r =>
    have := (D.snoc e).1.le
    rw [List.length_append, List.length_singleton] at this
    omega
theorem not_done {l S : List Int} (h : tblB l = true) (D : Done l S) (hl : S.length < (keysZ l).length) : (keysZ l).filter (rdyB l S) ≠ [] := by
  by_cases c : ∃ x, x ∈ keysZ l ∧ x ∉ S
  · obtain ⟨x, h1, h2⟩ := c
    exact some_ready h D.nonneg h1 h2
  · have hn := (keysZ_perm l).nodup_iff.mpr (filter_nodup (tbl_dist h))
    have := sub_len (keysZ l) S hn (fun x hx => by
      by_cases c2 : x ∈ S
      · exact c2
      · exact absurd ⟨x, hx, c2⟩ c)
    omega
theorem firstGo_eq {l : List Int} (h : tblB l = true) : ∀ (d : Nat) (S : List Int), Done l S → S.length + d = (keysZ l).length → firstGo l (keysZ l) d S = some (fo l d S)
  | 0, S, D, hl => rfl
  | d + 1, S, D, hl => by
    have hne := not_done h D (by omega)
    rw [firstGo, fo]
    cases e : (keysZ l).filter (rdyB l S) with
    | nil => exact absurd e hne
    | cons x r =>
      obtain ⟨j, e1, e2, e3⟩ := (idx_head (rdyB l S) (keysZ l) 0).2 x r e
      have e4 : idxF (comesF l S) (keysZ l) 0 = (j : Int) := by rw [show comesF l S = rdyB l S from rfl, e1]; omega
      rw [e4, if_pos (by omega), rd_nat, e2]
      exact firstGo_eq h d _ (D.snoc e).1 (by rw [List.length_append, List.length_singleton]; omega)
theorem first_f {l : List Int} (h : tblB l = true) : impl_Table_first.f l = some (fo l (keysZ l).length []) := by
  obtain ⟨h1, h2, h3, h4⟩ := tblB_parts h
  unfold impl_Table_first.f
  rw [if_pos ⟨by omega, by omega, cells_okB h, keys_okB h⟩]
  exact firstGo_eq h _ _ (Done.nil l) (by simp)
theorem place_l0 (l : List Int) (a : Int) (hn : l.length ≤ 4611686018427387904) : ∀ (d i : Nat), i + d = l.length → Ev (fun k => spec_prPlace.l0 k a l (l.length : Int) i) (ixF l a d i) := by
  intro d
  induction d with
  | zero =>
    intro i hd
    exact Ev.end_ fun k => by rw [spec_prPlace.l0, if_neg (by omega)]; rfl
  | succ d ih =>
    intro i hd
    rw [ixF]
    by_cases c : l.getD i 0 = a
    · rw [if_pos c]
      refine Ev.end_ fun k => ?_
      rw [spec_prPlace.l0, if_pos (by omega), if_pos (by omega), if_pos (by omega), rd_nat, if_pos c]
    · rw [if_neg c]
      refine Ev.one (ih (i + 1) (by omega)) fun k => ?_
      rw [spec_prPlace.l0, if_pos (by omega), if_pos (by omega), if_pos (by omega), rd_nat, if_neg c, wrap_next (n := l.length) (by omega) hn]
theorem prPlace_ev (l : List Int) (a : Int) (hn : l.length ≤ 4611686018427387904) : Ev (fun k => spec_prPlace.f k l a) (ixF l a l.length 0) := by
  unfold spec_prPlace.f
  exact place_l0 l a hn l.length 0 (by omega)
theorem part_set {l S : List Int} (h : tblB l = true) {i : Nat} (hi : i < l.length) (h0 : 0 ≤ l.getD i 0) : (partOf l S).set i (l.getD i 0) = partOf l (S ++ [l.getD i 0]) := by
  refine List.ext_getElem (by simp [partOf]) (fun j hj1 hj2 => ?_)
  have hj : j < l.length := by rw [part_len] at hj2; exact hj2
  have e1 : (partOf l (S ++ [l.getD i 0]))[j] = if l.getD j 0 ∈ S ++ [l.getD i 0] then l.getD j 0 else -1 := by
    rw [← part_get l _ hj, getD_get hj2]
  have e2 : (partOf l S)[j]'(by rw [part_len]; exact hj) = if l.getD j 0 ∈ S then l.getD j 0 else -1 := by
    rw [← part_get l _ hj, getD_get (by rw [part_len]; exact hj)]
  rw [List.getElem_set, e1, e2]
  by_cases c : i = j
  · subst c
    rw [if_pos rfl, if_pos (by simp)]
  · rw [if_neg c]
    have hd : l.getD j 0 ≠ l.getD i 0 := fun e => by
      rcases Nat.lt_or_ge i j with q | q
      · exact tbl_dist h i j q hj h0 e.symm
      · exact tbl_dist h j i (by omega) hi (by rw [e]; exact h0) e
    simp only [List.mem_append, List.mem_singleton, hd, or_false]
theorem prFirst_l0 {l : List Int} (h : tblB l = true) : ∀ (d : Nat) (S : List Int), Done l S → S.length + d = (keysZ l).length → Ev (fun k => spec_prFirst.l0 k (partOf l S) S ((keysZ l).filter (rdyB l S)) l) (fo l d S) := by
  obtain ⟨h1, h2, h3, h4⟩ := tblB_parts h
  intro d
  induction d with
  | zero =>
    intro S D hl
    rw [all_done h D (by omega)]
    exact Ev.end_ fun k => by rw [spec_prFirst.l0, if_neg (by simp)]; rfl
  | succ d ih =>
    intro S D hl
    rw [fo]
    cases e : (keysZ l).filter (rdyB l S) with
    | nil => exact Ev.end_ fun k => by rw [spec_prFirst.l0, if_neg (by simp)]
    | cons x r =>
      obtain ⟨D2, hx, hxS⟩ := D.snoc e
      obtain ⟨i, hi, rfl, h0⟩ := key_at hx
      have hle := D.le
      have hkl := keysZ_len l
      refine Ev.step (f := fun k => (spec_prPlace.f k l (l.getD i 0)).bind fun t180 => (if 0 ≤ t180 then (if t180 < ((partOf l S).length : Int) then ((some ((partOf l S).set (t180 : Int).toNat (l.getD i 0) : List Int)).bind fun y182 => (if S.length < 17592186044416 then ((spec_prReady.f k l y182).bind fun t187 => (spec_prFirst.l0 k y182 (S ++ [l.getD i 0]) t187 l)) else (none))) else (none)) else (none))) (fun k => by
        rw [spec_prFirst.l0, if_pos (by simp), if_pos (by simp)]
        rfl) ?_
      refine Ev.bind (prPlace_ev l _ (by omega)) ?_
      rw [ix_here h hi h0]
      simp only [if_pos (show (0 : Int) ≤ (i : Int) by omega), if_pos (show (i : Int) < ((partOf l S).length : Int) by rw [part_len]; omega), Int.toNat_natCast, Option.bind_some, part_set h hi h0, if_pos (show S.length < 17592186044416 by omega)]
      refine Ev.bind (prReady_ev h D2.nonneg) ?_
      rw [rdy_filter h]
      exact ih _ D2 (by rw [List.length_append, List.length_singleton]; omega)
theorem prFirst_ev {l : List Int} (h : tblB l = true) : Ev (fun k => spec_prFirst.f k l) (fo l (keysZ l).length []) := by
  obtain ⟨h1, h2, h3, h4⟩ := tblB_parts h
  unfold spec_prFirst.f
  refine Ev.bind (t_prEmpty_ev l.length (by omega)) ?_
  rw [← part_nil l]
  refine Ev.bind (prReady_ev h (by simp)) ?_
  rw [rdy_filter h]
  exact prFirst_l0 h _ _ (Done.nil l) (by simp)
end Go.Proofs.Ythlkeledgmpbgaa.Pure
