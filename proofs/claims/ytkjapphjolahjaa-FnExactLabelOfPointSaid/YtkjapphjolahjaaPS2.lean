
/- Pure facts on printed functions: points and planes between them. -/

import Derived.Test.YtkjapphjolahjaaGx19

import Derived.Test.YtkjapphjolahjaaPA

import Derived.Test.YtkjapphjolahjaaGvI

namespace Go.Proofs.Ytkjapphjolahjaa.G

open Go.RowKit Go.Proofs.YtkjapphjolahjaaW.PrintWords Go.Proofs.YtkjapphjolahjaaW.PrintLast Go.Proofs.YtkjapphjolahjaaW.PrintMore

set_option linter.unusedVariables false

set_option linter.unusedSimpArgs false

theorem pointB_iff (l : List Int) : pointB l = true ↔ l.length ≤ 8 ∧ (l.all fun x => decide (-100000 ≤ x ∧ x ≤ 100000)) = true ∧ ∀ i j, i < j → j < l.length → onPlane (l.getD i 0) (l.getD j 0) = false := by
  unfold pointB
  simp only [Bool.and_eq_true, decide_eq_true_eq]
  constructor
  · rintro ⟨⟨h1, h2⟩, h3⟩
    refine ⟨h1, ?_, fun i j hij hj => ?_⟩
    · rw [List.all_eq_true] at h2 ⊢
      intro x hx; simpa using h2 x hx
    · rw [List.all_eq_true] at h3
      have := h3 j (by simpa using hj)
      unfold freeAt at this
      rw [List.all_eq_true] at this
      have := this (l.getD i 0) (by
        rw [List.mem_take_iff_getElem]
        refine ⟨i, by omega, ?_⟩
        rw [List.getD_eq_getElem?_getD, List.getElem?_eq_getElem (by omega)]; rfl)
      simpa using this
  · rintro ⟨h1, h2, h3⟩
    refine ⟨⟨h1, ?_⟩, ?_⟩
    · rw [List.all_eq_true] at h2 ⊢
      intro x hx; simpa using h2 x hx
    · rw [List.all_eq_true]
      intro j hj
      unfold freeAt
      rw [List.all_eq_true]
      intro a ha
      rw [List.mem_take_iff_getElem] at ha
      obtain ⟨i, hi, rfl⟩ := ha
      have := h3 i j (by omega) (by simpa using hj)
      rw [List.getD_eq_getElem?_getD (i := i), List.getElem?_eq_getElem (by omega)] at this
      simpa using this
theorem pointB_get {l : List Int} (h : pointB l = true) (j : Nat) : -100000 ≤ l.getD j 0 ∧ l.getD j 0 ≤ 100000 := by
  have h2 := ((pointB_iff l).1 h).2.1
  rw [List.all_eq_true] at h2
  rcases Nat.lt_or_ge j l.length with hj | hj
  · have := h2 (l.getD j 0) (by rw [List.getD_eq_getElem?_getD, List.getElem?_eq_getElem hj]; exact List.getElem_mem hj)
    simpa using this
  · rw [List.getD_eq_getElem?_getD, List.getElem?_eq_none hj]; simp
theorem pointB_false {l : List Int} {i j : Nat} (hij : i < j) (hj : j < l.length) (h : onPlane (l.getD i 0) (l.getD j 0) = true) : pointB l = false := by
  cases hp : pointB l with
  | false => rfl
  | true => rw [((pointB_iff l).1 hp).2.2 i j hij hj] at h; cases h
theorem onPlane_same {a b : Int} (h : a = b) : onPlane a b = true := by subst h; simp [onPlane]
theorem onPlane_up {a b : Int} (h : a = b + 100) : onPlane a b = true := by subst h; simp [onPlane]
theorem rePoint_loops (l : List Int) (h8 : l.length ≤ 8) (hb : (l.all fun x => decide (-100000 ≤ x ∧ x ≤ 100000)) = true) :
    ∀ (d i : Nat), i + d = l.length → (∀ a b, a < i → a < b → b < l.length → onPlane (l.getD a 0) (l.getD b 0) = false) → Ev (fun k => spec_rePoint.l0 k l (l.length : Int) i) (pointB l) := by
  have hg : ∀ j, -100000 ≤ l.getD j 0 ∧ l.getD j 0 ≤ 100000 := by
    intro j
    rw [List.all_eq_true] at hb
    rcases Nat.lt_or_ge j l.length with hj | hj
    · have := hb (l.getD j 0) (by rw [List.getD_eq_getElem?_getD, List.getElem?_eq_getElem hj]; exact List.getElem_mem hj)
      simpa using this
    · rw [List.getD_eq_getElem?_getD, List.getElem?_eq_none hj]; simp
  intro d
  induction d with
  | zero =>
    intro i hd ha
    refine Ev.end_ fun k => ?_
    rw [spec_rePoint.l0, if_neg (by omega)]
    congr 1
    symm
    rw [pointB_iff]
    exact ⟨h8, hb, fun i' j h1 h2 => ha i' j (by omega) h1 h2⟩
  | succ d ih =>
    intro i hd ha
    refine Ev.step (f := fun k => spec_rePoint.l1 k l (i : Int) ((i + 1 : Nat) : Int) (l.length : Int) (i : Int)) (fun k => by rw [spec_rePoint.l0, if_pos (by omega), wrap_next (n := l.length) (by omega) (by omega)]) ?_
    have inner : ∀ (e j : Nat), j + e = l.length → i < j → (∀ b, i < b → b < j → onPlane (l.getD i 0) (l.getD b 0) = false) → Ev (fun k => spec_rePoint.l1 k l (i : Int) (j : Int) (l.length : Int) (i : Int)) (pointB l) := by
      intro e
      induction e with
      | zero =>
        intro j hj hij hb2
        refine Ev.step (f := fun k => spec_rePoint.l0 k l (l.length : Int) ((i + 1 : Nat) : Int)) (fun k => by rw [spec_rePoint.l1, if_neg (by omega), wrap_next (n := l.length) (by omega) (by omega)]) ?_
        refine ih (i + 1) (by omega) (fun a b h1 h2 h3 => ?_)
        rcases Nat.lt_or_ge a i with h4 | h4
        · exact ha a b h4 h2 h3
        · have : a = i := by omega
          subst this
          exact hb2 b h2 (by omega)
      | succ e ihe =>
        intro j hj hij hb2
        have g1 := hg i
        have g2 := hg j
        by_cases c1 : l.getD i 0 = l.getD j 0
        · refine Ev.end_ fun k => ?_
          rw [spec_rePoint.l1, if_pos (by omega), if_pos (by omega), if_pos (by omega), if_pos (by omega), rd_nat, rd_nat, if_pos c1, pointB_false hij (by omega) (onPlane_same c1)]
        · by_cases c2 : l.getD i 0 - l.getD j 0 = 100
          · refine Ev.end_ fun k => ?_
            rw [spec_rePoint.l1, if_pos (by omega), if_pos (by omega), if_pos (by omega), if_pos (by omega), rd_nat, rd_nat, if_neg c1, wrap_id (by omega) (by omega), if_pos c2, pointB_false hij (by omega) (onPlane_up (by omega))]
          · refine Ev.one (ihe (j + 1) (by omega) (by omega) (fun b h1 h2 => ?_)) fun k => ?_
            · rcases Nat.lt_or_ge b j with h3 | h3
              · exact hb2 b h1 h3
              · have : b = j := by omega
                subst this
                have c3 : ¬ l.getD i 0 = l.getD b 0 + 100 := by omega
                simp only [onPlane, c1, c3, decide_false, Bool.or_self]
            · rw [spec_rePoint.l1, if_pos (by omega), if_pos (by omega), if_pos (by omega), if_pos (by omega), rd_nat, rd_nat, if_neg c1, wrap_id (by omega) (by omega), if_neg c2, wrap_next (n := l.length) (by omega) (by omega)]
    exact inner d (i + 1) (by omega) (by omega) (fun b h1 h2 => by omega)
theorem rePoint_ev (l : List Int) (hn : l.length ≤ 4611686018427387904) : Ev (fun k => spec_rePoint.f k l) (pointB l) := by
  unfold spec_rePoint.f
  by_cases h8 : l.length ≤ 8
  · simp only [show ¬ ((l.length : Int) > 8) from by omega, if_false]
    refine Ev.bind (l1All_ev l _ _ hn) ?_
    cases hb : (l.all fun x => decide (-100000 ≤ x ∧ x ≤ 100000)) with
    | true =>
      refine Ev.step (f := fun k => spec_rePoint.l0 k l (l.length : Int) 0) (fun k => by rw [spec_rePoint.j0, if_neg (by simp)]) ?_
      exact rePoint_loops l h8 hb l.length 0 (by omega) (fun a b h => absurd h (Nat.not_lt_zero _))
    | false =>
      have : pointB l = false := by
        cases hp : pointB l with
        | false => rfl
        | true => rw [((pointB_iff l).1 hp).2.1] at hb; cases hb
      rw [this]
      exact Ev.end_ fun k => by rw [spec_rePoint.j0, if_pos (by simp)]
  · simp only [show ((l.length : Int) > 8) from by omega, if_true]
    have : pointB l = false := by
      cases hp : pointB l with
      | false => rfl
      | true => exact absurd ((pointB_iff l).1 hp).1 h8
    rw [this]
    exact Ev.end_ fun k => by rw [spec_rePoint.j0, if_pos rfl]

/-! ### Planes between two points -/

def side2 (x y : List Int) (i j : Nat) (u : Int) : Int := if (decide (x.getD i 0 - x.getD j 0 > u) != decide (y.getD i 0 - y.getD j 0 > u)) = true then 1 else 0
def dif (x y : List Int) (i j : Nat) : Int := side2 x y i j 0 + side2 x y i j 100
theorem side2_range (x y : List Int) (i j : Nat) (u : Int) : 0 ≤ side2 x y i j u ∧ side2 x y i j u ≤ 1 := by unfold side2; split <;> omega
def sumTo (f : Nat → Int) : Nat → Int
  | 0 => 0
  | n + 1 => sumTo f n + f n
theorem sumTo_range (f : Nat → Int) (B : Int) (h : ∀ i, 0 ≤ f i ∧ f i ≤ B) : ∀ n, 0 ≤ sumTo f n ∧ sumTo f n ≤ n * B
  | 0 => by simp [sumTo]
  | n + 1 => by
    have := sumTo_range f B h n
    have := h n
    simp only [sumTo]
    push_cast
    rw [Int.add_mul]; omega
theorem sumTo_add (f g : Nat → Int) : ∀ n, sumTo (fun i => f i + g i) n = sumTo f n + sumTo g n
  | 0 => rfl
  | n + 1 => by simp only [sumTo, sumTo_add f g n]; omega
theorem sumTo_congr {f g : Nat → Int} : ∀ n, (∀ i, i < n → f i = g i) → sumTo f n = sumTo g n
  | 0, _ => rfl
  | n + 1, h => by simp only [sumTo]; rw [sumTo_congr n (fun i hi => h i (by omega)), h n (by omega)]
/-- The sum over all pairs, by the later one. -/
def pairs (d : Nat → Nat → Int) (n : Nat) : Int := sumTo (fun j => sumTo (fun i => d i j) j) n
/-- The sum over all pairs, by the earlier one. -/
def pairs' (d : Nat → Nat → Int) (n : Nat) : Int := sumTo (fun i => sumTo (fun q => d i (i + 1 + q)) (n - (i + 1))) n
theorem pairs_eq (d : Nat → Nat → Int) : ∀ n, pairs' d n = pairs d n
  | 0 => rfl
  | n + 1 => by
    have ih := pairs_eq d n
    unfold pairs' pairs at *
    simp only [sumTo]
    rw [← ih, Nat.sub_self]
    simp only [sumTo, Int.add_zero]
    rw [← sumTo_add]
    apply sumTo_congr
    intro i hi
    rw [show n + 1 - (i + 1) = (n - (i + 1)) + 1 by omega, sumTo, show i + 1 + (n - (i + 1)) = n by omega]
def planesV (x y : List Int) : Int × Bool := if pointB x = true ∧ pointB y = true ∧ x.length = y.length then (pairs (dif x y) x.length, true) else (0, false)
end Go.Proofs.Ytkjapphjolahjaa.G
