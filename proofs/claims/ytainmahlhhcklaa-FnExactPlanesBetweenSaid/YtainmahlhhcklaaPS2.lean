/- Pure facts on printed functions: points and planes between them. -/
import Derived.Test.YtainmahlhhcklaaGx4
import Derived.Test.YtainmahlhhcklaaGx5
import Derived.Test.YtainmahlhhcklaaGx6
import Derived.Test.YtainmahlhhcklaaPA
import Derived.Test.YtainmahlhhcklaaGvI
namespace Go.Proofs.Ytainmahlhhcklaa.G
open Go.RowKit Go.Proofs.YtainmahlhhcklaaW.PrintWords Go.Proofs.YtainmahlhhcklaaW.PrintLast Go.Proofs.YtainmahlhhcklaaW.PrintMore
set_option linter.unusedVariables false
set_option linter.unusedSimpArgs false

theorem pointB_iff (l : List Int) : pointB l = true ↔ l.length ≤ 8 ∧ (l.all fun x => decide (-100000 ≤ x ∧ x ≤ 100000)) = true ∧ ∀ i j, i < j → j < l.length → onPlane (l.getD i 0) (l.getD j 0) = false := by
  unfold pointB
  simp only [Bool.and_eq_true, decide_eq_true_eq]
  constructor
  · rintro ⟨⟨h1, h2⟩, h3⟩
    refine ⟨h1, ?_, fun i j hij hj => ?_⟩
    · rw [List.all_eq_true] at h2 ⊢
      intro x hx; simpa using h2 x hx
    · rw [List.all_eq_true] at h3
      have := h3 j (by simpa using hj)
      unfold freeAt at this
      rw [List.all_eq_true] at this
      have := this (l.getD i 0) (by
        rw [List.mem_take_iff_getElem]
        refine ⟨i, by omega, ?_⟩
        rw [List.getD_eq_getElem?_getD, List.getElem?_eq_getElem (by omega)]; rfl)
      simpa using this
  · rintro ⟨h1, h2, h3⟩
    refine ⟨⟨h1, ?_⟩, ?_⟩
    · rw [List.all_eq_true] at h2 ⊢
      intro x hx; simpa using h2 x hx
    · rw [List.all_eq_true]
      intro j hj
      unfold freeAt
      rw [List.all_eq_true]
      intro a ha
      rw [List.mem_take_iff_getElem] at ha
      obtain ⟨i, hi, rfl⟩ := ha
      have := h3 i j (by omega) (by simpa using hj)
      rw [List.getD_eq_getElem?_getD (i := i), List.getElem?_eq_getElem (by omega)] at this
      simpa using this
theorem pointB_get {l : List Int} (h : pointB l = true) (j : Nat) : -100000 ≤ l.getD j 0 ∧ l.getD j 0 ≤ 100000 := by
  have h2 := ((pointB_iff l).1 h).2.1
  rw [List.all_eq_true] at h2
  rcases Nat.lt_or_ge j l.length with hj | hj
  · have := h2 (l.getD j 0) (by rw [List.getD_eq_getElem?_getD, List.getElem?_eq_getElem hj]; exact List.getElem_mem hj)
    simpa using this
  · rw [List.getD_eq_getElem?_getD, List.getElem?_eq_none hj]; simp
theorem pointB_false {l : List Int} {i j : Nat} (hij : i < j) (hj : j < l.length) (h : onPlane (l.getD i 0) (l.getD j 0) = true) : pointB l = false := by
  cases hp : pointB l with
  | false => rfl
  | true => rw [((pointB_iff l).1 hp).2.2 i j hij hj] at h; cases h
theorem onPlane_same {a b : Int} (h : a = b) : onPlane a b = true := by subst h; simp [onPlane]
theorem onPlane_up {a b : Int} (h : a = b + 100) : onPlane a b = true := by subst h; simp [onPlane]
theorem rePoint_loops (l : List Int) (h8 : l.length ≤ 8) (hb : (l.all fun x => decide (-100000 ≤ x ∧ x ≤ 100000)) = true) :
    ∀ (d i : Nat), i + d = l.length → (∀ a b, a < i → a < b → b < l.length → onPlane (l.getD a 0) (l.getD b 0) = false) → Ev (fun k => spec_rePoint.l0 k l (l.length : Int) i) (pointB l) := by
  have hg : ∀ j, -100000 ≤ l.getD j 0 ∧ l.getD j 0 ≤ 100000 := by
    intro j
    rw [List.all_eq_true] at hb
    rcases Nat.lt_or_ge j l.length with hj | hj
    · have := hb (l.getD j 0) (by rw [List.getD_eq_getElem?_getD, List.getElem?_eq_getElem hj]; exact List.getElem_mem hj)
      simpa using this
    · rw [List.getD_eq_getElem?_getD, List.getElem?_eq_none hj]; simp
  intro d
  induction d with
  | zero =>
    intro i hd ha
    refine Ev.end_ fun k => ?_
    rw [spec_rePoint.l0, if_neg (by omega)]
    congr 1
    symm
    rw [pointB_iff]
    exact ⟨h8, hb, fun i' j h1 h2 => ha i' j (by omega) h1 h2⟩
  | succ d ih =>
    intro i hd ha
    refine Ev.step (f := fun k => spec_rePoint.l1 k l (i : Int) ((i + 1 : Nat) : Int) (l.length : Int) (i : Int)) (fun k => by rw [spec_rePoint.l0, if_pos (by omega), wrap_next (n := l.length) (by omega) (by omega)]) ?_
    have inner : ∀ (e j : Nat), j + e = l.length → i < j → (∀ b, i < b → b < j → onPlane (l.getD i 0) (l.getD b 0) = false) → Ev (fun k => spec_rePoint.l1 k l (i : Int) (j : Int) (l.length : Int) (i : Int)) (pointB l) := by
      intro e
      induction e with
      | zero =>
        intro j hj hij hb2
        refine Ev.step (f := fun k => spec_rePoint.l0 k l (l.length : Int) ((i + 1 : Nat) : Int)) (fun k => by rw [spec_rePoint.l1, if_neg (by omega), wrap_next (n := l.length) (by omega) (by omega)]) ?_
        refine ih (i + 1) (by omega) (fun a b h1 h2 h3 => ?_)
        rcases Nat.lt_or_ge a i with h4 | h4
        · exact ha a b h4 h2 h3
        · have : a = i := by omega
          subst this
          exact hb2 b h2 (by omega)
      | succ e ihe =>
        intro j hj hij hb2
        have g1 := hg i
        have g2 := hg j
        by_cases c1 : l.getD i 0 = l.getD j 0
        · refine Ev.end_ fun k => ?_
          rw [spec_rePoint.l1, if_pos (by omega), if_pos (by omega), if_pos (by omega), if_pos (by omega), rd_nat, rd_nat, if_pos c1, pointB_false hij (by omega) (onPlane_same c1)]
        · by_cases c2 : l.getD i 0 - l.getD j 0 = 100
          · refine Ev.end_ fun k => ?_
            rw [spec_rePoint.l1, if_pos (by omega), if_pos (by omega), if_pos (by omega), if_pos (by omega), rd_nat, rd_nat, if_neg c1, wrap_id (by omega) (by omega), if_pos c2, pointB_false hij (by omega) (onPlane_up (by omega))]
          · refine Ev.one (ihe (j + 1) (by omega) (by omega) (fun b h1 h2 => ?_)) fun k => ?_
            · rcases Nat.lt_or_ge b j with h3 | h3
              · exact hb2 b h1 h3
              · have : b = j := by omega
                subst this
                have c3 : ¬ l.getD i 0 = l.getD b 0 + 100 := by omega
                simp only [onPlane, c1, c3, decide_false, Bool.or_self]
            · rw [spec_rePoint.l1, if_pos (by omega), if_pos (by omega), if_pos (by omega), if_pos (by omega), rd_nat, rd_nat, if_neg c1, wrap_id (by omega) (by omega), if_neg c2, wrap_next (n := l.length) (by omega) (by omega)]
    exact inner d (i + 1) (by omega) (by omega) (fun b h1 h2 => by omega)
theorem rePoint_ev (l : List Int) (hn : l.length ≤ 4611686018427387904) : Ev (fun k => spec_rePoint.f k l) (pointB l) := by
  unfold spec_rePoint.f
  by_cases h8 : l.length ≤ 8
  · simp only [show ¬ ((l.length : Int) > 8) from by omega, if_false]
    refine Ev.bind (l1All_ev l _ _ hn) ?_
    cases hb : (l.all fun x => decide (-100000 ≤ x ∧ x ≤ 100000)) with
    | true =>
      refine Ev.step (f := fun k => spec_rePoint.l0 k l (l.length : Int) 0) (fun k => by rw [spec_rePoint.j0, if_neg (by simp)]) ?_
      exact rePoint_loops l h8 hb l.length 0 (by omega) (fun a b h => absurd h (Nat.not_lt_zero _))
    | false =>
      have : pointB l = false := by
        cases hp : pointB l with
        | false => rfl
        | true => rw [((pointB_iff l).1 hp).2.1] at hb; cases hb
      rw [this]
      exact Ev.end_ fun k => by rw [spec_rePoint.j0, if_pos (by simp)]
  · simp only [show ((l.length : Int) > 8) from by omega, if_true]
    have : pointB l = false := by
      cases hp : pointB l with
      | false => rfl
      | true => exact absurd ((pointB_iff l).1 hp).1 h8
    rw [this]
    exact Ev.end_ fun k => by rw [spec_rePoint.j0, if_pos rfl]

/-! ### Planes between two points -/
def side2 (x y : List Int) (i j : Nat) (u : Int) : Int := if (decide (x.getD i 0 - x.getD j 0 > u) != decide (y.getD i 0 - y.getD j 0 > u)) = true then 1 else 0
def dif (x y : List Int) (i j : Nat) : Int := side2 x y i j 0 + side2 x y i j 100
theorem side2_range (x y : List Int) (i j : Nat) (u : Int) : 0 ≤ side2 x y i j u ∧ side2 x y i j u ≤ 1 := by unfold side2; split <;> omega
def sumTo (f : Nat → Int) : Nat → Int
  | 0 => 0
  | n + 1 => sumTo f n + f n
theorem sumTo_range (f : Nat → Int) (B : Int) (h : ∀ i, 0 ≤ f i ∧ f i ≤ B) : ∀ n, 0 ≤ sumTo f n ∧ sumTo f n ≤ n * B
  | 0 => by simp [sumTo]
  | n + 1 => by
    have := sumTo_range f B h n
    have := h n
    simp only [sumTo]
    push_cast
    rw [Int.add_mul]; omega
theorem sumTo_add (f g : Nat → Int) : ∀ n, sumTo (fun i => f i + g i) n = sumTo f n + sumTo g n
  | 0 => rfl
  | n + 1 => by simp only [sumTo, sumTo_add f g n]; omega
theorem sumTo_congr {f g : Nat → Int} : ∀ n, (∀ i, i < n → f i = g i) → sumTo f n = sumTo g n
  | 0, _ => rfl
  | n + 1, h => by simp only [sumTo]; rw [sumTo_congr n (fun i hi => h i (by omega)), h n (by omega)]
/-- The sum over all pairs, by the later one. -/
def pairs (d : Nat → Nat → Int) (n : Nat) : Int := sumTo (fun j => sumTo (fun i => d i j) j) n
/-- The sum over all pairs, by the earlier one. -/
def pairs' (d : Nat → Nat → Int) (n : Nat) : Int := sumTo (fun i => sumTo (fun q => d i (i + 1 + q)) (n - (i + 1))) n
theorem pairs_eq (d : Nat → Nat → Int) : ∀ n, pairs' d n = pairs d n
  | 0 => rfl
  | n + 1 => by
    have ih := pairs_eq d n
    unfold pairs' pairs at *
    simp only [sumTo]
    rw [← ih, Nat.sub_self]
    simp only [sumTo, Int.add_zero]
    rw [← sumTo_add]
    apply sumTo_congr
    intro i hi
    rw [show n + 1 - (i + 1) = (n - (i + 1)) + 1 by omega, sumTo, show i + 1 + (n - (i + 1)) = n by omega]
theorem spec_planes (x y : List Int) (hx : pointB x = true) (hy : pointB y = true) (hl : x.length = y.length) :
    ∀ (d i : Nat) (m : Int), i + d = x.length → 0 ≤ m → m ≤ i * 100 → Ev (fun k => spec_PlanesBetween.l0 k x y m (x.length : Int) i) (m + sumTo (fun a => sumTo (fun q => dif x y (i + a) (i + a + 1 + q)) (x.length - (i + a + 1))) d, true) := by
  have h8 := ((pointB_iff x).1 hx).1
  intro d
  induction d with
  | zero =>
    intro i m hd h0 hm
    refine Ev.end_ fun k => ?_
    rw [spec_PlanesBetween.l0, if_neg (by omega)]
    simp [sumTo]
  | succ d ih =>
    intro i m hd h0 hm
    refine Ev.step (f := fun k => spec_PlanesBetween.l1 k x y m (i : Int) ((i + 1 : Nat) : Int) (x.length : Int) (i : Int)) (fun k => by rw [spec_PlanesBetween.l0, if_pos (by omega), wrap_next (n := x.length) (by omega) (by omega)]) ?_
    have inner : ∀ (e j : Nat) (c : Int), j + e = x.length → i < j → 0 ≤ c → c ≤ i * 100 + j * 2 → Ev (fun k => spec_PlanesBetween.l1 k x y c (i : Int) (j : Int) (x.length : Int) (i : Int)) (c + sumTo (fun q => dif x y i (j + q)) e + sumTo (fun a => sumTo (fun q => dif x y (i + 1 + a) (i + 1 + a + 1 + q)) (x.length - (i + 1 + a + 1))) d, true) := by
      intro e
      induction e with
      | zero =>
        intro j c hj hij hc0 hc
        refine Ev.step (f := fun k => spec_PlanesBetween.l0 k x y c (x.length : Int) ((i + 1 : Nat) : Int)) (fun k => by rw [spec_PlanesBetween.l1, if_neg (by omega), wrap_next (n := x.length) (by omega) (by omega)]) ?_
        have := ih (i + 1) c (by omega) hc0 (by push_cast; omega)
        simpa [sumTo] using this
      | succ e ihe =>
        intro j c hj hij hc0 hc
        have gx1 := pointB_get hx i
        have gx2 := pointB_get hx j
        have gy1 := pointB_get hy i
        have gy2 := pointB_get hy j
        have s0 := side2_range x y i j 0
        have s1 := side2_range x y i j 100
        have round : ∀ (c' u : Int) (q : Nat), 0 ≤ c' → c' ≤ 10000 → (([0, 100] : List Int).getD q 0 = u) → q < 2 → ∀ k, spec_PlanesBetween.l2 (k + 1) x y c' (i : Int) (j : Int) (x.length : Int) (i : Int) [0, 100] 2 (q : Int) = spec_PlanesBetween.l2 k x y (c' + side2 x y i j u) (i : Int) (j : Int) (x.length : Int) (i : Int) [0, 100] 2 ((q + 1 : Nat) : Int) := by
          intro c' u q h1 h2 h3 hq k
          rw [spec_PlanesBetween.l2, if_pos (by omega), if_pos (by omega), if_pos (by simp; omega), if_pos (by omega), if_pos (by omega), if_pos (by omega), if_pos (by omega), if_pos (by omega), if_pos (by omega)]
          rw [rd_nat, rd_nat, rd_nat, rd_nat, rd_nat, h3, wrap_id (by omega) (by omega), wrap_id (by omega) (by omega), wrap_id (x := c' + 1) (by omega) (by omega), wrap_next (n := 2) hq (by omega)]
          unfold side2
          split
          · rfl
          · rw [Int.add_zero]
        have hend : ∀ (c' : Int) k, spec_PlanesBetween.l2 (k + 1) x y c' (i : Int) (j : Int) (x.length : Int) (i : Int) [0, 100] 2 2 = spec_PlanesBetween.l1 k x y c' (i : Int) ((j + 1 : Nat) : Int) (x.length : Int) (i : Int) := by
          intro c' k
          rw [spec_PlanesBetween.l2, if_neg (by omega), wrap_next (n := x.length) (by omega) (by omega)]
        refine Ev.step (f := fun k => spec_PlanesBetween.l2 k x y c (i : Int) (j : Int) (x.length : Int) (i : Int) [0, 100] 2 0) (fun k => by rw [spec_PlanesBetween.l1, if_pos (by omega)]; rfl) ?_
        refine Ev.step (fun k => round c 0 0 hc0 (by omega) rfl (by omega) k) ?_
        refine Ev.step (fun k => round (c + side2 x y i j 0) 100 1 (by omega) (by omega) rfl (by omega) k) ?_
        refine Ev.step (fun k => hend _ k) ?_
        have := ihe (j + 1) (c + side2 x y i j 0 + side2 x y i j 100) (by omega) (by omega) (by omega) (by push_cast; omega)
        have e1 : c + side2 x y i j 0 + side2 x y i j 100 + sumTo (fun q => dif x y i (j + 1 + q)) e = c + sumTo (fun q => dif x y i (j + q)) (e + 1) := by
          have sh : ∀ n, sumTo (fun q => dif x y i (j + q)) (n + 1) = dif x y i j + sumTo (fun q => dif x y i (j + 1 + q)) n := by
            intro n
            induction n with
            | zero => simp [sumTo]
            | succ n ihn => rw [sumTo, ihn, sumTo, show j + (n + 1) = j + 1 + n by omega]; omega
          rw [sh, dif]; omega
        rw [e1] at this
        exact this
    have := inner d (i + 1) m (by omega) (by omega) h0 (by push_cast; omega)
    have e2 : m + sumTo (fun q => dif x y i (i + 1 + q)) d + sumTo (fun a => sumTo (fun q => dif x y (i + 1 + a) (i + 1 + a + 1 + q)) (x.length - (i + 1 + a + 1))) d = m + sumTo (fun a => sumTo (fun q => dif x y (i + a) (i + a + 1 + q)) (x.length - (i + a + 1))) (d + 1) := by
      have sh : ∀ (F : Nat → Int) n, sumTo F (n + 1) = F 0 + sumTo (fun a => F (1 + a)) n := by
        intro F n
        induction n with
        | zero => simp [sumTo]
        | succ n ihn => rw [sumTo, ihn, sumTo, show n + 1 = 1 + n by omega]; omega
      rw [sh]
      simp only [Nat.add_zero, ← Nat.add_assoc]
      rw [show x.length - (i + 1) = d by omega]; omega
    rw [e2] at this
    exact this
def planesV (x y : List Int) : Int × Bool := if pointB x = true ∧ pointB y = true ∧ x.length = y.length then (pairs (dif x y) x.length, true) else (0, false)
theorem spec_Planes_ev (x y : List Int) (hx : x.length ≤ 4611686018427387904) (hy : y.length ≤ 4611686018427387904) : Ev (fun k => spec_PlanesBetween.f k x y) (planesV x y) := by
  unfold spec_PlanesBetween.f planesV
  have jt : Ev (fun k => spec_PlanesBetween.j0 k x y true) (0, false) := Ev.end_ fun k => by rw [spec_PlanesBetween.j0, if_pos rfl]
  refine Ev.bind (rePoint_ev x hx) ?_
  by_cases h1 : pointB x = true
  · simp only [h1, if_true, true_and]
    refine Ev.bind (rePoint_ev y hy) ?_
    by_cases h2 : pointB y = true
    · simp only [h2, if_true, true_and]
      by_cases h3 : x.length = y.length
      · rw [if_pos h3]
        refine Ev.step (f := fun k => spec_PlanesBetween.l0 k x y 0 (x.length : Int) 0) (fun k => by rw [spec_PlanesBetween.j0, if_neg (by simp [h3])]) ?_
        have := spec_planes x y h1 h2 h3 x.length 0 0 (by omega) (by omega) (by omega)
        simp only [Nat.zero_add, Int.zero_add] at this
        rw [← pairs_eq]
        exact this
      · rw [if_neg h3]
        have : (((x.length : Int) != (y.length : Int)) = true) := by simp; omega
        simp only [this]; exact jt
    · simp only [h2, if_false, false_and]; exact jt
  · simp only [h1, if_false, false_and]; exact jt
theorem impl_planes (x y : List Int) (hx : pointB x = true) (hy : pointB y = true) (hl : x.length = y.length) :
    ∀ (d j : Nat) (m : Int), j + d = x.length → m = pairs (dif x y) j → 0 ≤ m → m ≤ j * 100 → Ev (fun k => impl_PlanesBetween.l0 k x y m (x.length : Int) j) (pairs (dif x y) x.length, true) := by
  have h8 := ((pointB_iff x).1 hx).1
  intro d
  induction d with
  | zero =>
    intro j m hd he h0 hm
    refine Ev.end_ fun k => ?_
    rw [impl_PlanesBetween.l0, if_neg (by omega), he, show j = x.length by omega]
  | succ d ih =>
    intro j m hd he h0 hm
    refine Ev.step (f := fun k => impl_PlanesBetween.l1 k x y m (j : Int) (x.length : Int) (j : Int) (j : Int) 0) (fun k => by rw [impl_PlanesBetween.l0, if_pos (by omega)]) ?_
    have inner : ∀ (e i : Nat) (c : Int), i + e = j → c = m + sumTo (fun a => dif x y a j) i → 0 ≤ c → c ≤ j * 100 + i * 2 → Ev (fun k => impl_PlanesBetween.l1 k x y c (j : Int) (x.length : Int) (j : Int) (j : Int) (i : Int)) (pairs (dif x y) x.length, true) := by
      intro e
      induction e with
      | zero =>
        intro i c hi hc hc0 hc1
        obtain rfl : i = j := by omega
        refine Ev.step (f := fun k => impl_PlanesBetween.l0 k x y c (x.length : Int) ((i + 1 : Nat) : Int)) (fun k => by rw [impl_PlanesBetween.l1, if_neg (by omega), wrap_next (n := x.length) (by omega) (by omega)]) ?_
        exact ih (i + 1) c (by omega) (by rw [hc, he]; rfl) hc0 (by push_cast; omega)
      | succ e ihe =>
        intro i c hi hc hc0 hc1
        have gx1 := pointB_get hx i
        have gx2 := pointB_get hx j
        have gy1 := pointB_get hy i
        have gy2 := pointB_get hy j
        have s0 := side2_range x y i j 0
        have s1 := side2_range x y i j 100
        have round : ∀ (c' u : Int) (q : Nat), 0 ≤ c' → c' ≤ 10000 → (([0, 100] : List Int).getD q 0 = u) → q < 2 → ∀ k, impl_PlanesBetween.l2 (k + 1) x y c' (j : Int) (i : Int) (x.length : Int) (j : Int) (j : Int) (i : Int) [0, 100] 2 (q : Int) = impl_PlanesBetween.l2 k x y (c' + side2 x y i j u) (j : Int) (i : Int) (x.length : Int) (j : Int) (j : Int) (i : Int) [0, 100] 2 ((q + 1 : Nat) : Int) := by
          intro c' u q h1 h2 h3 hq k
          rw [impl_PlanesBetween.l2, if_pos (by omega), if_pos (by omega), if_pos (by simp; omega), if_pos (by omega), if_pos (by omega), if_pos (by omega), if_pos (by omega), if_pos (by omega), if_pos (by omega)]
          rw [rd_nat, rd_nat, rd_nat, rd_nat, rd_nat, h3, wrap_id (by omega) (by omega), wrap_id (by omega) (by omega), wrap_id (x := c' + 1) (by omega) (by omega), wrap_next (n := 2) hq (by omega)]
          unfold side2
          split
          · rfl
          · rw [Int.add_zero]
        have hend : ∀ (c' : Int) k, impl_PlanesBetween.l2 (k + 1) x y c' (j : Int) (i : Int) (x.length : Int) (j : Int) (j : Int) (i : Int) [0, 100] 2 2 = impl_PlanesBetween.l1 k x y c' (j : Int) (x.length : Int) (j : Int) (j : Int) ((i + 1 : Nat) : Int) := by
          intro c' k
          rw [impl_PlanesBetween.l2, if_neg (by omega), wrap_next (n := x.length) (by omega) (by omega)]
        refine Ev.step (f := fun k => impl_PlanesBetween.l2 k x y c (j : Int) (i : Int) (x.length : Int) (j : Int) (j : Int) (i : Int) [0, 100] 2 0) (fun k => by rw [impl_PlanesBetween.l1, if_pos (by omega)]; rfl) ?_
        refine Ev.step (fun k => round c 0 0 hc0 (by omega) rfl (by omega) k) ?_
        refine Ev.step (fun k => round (c + side2 x y i j 0) 100 1 (by omega) (by omega) rfl (by omega) k) ?_
        refine Ev.step (fun k => hend _ k) ?_
        exact ihe (i + 1) (c + side2 x y i j 0 + side2 x y i j 100) (by omega) (by rw [hc, sumTo, dif]; omega) (by omega) (by push_cast; omega)
    exact inner j 0 m (by omega) (by simp [sumTo]) h0 (by omega)
theorem impl_Planes_ev (x y : List Int) : Ev (fun k => impl_PlanesBetween.f k x y) (planesV x y) := by
  unfold impl_PlanesBetween.f planesV impl_isPoint.f
  simp only [Option.bind_some]
  have jt : Ev (fun k => impl_PlanesBetween.j0 k x y true) (0, false) := Ev.end_ fun k => by rw [impl_PlanesBetween.j0, if_pos rfl]
  by_cases h1 : pointB x = true
  · simp only [h1, if_true, true_and]
    by_cases h2 : pointB y = true
    · simp only [h2, if_true, true_and]
      by_cases h3 : x.length = y.length
      · rw [if_pos h3]
        refine Ev.step (f := fun k => impl_PlanesBetween.l0 k x y 0 (x.length : Int) 0) (fun k => by rw [impl_PlanesBetween.j0, if_neg (by simp [h3])]) ?_
        exact impl_planes x y h1 h2 h3 x.length 0 0 (by omega) rfl (by omega) (by omega)
      · rw [if_neg h3]
        have : (((x.length : Int) != (y.length : Int)) = true) := by simp; omega
        simp only [this]; exact jt
    · simp only [h2, if_false, false_and]; exact jt
  · simp only [h1, if_false, false_and]; exact jt
end Go.Proofs.Ytainmahlhhcklaa.G
