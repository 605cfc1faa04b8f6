/- The law FnLongCounts: part 2 of the printed functions and the facts on them that its row leans on (merged by this session's slim.py). -/
import Derived.Test.YtfclfjengfmjaaaZFnLongCounts1
namespace Go.Proofs.Ytfclfjengfmjaaa.G
open Go.RowKit Go.Proofs.YtfclfjengfmjaaaW.PrintWords Go.Proofs.YtfclfjengfmjaaaW.PrintLast Go.Proofs.YtfclfjengfmjaaaW.PrintMore
set_option linter.unusedVariables false
set_option linter.unusedSimpArgs false
theorem lengths_ok {l : List Int} (hb : Bytes l) (p s : Int) (a : Int) (ha : 0 ≤ a ∧ a ≤ 8) (h0 : 0 ≤ p) (h1 : p ≤ 10000000000000) : ∃ out p' s', Ev (fun k => spec_l1Cur_lengths.f k l p s a) (out, p', s') ∧ out.length ≤ 9 ∧ p ≤ p' ∧ p' ≤ p + 60 := by
  obtain ⟨r, p1, s1, e1, b1, b2, b3, b4⟩ := pick_ok hb p s (a + 1) h0 (by omega)
  obtain ⟨out, p', s', he, ho, hp1, hp2⟩ := lengths_l0 hb r.toNat [] 12 p1 s1 (by simp; omega) (by omega) (by omega) (by omega) (by omega)
  refine ⟨out, p', s', ?_, by simp at ho; omega, by omega, by omega⟩
  unfold spec_l1Cur_lengths.f
  simp only [wrap_id (x := a + 1) (by omega) (by omega), e1, Option.bind_some]
  rw [show (r.toNat : Int) = r by omega] at he
  exact he
def isP (l w : List Int) : Bool × Bool := if taskB l w = true then (decide ((longs l w).length = l.length), true) else (false, false)
theorem beq_len (a b : Nat) : ((a : Int) == (b : Int)) = decide (a = b) := by
  rw [Bool.eq_iff_iff]; simp; omega
theorem impl_IsLong_ev (l w : List Int) : Ev (fun k => impl_IsLongParking.f k l w) (isP l w) := by
  unfold impl_IsLongParking.f isP
  refine Ev.bind (areLong_ev l w) ?_
  cases h : taskB l w with
  | true => simp only [if_true]; refine Ev.bind (driveLong_ev h) ?_; rw [beq_len]; exact Ev.now _
  | false => simp only [Bool.false_eq_true, if_false]; exact Ev.now _
end Go.Proofs.Ytfclfjengfmjaaa.G
namespace Go.Proofs.Ytfclfjengfmjaaa.G
set_option linter.unusedVariables false
set_option linter.unusedSimpArgs false
/-- f 0 + .. + f (m - 1) -/
def sumTo (f : Nat → Nat) : Nat → Nat
  | 0 => 0
  | m + 1 => sumTo f m + f m
theorem sumTo_congr {f g : Nat → Nat} : ∀ (m : Nat), (∀ k, k < m → f k = g k) → sumTo f m = sumTo g m
  | 0, _ => rfl
  | m + 1, h => by rw [sumTo, sumTo, sumTo_congr m (fun k hk => h k (by omega)), h m (by omega)]
theorem sumTo_zero : ∀ (m : Nat), sumTo (fun _ => 0) m = 0
  | 0 => rfl
  | m + 1 => by rw [sumTo, sumTo_zero m]
theorem sumTo_two (f g : Nat → Nat) : ∀ (m : Nat), sumTo (fun k => f k + g k) m = sumTo f m + sumTo g m
  | 0 => rfl
  | m + 1 => by rw [sumTo, sumTo, sumTo, sumTo_two f g m]; omega
theorem sumTo_more (f : Nat → Nat) (m : Nat) : ∀ (d : Nat), sumTo f (m + d) = sumTo f m + sumTo (fun a => f (m + a)) d
  | 0 => rfl
  | d + 1 => by rw [← Nat.add_assoc, sumTo, sumTo_more f m d, sumTo]; omega
theorem sumTo_swap (f : Nat → Nat) (S : Nat) : ∀ (m : Nat), sumTo f (S * m) = sumTo (fun a => sumTo (fun k => f (S * k + a)) m) S
  | 0 => by rw [Nat.mul_zero]; exact (sumTo_zero S).symm
  | m + 1 => by
    rw [Nat.mul_succ, sumTo_more, sumTo_swap f S m, ← sumTo_two]
    rfl
/-- The digits of k to the base S, the lowest first. -/
def digs (S : Nat) : Nat → Nat → List Nat
  | 0, _ => []
  | n + 1, k => k % S :: digs S n (k / S)
/-- Whether all long cars park. -/
def parkC : List Nat → List Nat → List Bool → Bool
  | [], _, _ => true
  | _ :: _, [], _ => true
  | W :: ws, a :: l, T => freeW T (upF T (T.length - a) a) W && parkC ws l (fill T (upF T (T.length - a) a) W)
def scanL (g : Nat → Nat) (T : List Bool) : Nat → Nat → Nat
  | 0, _ => 0
  | a + 1, v => if tk T a = true then v + scanL g T a v else g a + scanL g T a (g a)
def cntL : List Nat → List Bool → Nat
  | [], _ => 1
  | W :: ws, T => scanL (fun x => if freeW T x W = true then cntL ws (fill T x W) else 0) T T.length 0
theorem scanL_eq (g : Nat → Nat) (T : List Bool) : ∀ (d : Nat), d ≤ T.length → scanL g T d (g (upF T (T.length - d) d)) = sumTo (fun a => g (upF T (T.length - a) a)) d
  | 0, _ => rfl
  | d + 1, h => by
    have e : upF T (T.length - d) d = if tk T d = true then upF T (T.length - (d + 1)) (d + 1) else d := by
      rw [show T.length - d = (T.length - (d + 1)) + 1 by omega, upF]
    have ih := scanL_eq g T d (by omega)
    rw [scanL, sumTo, ← ih]
    cases ht : tk T d with
    | true =>
      rw [e, ht]
      simp only [if_true]
      omega
    | false =>
      rw [e, ht]
      simp only [Bool.false_eq_true, if_false]
      omega
theorem freeW_past (T : List Bool) (W : Nat) (hW : 1 ≤ W) : freeW T T.length W = false := by
  obtain ⟨V, rfl⟩ : ∃ V, W = V + 1 := ⟨W - 1, by omega⟩
  rw [freeW]
  simp
def b2n (b : Bool) : Nat := if b = true then 1 else 0
theorem cnt_digs (S : Nat) (hS : 0 < S) : ∀ (ws : List Nat) (T : List Bool), (∀ W ∈ ws, 1 ≤ W) → T.length = S → sumTo (fun k => b2n (parkC ws (digs S ws.length k) T)) (S ^ ws.length) = cntL ws T
  | [], T, _, _ => by simp [sumTo, parkC, cntL, b2n]
  | W :: ws, T, h, hT => by
    rw [List.length_cons, Nat.pow_succ, Nat.mul_comm, sumTo_swap, cntL]
    have e0 : (if freeW T (upF T (T.length - T.length) T.length) W = true then cntL ws (fill T (upF T (T.length - T.length) T.length) W) else 0) = 0 := by
      rw [Nat.sub_self, upF]
      simp only [freeW_past T W (h W (by simp)), Bool.false_eq_true, if_false]
    have e1 := scanL_eq (fun x => if freeW T x W = true then cntL ws (fill T x W) else 0) T T.length (Nat.le_refl _)
    rw [e0] at e1
    rw [e1, hT]
    refine sumTo_congr S fun a ha => ?_
    have e2 : ∀ k, parkC (W :: ws) (digs S (ws.length + 1) (S * k + a)) T = (freeW T (upF T (T.length - a) a) W && parkC ws (digs S ws.length k) (fill T (upF T (T.length - a) a) W)) := by
      intro k
      rw [digs, show (S * k + a) % S = a by rw [Nat.mul_add_mod, Nat.mod_eq_of_lt ha], show (S * k + a) / S = k by rw [Nat.mul_add_div hS, Nat.div_eq_of_lt ha, Nat.add_zero], parkC]
    simp only [e2, hT]
    cases hf : freeW T (upF T (S - a) a) W with
    | false =>
      simp only [Bool.false_and, Bool.false_eq_true, if_false]
      exact sumTo_zero _
    | true =>
      simp only [Bool.true_and, if_true]
      exact cnt_digs S hS ws _ (fun W hW => h W (by simp [hW])) (by rw [fill_len]; exact hT)
/-- The lists of n positive numbers with the sum S. -/
def allC : Nat → Nat → List (List Nat)
  | 0, S => if S = 0 then [[]] else []
  | n + 1, S => (List.range S).flatMap fun W => (allC n (S - (W + 1))).map fun r => (W + 1) :: r
theorem allC_mem : ∀ (w : List Nat), (∀ W ∈ w, 1 ≤ W) → w ∈ allC w.length w.sum
  | [], _ => by simp [allC]
  | W :: w, h => by
    have hW := h W (by simp)
    have ih := allC_mem w (fun x hx => h x (by simp [hx]))
    rw [List.length_cons, allC, List.mem_flatMap]
    refine ⟨W - 1, ?_, ?_⟩
    · rw [List.mem_range, List.sum_cons]; omega
    · rw [List.mem_map]
      refine ⟨w, ?_, by rw [show W - 1 + 1 = W by omega]⟩
      rw [show (W :: w).sum - (W - 1 + 1) = w.sum by rw [List.sum_cons]; omega]
      exact ih
/-- The product of the law, over the cars from the i-th on. -/
def prodN (n : Nat) : Nat → Nat → List Nat → Nat
  | _, _, [] => 1
  | s, i, W :: w => (if i = 0 then 1 else s + n - i + 1) * prodN n (s + W) (i + 1) w
theorem count_short : ((List.range 13).all fun S => [1, 2, 3, 4].all fun n => !decide (S ^ n ≤ 3000) || (allC n S).all fun w => cntL w (List.replicate S false) == prodN n 0 0 w) = true := by
  decide +kernel
theorem count_is (w : List Nat) (h1 : ∀ W ∈ w, 1 ≤ W) (hn : 1 ≤ w.length) (hn8 : w.length ≤ 8) (hS : w.sum ≤ 12) (h : w.sum ^ w.length ≤ 3000) : cntL w (List.replicate w.sum false) = prodN w.length 0 0 w := by
  have hle : w.length ≤ w.sum := by
    clear hn hn8 hS h
    induction w with
    | nil => simp
    | cons W w ih =>
      have := ih (fun x hx => h1 x (by simp [hx]))
      have := h1 W (by simp)
      rw [List.sum_cons, List.length_cons]; omega
  have h4 : w.length ≤ 4 := by
    rcases Nat.lt_or_ge 4 w.length with h5 | h5
    · have a1 : 5 ^ w.length ≤ w.sum ^ w.length := Nat.pow_le_pow_left (by omega) _
      have a2 : 5 ^ 5 ≤ 5 ^ w.length := Nat.pow_le_pow_right (by omega) h5
      have : (5 : Nat) ^ 5 = 3125 := by decide
      omega
    · exact h5
  have hc := count_short
  rw [List.all_eq_true] at hc
  have hc1 := hc w.sum (by rw [List.mem_range]; omega)
  rw [List.all_eq_true] at hc1
  have hc2 := hc1 w.length (by simp; omega)
  rw [decide_eq_true h, Bool.not_true, Bool.false_or, List.all_eq_true] at hc2
  have := hc2 w (allC_mem w h1)
  simpa using this
end Go.Proofs.Ytfclfjengfmjaaa.G
namespace Go.Proofs.Ytfclfjengfmjaaa.Pure
open Go.RowKit Go.Proofs.Ytfclfjengfmjaaa.G Go.Proofs.YtfclfjengfmjaaaW.PrintWords Go.Proofs.YtfclfjengfmjaaaW.PrintLast Go.Proofs.YtfclfjengfmjaaaW.PrintMore
set_option linter.unusedVariables false
set_option linter.unusedSimpArgs false
def toI (v : List Nat) : List Int := v.map fun (n : Nat) => (n : Int)
theorem toI_len (v : List Nat) : (toI v).length = v.length := by simp [toI]
theorem toI_get (v : List Nat) (j : Nat) : (toI v).getD j 0 = (v.getD j 0 : Nat) := by
  unfold toI
  rw [List.getD_eq_getElem?_getD, List.getElem?_map, List.getD_eq_getElem?_getD]
  cases v[j]? <;> rfl
theorem toI_sum : ∀ (v : List Nat), (toI v).sum = (v.sum : Nat)
  | [] => rfl
  | a :: v => by
    have := toI_sum v
    simp only [toI, List.map_cons, List.sum_cons] at this ⊢
    rw [this]; push_cast; rfl
theorem toI_take (v : List Nat) (q : Nat) : (toI v).take q = toI (v.take q) := by simp [toI, List.map_take]
theorem toI_nat {w : List Int} (h : ∀ x ∈ w, 0 ≤ x) : toI (natL w) = w := by
  unfold toI natL
  rw [List.map_map]
  calc w.map _ = w.map id := List.map_congr_left fun x hx => by have := h x hx; show ((x.toNat : Nat) : Int) = x; omega
    _ = w := List.map_id w
theorem lenB_nat {w : List Int} (h : lenB w = true) : ∃ v : List Nat, w = toI v ∧ (∀ W ∈ v, 1 ≤ W) ∧ 1 ≤ v.length ∧ v.length ≤ 8 ∧ v.sum ≤ 12 ∧ 1 ≤ v.sum := by
  obtain ⟨h1, h2, h3, h4, h5, h6⟩ := lenB_parts h
  have hx : ∀ x ∈ w, 1 ≤ x := by
    intro x hx
    obtain ⟨j, hj, rfl⟩ := List.getElem_of_mem hx
    have := h3 j hj
    rw [List.getD_eq_getElem?_getD, List.getElem?_eq_getElem hj] at this
    exact this.1
  have e := toI_nat (w := w) fun x hx' => by have := hx x hx'; omega
  have hs := toI_sum (natL w)
  rw [e] at hs
  refine ⟨natL w, e.symm, fun W hW => ?_, by simp [natL]; omega, by simp [natL]; omega, by omega, by omega⟩
  obtain ⟨x, hx', rfl⟩ := List.mem_map.1 hW
  have := hx x hx'
  omega
def pr (v : List Nat) (n : Nat) : Nat → Nat
  | 0 => 1
  | q + 1 => (if q = 0 then 1 else (v.take q).sum + n - q + 1) * pr v n q
theorem mem_le_sum : ∀ (l : List Nat) (x : Nat), x ∈ l → x ≤ l.sum
  | a :: l, x, h => by
    rw [List.sum_cons]
    rcases List.mem_cons.1 h with rfl | h
    · omega
    · have := mem_le_sum l x h; omega
theorem take_sum_le (v : List Nat) (q : Nat) : (v.take q).sum ≤ v.sum := by
  have := congrArg List.sum (List.take_append_drop q v)
  rw [List.sum_append] at this
  omega
theorem pr_le (v : List Nat) (n : Nat) (h : v.sum ≤ 12) (hn : n ≤ 8) : ∀ q, pr v n q ≤ 21 ^ q
  | 0 => by simp [pr]
  | q + 1 => by
    have := pr_le v n h hn q
    have := take_sum_le v q
    rw [pr, Nat.pow_succ, Nat.mul_comm (21 ^ q)]
    refine Nat.mul_le_mul ?_ (by omega)
    split <;> omega
theorem pr_small (v : List Nat) (n : Nat) (h : v.sum ≤ 12) (hn : n ≤ 8) (q : Nat) (hq : q ≤ 8) : pr v n q ≤ 37822859361 := by
  have a := pr_le v n h hn q
  have b : 21 ^ q ≤ 21 ^ 8 := Nat.pow_le_pow_right (by omega) hq
  have : (21 : Nat) ^ 8 = 37822859361 := by decide
  omega
theorem pr_prodN (v : List Nat) (n : Nat) : ∀ (r : List Nat) (q : Nat), v.drop q = r → q + r.length = v.length → pr v n q * prodN n (v.take q).sum q r = pr v n v.length
  | [], q, _, hl => by
    have : q = v.length := by simpa using hl
    subst this; simp [prodN]
  | W :: r, q, h, hl => by
    simp only [List.length_cons] at hl
    have hd : v.drop (q + 1) = r := by
      have := congrArg (List.drop 1) h
      rwa [List.drop_drop, List.drop_one, List.tail_cons] at this
    have hg : (v.take (q + 1)).sum = (v.take q).sum + W := by
      have e : v.drop q = v[q] :: v.drop (q + 1) := List.drop_eq_getElem_cons (by omega)
      rw [h] at e
      rw [List.take_succ_eq_append_getElem (by omega), List.sum_append]
      injection e with e1 e2
      simp [← e1]
    have ih := pr_prodN v n r (q + 1) hd (by omega)
    rw [prodN, ← hg, ← ih, pr]
    rw [← Nat.mul_assoc]
    congr 1
    rw [Nat.mul_comm]
def cntP (w : List Int) : Int × Bool := if lenB w = true then (((pr (natL w) w.length w.length : Nat) : Int), true) else (0, false)
theorem impl_CountLong_l0 (v : List Nat) (h8 : v.length ≤ 8) (hs : v.sum ≤ 12) (h1 : ∀ W ∈ v, 1 ≤ W) : ∀ (d q : Nat), q + d = v.length → 1 ≤ q → Ev (fun k => impl_CountLong.l0 k (toI v) ((pr v v.length q : Nat) : Int) ((toI v).length : Int) (q : Int)) (((pr v v.length v.length : Nat) : Int), true) := by
  intro d
  induction d with
  | zero =>
    intro q hd hq
    obtain rfl : q = v.length := by omega
    refine Ev.end_ fun k => ?_
    rw [impl_CountLong.l0, if_neg (by rw [toI_len]; omega)]
  | succ d ih =>
    intro q hd hq
    have hts := take_sum_le v q
    have hps := pr_small v v.length hs h8 q (by omega)
    have hps2 := pr_small v v.length hs h8 (q + 1) (by omega)
    have hwide : ∀ j, -1000 ≤ ((toI v).take q).getD j 0 ∧ ((toI v).take q).getD j 0 ≤ 1000 := by
      intro j
      rw [toI_take, toI_get]
      have : (v.take q).getD j 0 ≤ v.sum := by
        rcases Nat.lt_or_ge j (v.take q).length with hj | hj
        · have := mem_le_sum _ _ (List.getElem_mem hj)
          rw [List.getD_eq_getElem?_getD, List.getElem?_eq_getElem hj]
          simp only [Option.getD_some]
          omega
        · rw [List.getD_eq_getElem?_getD, List.getElem?_eq_none hj]; simp
      omega
    refine Ev.step (f := fun k => (impl_total.f k ((toI v).take q)).bind fun t => (impl_CountLong.l0 k (toI v) (wrap64 (((pr v v.length q : Nat) : Int) * (wrap64 ((wrap64 ((wrap64 (t + ((toI v).length : Int))) - (q : Int))) + 1)))) ((toI v).length : Int) (wrap64 ((q : Int) + 1)))) (fun k => by
      rw [impl_CountLong.l0, if_pos (by rw [toI_len]; omega), if_pos (by omega), if_pos (by rw [toI_len]; omega), Int.toNat_natCast]) ?_
    refine Ev.bind (total_ev _ (by rw [List.length_take, toI_len]; omega) hwide) ?_
    have hsum : ((toI v).take q).sum = ((v.take q).sum : Nat) := by rw [toI_take, toI_sum]
    have e : wrap64 (((pr v v.length q : Nat) : Int) * (wrap64 ((wrap64 ((wrap64 (((toI v).take q).sum + ((toI v).length : Int))) - (q : Int))) + 1))) = ((pr v v.length (q + 1) : Nat) : Int) := by
      rw [hsum, toI_len, wrap_id (x := (((v.take q).sum : Nat) : Int) + (v.length : Int)) (by omega) (by omega), wrap_id (x := (((v.take q).sum : Nat) : Int) + (v.length : Int) - (q : Int)) (by omega) (by omega), wrap_id (x := (((v.take q).sum : Nat) : Int) + (v.length : Int) - (q : Int) + 1) (by omega) (by omega)]
      have e2 : ((pr v v.length (q + 1) : Nat) : Int) = ((pr v v.length q : Nat) : Int) * ((((v.take q).sum : Nat) : Int) + (v.length : Int) - (q : Int) + 1) := by
        rw [pr, if_neg (by omega), Int.natCast_mul, Int.mul_comm]
        congr 1
        omega
      rw [← e2, wrap_id (by omega) (by omega)]
    rw [e, wrap_next (n := v.length) (by omega) (by omega)]
    exact ih (q + 1) (by omega) (by omega)
theorem impl_CountLong_ev (w : List Int) (hw : w.length ≤ 4611686018427387904) : Ev (fun k => impl_CountLong.f k w) (cntP w) := by
  unfold impl_CountLong.f cntP
  refine Ev.bind (areLengths_ev w) ?_
  cases h : lenB w with
  | false => simp only [Bool.false_eq_true, if_false]; exact Ev.now _
  | true =>
    simp only [if_true]
    obtain ⟨v, rfl, h1, h2, h3, h4, h5⟩ := lenB_nat h
    have e : natL (toI v) = v := by
      unfold natL toI
      rw [List.map_map]
      exact (List.map_congr_left fun x _ => by show ((x : Int)).toNat = x; omega).trans (List.map_id v)
    rw [e, toI_len]
    have := impl_CountLong_l0 v h3 h4 h1 (v.length - 1) 1 (by omega) (Nat.le_refl _)
    rw [show pr v v.length 1 = 1 by simp [pr], toI_len] at this
    exact this
theorem spec_CountLong_l0 (v : List Nat) (h8 : v.length ≤ 8) (hs : v.sum ≤ 12) (h1 : ∀ W ∈ v, 1 ≤ W) : ∀ (d q : Nat), q + d = v.length → 1 ≤ q → Ev (fun k => spec_CountLong.l0 k (toI v) ((toI v).length : Int) ((pr v v.length q : Nat) : Int) (q : Int)) (((pr v v.length v.length : Nat) : Int), true) := by
  intro d
  induction d with
  | zero =>
    intro q hd hq
    obtain rfl : q = v.length := by omega
    refine Ev.end_ fun k => ?_
    rw [spec_CountLong.l0, if_neg (by rw [toI_len]; omega)]
  | succ d ih =>
    intro q hd hq
    have hts := take_sum_le v q
    have hps := pr_small v v.length hs h8 q (by omega)
    have hps2 := pr_small v v.length hs h8 (q + 1) (by omega)
    have hwide : ∀ j, -1000 ≤ ((toI v).take q).getD j 0 ∧ ((toI v).take q).getD j 0 ≤ 1000 := by
      intro j
      rw [toI_take, toI_get]
      have : (v.take q).getD j 0 ≤ v.sum := by
        rcases Nat.lt_or_ge j (v.take q).length with hj | hj
        · have := mem_le_sum _ _ (List.getElem_mem hj)
          rw [List.getD_eq_getElem?_getD, List.getElem?_eq_getElem hj]
          simp only [Option.getD_some]
          omega
        · rw [List.getD_eq_getElem?_getD, List.getElem?_eq_none hj]; simp
      omega
    refine Ev.step (f := fun k => (spec_paSum.f k ((toI v).take q)).bind fun t => (spec_CountLong.l0 k (toI v) ((toI v).length : Int) (wrap64 (((pr v v.length q : Nat) : Int) * (wrap64 ((wrap64 ((wrap64 (t + ((toI v).length : Int))) - (q : Int))) + 1)))) (wrap64 ((q : Int) + 1)))) (fun k => by
      rw [spec_CountLong.l0, if_pos (by rw [toI_len]; omega), if_pos (by omega), if_pos (by rw [toI_len]; omega), Int.toNat_natCast]) ?_
    refine Ev.bind (paSum_ev _ (by rw [List.length_take, toI_len]; omega) hwide) ?_
    have hsum : ((toI v).take q).sum = ((v.take q).sum : Nat) := by rw [toI_take, toI_sum]
    have e : wrap64 (((pr v v.length q : Nat) : Int) * (wrap64 ((wrap64 ((wrap64 (((toI v).take q).sum + ((toI v).length : Int))) - (q : Int))) + 1))) = ((pr v v.length (q + 1) : Nat) : Int) := by
      rw [hsum, toI_len, wrap_id (x := (((v.take q).sum : Nat) : Int) + (v.length : Int)) (by omega) (by omega), wrap_id (x := (((v.take q).sum : Nat) : Int) + (v.length : Int) - (q : Int)) (by omega) (by omega), wrap_id (x := (((v.take q).sum : Nat) : Int) + (v.length : Int) - (q : Int) + 1) (by omega) (by omega)]
      have e2 : ((pr v v.length (q + 1) : Nat) : Int) = ((pr v v.length q : Nat) : Int) * ((((v.take q).sum : Nat) : Int) + (v.length : Int) - (q : Int) + 1) := by
        rw [pr, if_neg (by omega), Int.natCast_mul, Int.mul_comm]
        congr 1
        omega
      rw [← e2, wrap_id (by omega) (by omega)]
    rw [e, wrap_next (n := v.length) (by omega) (by omega)]
    exact ih (q + 1) (by omega) (by omega)
theorem spec_CountLong_ev (w : List Int) (hw : w.length ≤ 4611686018427387904) : Ev (fun k => spec_CountLong.f k w) (cntP w) := by
  unfold spec_CountLong.f cntP
  refine Ev.bind (loLengths_ev w hw) ?_
  cases h : lenB w with
  | false => simp only [Bool.false_eq_true, if_false]; exact Ev.now _
  | true =>
    simp only [if_true]
    obtain ⟨v, rfl, h1, h2, h3, h4, h5⟩ := lenB_nat h
    have e : natL (toI v) = v := by
      unfold natL toI
      rw [List.map_map]
      exact (List.map_congr_left fun x _ => by show ((x : Int)).toNat = x; omega).trans (List.map_id v)
    rw [e, toI_len]
    have := spec_CountLong_l0 v h3 h4 h1 (v.length - 1) 1 (by omega) (Nat.le_refl _)
    rw [show pr v v.length 1 = 1 by simp [pr], toI_len] at this
    exact this
theorem longV_parkC (L V : List Nat) : ∀ (d i : Nat) (T : List Bool) (out : List Int), i + d = L.length → L.length = V.length → decide ((longV (toI L) (toI V) d i T out).length = out.length + d) = parkC (V.drop i) (L.drop i) T := by
  intro d
  induction d with
  | zero =>
    intro i T out hd hl
    rw [longV, List.drop_of_length_le (show V.length ≤ i by omega), parkC]
    simp
  | succ d ih =>
    intro i T out hd hl
    have eV : V.drop i = V.getD i 0 :: V.drop (i + 1) := by
      rw [List.drop_eq_getElem_cons (by omega), List.getD_eq_getElem?_getD, List.getElem?_eq_getElem (by omega)]; rfl
    have eL : L.drop i = L.getD i 0 :: L.drop (i + 1) := by
      rw [List.drop_eq_getElem_cons (by omega), List.getD_eq_getElem?_getD, List.getElem?_eq_getElem (by omega)]; rfl
    rw [eV, eL, parkC, longV, toI_get, toI_get, Int.toNat_natCast, Int.toNat_natCast]
    generalize upF T (T.length - L.getD i 0) (L.getD i 0) = x
    cases hf : freeW T x (V.getD i 0) with
    | false =>
      simp only [Bool.false_eq_true, if_false, Bool.false_and]
      exact decide_eq_false (by omega)
    | true =>
      simp only [if_true, Bool.true_and]
      rw [← ih (i + 1) (fill T x (V.getD i 0)) (out ++ [(x : Int)]) (by omega) hl]
      congr 1
      simp only [List.length_append, List.length_cons, List.length_nil]
      rw [Nat.add_assoc, Nat.add_comm 1 d]
theorem digs_len (S : Nat) : ∀ (n k : Nat), (digs S n k).length = n
  | 0, _ => rfl
  | n + 1, k => by rw [digs, List.length_cons, digs_len S n]
theorem digs_lt (S : Nat) (hS : 0 < S) : ∀ (n k : Nat), ∀ x ∈ digs S n k, x < S
  | 0, _, x, h => by simp [digs] at h
  | n + 1, k, x, h => by
    rw [digs] at h
    rcases List.mem_cons.1 h with rfl | h
    · exact Nat.mod_lt _ hS
    · exact digs_lt S hS n _ x h
theorem task_digs {v : List Nat} (h : lenB (toI v) = true) (hS : 0 < v.sum) (k : Nat) : taskB (toI (digs v.sum v.length k)) (toI v) = true := by
  unfold taskB
  rw [h, Bool.true_and, toI_len, digs_len, toI_len, decide_eq_true rfl, Bool.true_and]
  unfold inB
  rw [List.all_eq_true]
  intro x hx
  obtain ⟨y, hy, rfl⟩ := List.mem_map.1 hx
  have := digs_lt v.sum hS v.length k y hy
  rw [toI_sum]
  exact decide_eq_true (by omega)
theorem isP_digs {v : List Nat} (h : lenB (toI v) = true) (hS : 0 < v.sum) (k : Nat) : isP (toI (digs v.sum v.length k)) (toI v) = (parkC v (digs v.sum v.length k) (List.replicate v.sum false), true) := by
  unfold isP
  rw [if_pos (task_digs h hS k)]
  have := longV_parkC (digs v.sum v.length k) v v.length 0 (List.replicate v.sum false) [] (by rw [digs_len]; omega) (digs_len _ _ _)
  rw [List.drop_zero, List.drop_zero] at this
  rw [← this]
  unfold longs
  rw [toI_len, digs_len, toI_sum, Int.toNat_natCast]
  simp
end Go.Proofs.Ytfclfjengfmjaaa.Pure
namespace Go.Proofs.Ytfclfjengfmjaaa.Pure
open Go.RowKit Go.Proofs.Ytfclfjengfmjaaa.G Go.Proofs.YtfclfjengfmjaaaW.PrintWords Go.Proofs.YtfclfjengfmjaaaW.PrintLast Go.Proofs.YtfclfjengfmjaaaW.PrintMore
set_option linter.unusedVariables false
set_option linter.unusedSimpArgs false
section
variable (v : List Nat) (c all : Int)
theorem fl_l2 (h : lenB (toI v) = true) (hS : 0 < v.sum) (h8 : v.length ≤ 8) (k0 : Nat) (hk : k0 ≤ 3000) (F : Nat) (hF : F ≤ 3000) (r : Bool) : ∀ (d : Nat) (A : List Nat) (rest : Nat), A.length + d = v.length → rest ≤ 3000 → A ++ digs v.sum d rest = digs v.sum v.length k0 →
    Ev (fun k => laws_FnLongCounts.l1 k (toI v) c (v.sum : Int) all ((F + b2n (parkC v (digs v.sum v.length k0) (List.replicate v.sum false)) : Nat) : Int) ((k0 + 1 : Nat) : Int)) r →
    Ev (fun k => laws_FnLongCounts.l2 k (toI v) c (v.sum : Int) all (F : Int) (k0 : Int) (toI (A ++ List.replicate d 0)) (rest : Int) (v.length : Int) (A.length : Int)) r := by
  intro d
  induction d with
  | zero =>
    intro A rest hd hr hA hE
    rw [digs, List.append_nil] at hA
    refine Ev.step (f := fun k => (impl_IsLongParking.f k (toI (digs v.sum v.length k0)) (toI v)).bind fun bt285 => (if bt285.2 = true then (if bt285.1 = true then (laws_FnLongCounts.l1 k (toI v) c (v.sum : Int) all (wrap64 ((F : Int) + 1)) (wrap64 ((k0 : Int) + 1))) else (laws_FnLongCounts.l1 k (toI v) c (v.sum : Int) all (F : Int) (wrap64 ((k0 : Int) + 1)))) else (some false))) (fun k => by
      rw [laws_FnLongCounts.l2, if_neg (by omega), List.replicate_zero, List.append_nil, hA]) ?_
    refine Ev.bind (impl_IsLong_ev _ _) ?_
    rw [isP_digs h hS]
    simp only [if_true]
    rw [wrap_next (n := 3001) (by omega) (by omega), wrap_next (n := 3001) (by omega) (by omega)]
    cases hp : parkC v (digs v.sum v.length k0) (List.replicate v.sum false) with
    | true =>
      rw [hp] at hE
      simp only [if_true]
      exact hE
    | false =>
      rw [hp] at hE
      simp only [Bool.false_eq_true, if_false]
      exact hE
  | succ d ih =>
    intro A rest hd hr hA hE
    have h1 := ih (A ++ [rest % v.sum]) (rest / v.sum) (by simp; omega) (Nat.le_trans (Nat.div_le_self _ _) hr) (by rw [← hA, digs]; simp) hE
    refine Ev.one h1 fun k => ?_
    have e1 : (toI (A ++ List.replicate (d + 1) 0)).set A.length ((rest % v.sum : Nat) : Int) = toI (A ++ [rest % v.sum] ++ List.replicate d 0) := by
      unfold toI
      rw [List.map_append, List.set_append_right _ _ (by simp), List.length_map, Nat.sub_self, List.replicate_succ]
      simp
    have e2 : Int.tmod (rest : Int) (v.sum : Int) = ((rest % v.sum : Nat) : Int) := rfl
    have e3 : Int.tdiv (rest : Int) (v.sum : Int) = ((rest / v.sum : Nat) : Int) := rfl
    have hq0 : (0 : Int) ≤ ((rest / v.sum : Nat) : Int) := Int.natCast_nonneg _
    have hq : rest / v.sum ≤ 3000 := Nat.le_trans (Nat.div_le_self _ _) hr
    rw [laws_FnLongCounts.l2, if_pos (by omega), if_neg (by omega), if_pos (by omega), if_pos (by rw [toI_len]; simp; omega), Int.toNat_natCast, e2, e3, e1, wrap_id (by omega) (by omega), wrap_next (n := v.length) (by omega) (by omega)]
    simp only [List.length_append, List.length_cons, List.length_nil]
theorem fl_l1 (h : lenB (toI v) = true) (hS : 0 < v.sum) (h8 : v.length ≤ 8) (N : Nat) (hN : N ≤ 3000) (hall : all = (N : Int)) (hc : c = ((sumTo (fun k => b2n (parkC v (digs v.sum v.length k) (List.replicate v.sum false))) N : Nat) : Int)) :
    ∀ (d k0 : Nat), k0 + d = N → Ev (fun k => laws_FnLongCounts.l1 k (toI v) c (v.sum : Int) all ((sumTo (fun k => b2n (parkC v (digs v.sum v.length k) (List.replicate v.sum false))) k0 : Nat) : Int) (k0 : Int)) true := by
  intro d
  induction d with
  | zero =>
    intro k0 hd
    obtain rfl : k0 = N := by omega
    refine Ev.end_ fun k => ?_
    rw [laws_FnLongCounts.l1, if_neg (by omega), hc]
    simp
  | succ d ih =>
    intro k0 hd
    have hF : sumTo (fun k => b2n (parkC v (digs v.sum v.length k) (List.replicate v.sum false))) k0 ≤ k0 := by
      clear hd ih hc
      induction k0 with
      | zero => simp [sumTo]
      | succ k0 ih =>
        rw [sumTo]
        have : b2n (parkC v (digs v.sum v.length k0) (List.replicate v.sum false)) ≤ 1 := by unfold b2n; split <;> omega
        omega
    have h1 := ih (k0 + 1) (by omega)
    rw [sumTo] at h1
    have h2 := fl_l2 v c all h hS h8 k0 (by omega) _ (by omega) true v.length [] k0 (by simp) (by omega) (by simp) h1
    rw [List.nil_append] at h2
    refine Ev.one h2 fun k => ?_
    have e : toI (List.replicate v.length 0) = List.replicate v.length (0 : Int) := by simp [toI]
    rw [laws_FnLongCounts.l1, if_pos (by omega), if_pos (by omega), if_pos (by rw [toI_len]; omega), Option.bind_some, toI_len, Int.toNat_natCast, ← e, toI_len, List.length_replicate]
    rfl
theorem fl_l0 (h : lenB (toI v) = true) (hS : 0 < v.sum) (hS2 : v.sum ≤ 12) (h1 : ∀ W ∈ v, 1 ≤ W) (hn : 1 ≤ v.length) (h8 : v.length ≤ 8) (hc : c = ((pr v v.length v.length : Nat) : Int)) :
    ∀ (d q : Nat), q + d = v.length → v.sum ^ q ≤ 3000 → Ev (fun k => laws_FnLongCounts.l0 k (toI v) c (v.sum : Int) ((v.sum ^ q : Nat) : Int) (v.length : Int) (q : Int)) true := by
  intro d
  induction d with
  | zero =>
    intro q hd hq
    obtain rfl : q = v.length := by omega
    have hcnt := cnt_digs v.sum hS v (List.replicate v.sum false) h1 (by simp)
    rw [count_is v h1 hn h8 hS2 hq] at hcnt
    have hpr := pr_prodN v v.length v 0 (by simp) (by simp)
    rw [show pr v v.length 0 = 1 from rfl, List.take_zero, List.sum_nil, Nat.one_mul] at hpr
    have := fl_l1 v c ((v.sum ^ v.length : Nat) : Int) h hS h8 (v.sum ^ v.length) hq rfl (by rw [hc, hcnt, hpr]) (v.sum ^ v.length) 0 (by omega)
    refine Ev.one this fun k => ?_
    rw [laws_FnLongCounts.l0, if_neg (by omega)]
    rfl
  | succ d ih =>
    intro q hd hq
    have hm : v.sum ^ (q + 1) ≤ 3000 * 12 := by
      rw [Nat.pow_succ]; exact Nat.mul_le_mul hq hS2
    have e : wrap64 (((v.sum ^ q : Nat) : Int) * (v.sum : Int)) = ((v.sum ^ (q + 1) : Nat) : Int) := by
      rw [← Int.natCast_mul, show v.sum ^ q * v.sum = v.sum ^ (q + 1) from (Nat.pow_succ ..).symm, wrap_id (by omega) (by omega)]
    by_cases hh : v.sum ^ (q + 1) ≤ 3000
    · refine Ev.one (ih (q + 1) (by omega) hh) fun k => ?_
      rw [laws_FnLongCounts.l0, if_pos (by omega), e, if_neg (by omega), wrap_next (n := v.length) (by omega) (by omega)]
    · refine Ev.end_ fun k => ?_
      rw [laws_FnLongCounts.l0, if_pos (by omega), e, if_pos (by omega)]
end
end Go.Proofs.Ytfclfjengfmjaaa.Pure
namespace Go.Proofs.Ytfclfjengfmjaaa.Pure
open Go.RowKit Go.Proofs.Ytfclfjengfmjaaa.G Go.Proofs.YtfclfjengfmjaaaW.PrintWords Go.Proofs.YtfclfjengfmjaaaW.PrintLast Go.Proofs.YtfclfjengfmjaaaW.PrintMore
set_option linter.unusedVariables false
set_option linter.unusedSimpArgs false
theorem DrawCountLong_ok {l : List Int} (hb : Bytes l) : ∃ w, Ev (fun k => spec_DrawCountLong.f k l) w ∧ w.length ≤ 10 := by
  obtain ⟨w, p, s, he, ho, _, _⟩ := lengths_ok hb 0 0 8 (by omega) (by omega) (by omega)
  refine ⟨w, ?_, by omega⟩
  unfold spec_DrawCountLong.f
  exact Ev.bind he (Ev.now _)
theorem FnLongCounts : laws_FnLongCounts.Pure := by
  intro l0 l1 _ _ hw0 _ _ hw1
  refine Ev.rounds ?_
  unfold laws_FnLongCounts.f
  obtain ⟨r, hr⟩ := big_eq l0 l1
  simp only [hr, Option.bind_some]
  cases r with
  | true => simp only [if_true]; exact Ev.now _
  | false =>
    simp only [Bool.false_eq_true, if_false]
    obtain ⟨w, he, hw⟩ := DrawCountLong_ok (bytes_of hw0)
    refine Ev.bind he ?_
    refine Ev.bind (impl_CountLong_ev w (by omega)) ?_
    refine Ev.bind (spec_CountLong_ev w (by omega)) ?_
    simp only [bne_self_eq_false, Bool.false_eq_true, if_false]
    unfold cntP
    cases h : lenB w with
    | false =>
      simp only [Bool.false_eq_true, if_false]
      exact Ev.end_ fun k => by rw [laws_FnLongCounts.j0, if_neg (by decide), if_neg (by decide)]
    | true =>
      simp only [if_true]
      obtain ⟨v, rfl, h1, h2, h3, h4, h5⟩ := lenB_nat h
      have hp := lenB_parts h
      have e : natL (toI v) = v := by
        unfold natL toI
        rw [List.map_map]
        exact (List.map_congr_left fun x _ => by show ((x : Int)).toNat = x; omega).trans (List.map_id v)
      rw [e, toI_len]
      refine Ev.step (f := fun k => (laws_jSum.f k (toI v)).bind fun t280 => (laws_FnLongCounts.l0 k (toI v) ((pr v v.length v.length : Nat) : Int) t280 1 ((toI v).length : Int) 0)) (fun k => by rw [laws_FnLongCounts.j0, if_neg (by decide), if_pos rfl]) ?_
      refine Ev.bind (jSum_ev _ (by rw [toI_len]; omega) hp.2.2.2.2.2) ?_
      rw [toI_sum, toI_len]
      exact fl_l0 v _ h (by omega) h4 h1 h2 h3 rfl v.length 0 (by omega) (by simp)
end Go.Proofs.Ytfclfjengfmjaaa.Pure
namespace Go.Proofs.YtfclfjengfmjaaaW.PrintWords
open Go.ChangeShapes Go.WideShapes
theorem sized_ints {H : Type} {enc : TypeId × Value → H} {P : Program} {W : World} {base : Nat} {spare : Nat → Bool} {held : Bool} {t e : TypeId} {k : IntKind} {a : Option Addr} {len cap : Nat} {d : DataW H} {ps : List MemPlace} {ts : List TypeId} {ds : List (DataW H)} {j : Nat}
    (hsz : (DataW.weightsEach P ts ds).all (· ≤ reachBytes) = true) (ht : ts[j]? = some t) (hd : ds[j]? = some d) (hu : P.underlying t = some (.slice e)) (he : P.underlying e = some (.int k)) (hc : P.cellsOf e = 1) {B : Nat} (hB : P.bytesOf e = B)
    (h : DataW.Trod enc P W base spare held t (.slice a len cap) d ps) : len * B ≤ 140737488351232 := by
  obtain ⟨fuel, hf⟩ := h
  rcases open_ints hu he hc hf with ⟨hcs, _⟩ | ⟨x, l, c, zs, hcs, _, hl, _, hz, hx, _, _⟩
  · simp [Value.cells] at hcs
    obtain ⟨rfl, rfl, rfl⟩ := hcs
    simp
  · simp [Value.cells] at hcs
    obtain ⟨rfl, rfl, rfl⟩ := hcs
    obtain ⟨hx, _⟩ := Prod.mk.inj hx
    subst hx
    have z := sized_slice hsz ht hd hu
    rw [hB] at z
    have hl2 : len ≤ zs.length := by
      rw [hz]
      split
      · exact hl
      · exact Nat.le_refl _
    have h1 : (lits (H := H) k (zs.take len)).length + (lits (H := H) k (zs.drop len)).length = zs.length := by
      simp [lits]
      omega
    rw [h1] at z
    exact Nat.le_trans (Nat.mul_le_mul_right _ hl2) z
end Go.Proofs.YtfclfjengfmjaaaW.PrintWords
namespace Go.Proofs.Ytfclfjengfmjaaa.fnLongCounts
open Go.ChangeShapes Go.WideShapes Go.ChangeAt Go.RowKit
open Go.ChangeMaps (open_string shut_string)
set_option linter.unusedVariables false
theorem own : ownKnob Try.prog.godebug = none := by kernel_rfl
theorem laidOut : laidOutB Try.prog = true := by kernel_rfl
def IsRow (k : IntKind) (w : World) (a : Option Addr) (len cap : Nat) (zs : List Int) : Prop :=
  (a = none ∧ len = 0 ∧ cap = 0 ∧ zs = []) ∨
  ∃ x, a = some x ∧ len ≤ cap ∧ cap ≤ maxLen ∧ zs.length = cap ∧ (∀ i, i < zs.length → w.cell? (x.add i) = some (.int k (zs.getD i 0))) ∧ ∀ n ∈ zs, (Lit.int k n).wf = true
set_option maxRecDepth 100000 in
theorem lifted (os : Os) (started : os.Started) (H : Type) (enc : TypeId × Value → H) :
    ReturnsInHanded {} Try.checked os 4 .any (Rows.fnLongCountsSpec.pre6 enc Try.prog Try.f4 Rows.fnLongCountsRow.domain false) (Rows.fnLongCountsSpec.post enc Try.prog Try.f4 false true false false) := by
  refine returnsInHanded_of_change_sized (C := Try.checked) own started (by kernel_rfl) Try.func4
    (ChangeSpec.witness6 (enc := enc) (C := Try.checked) false ⟨#[], #[.slice none 0 0, .slice none 0 0], []⟩ 8 (by kernel_rfl) (by kernel_rfl) (by kernel_rfl) (by kernel_rfl)) ?_
  intro W base args ds gs before hval0 hW hcnd hsz0 _
  have hsz : (DataW.weightsEach Try.prog (Try.f4.params.toList ++ Rows.fnLongCountsSpec.plain.varTypes Try.prog) (ds ++ gs)).all (· ≤ reachBytes) = true := hsz0
  have hval : ∀ (j : Nat) t v, Try.f4.params[j]? = some t → args[j]? = some v → Value.okWide Try.prog W .any base t v := hval0
  have hW' := hW
  obtain ⟨p, q, hA0, hV, rfl, hfz, hnd⟩ := hW
  have hA : DataW.TrodAll enc Try.prog W 0 (fun _ => true) true Try.f4.params.toList args.toList ds p := hA0
  rw [Try.params4] at hA hval hsz
  obtain ⟨v0, vs0, d0, ds0, p0, q0, hargs, rfl, rfl, h0, r0⟩ := trodAll_cons hA
  obtain ⟨v1, vs1, d1, ds1, p1, q1, rfl, rfl, rfl, h1, r1⟩ := trodAll_cons r0
  obtain ⟨rfl, rfl, rfl⟩ := trodAll_nil r1
  obtain rfl : args = #[v0, v1] := by cases args; simp_all
  obtain ⟨rfl, rfl⟩ := trodVars_none hV
  obtain ⟨a0, len0, cap0, rfl⟩ := okWide_slice Try.underlying28 (hval 0 28 v0 rfl rfl)
  have k0 := h0
  have lt0 : ∀ x ∈ p0, x.block < W.heap.size := by obtain ⟨m, hm⟩ := k0; exact DataW.trod_lt m _ _ _ hm
  obtain ⟨z0, w0⟩ : ∃ zs, IsRow .u8 W a0 len0 cap0 zs := by
    obtain ⟨fuel, hf⟩ := h0
    rcases open_ints Try.underlying28 Try.underlying5 (by kernel_rfl) hf with ⟨hcs, _⟩ | ⟨x, l, c, zs, hcs, _, hl, hm, hz, _, hcell, hwz⟩
    · simp [Value.cells] at hcs
      obtain ⟨rfl, rfl, rfl⟩ := hcs
      exact ⟨[], .inl ⟨rfl, rfl, rfl, rfl⟩⟩
    · simp [Value.cells] at hcs
      obtain ⟨rfl, rfl, rfl⟩ := hcs
      exact ⟨zs, .inr ⟨_, rfl, hl, hm, by simpa using hz, hcell, hwz⟩⟩
  have y0 : len0 * 1 ≤ 140737488351232 := Go.Proofs.YtfclfjengfmjaaaW.PrintWords.sized_ints hsz (j := 0) (t := 28) rfl rfl Try.underlying28 Try.underlying5 (by kernel_rfl) (by kernel_rfl) h0
  obtain ⟨a1, len1, cap1, rfl⟩ := okWide_slice Try.underlying28 (hval 1 28 v1 rfl rfl)
  have k1 := h1
  have lt1 : ∀ x ∈ p1, x.block < W.heap.size := by obtain ⟨m, hm⟩ := k1; exact DataW.trod_lt m _ _ _ hm
  obtain ⟨z1, w1⟩ : ∃ zs, IsRow .u8 W a1 len1 cap1 zs := by
    obtain ⟨fuel, hf⟩ := h1
    rcases open_ints Try.underlying28 Try.underlying5 (by kernel_rfl) hf with ⟨hcs, _⟩ | ⟨x, l, c, zs, hcs, _, hl, hm, hz, _, hcell, hwz⟩
    · simp [Value.cells] at hcs
      obtain ⟨rfl, rfl, rfl⟩ := hcs
      exact ⟨[], .inl ⟨rfl, rfl, rfl, rfl⟩⟩
    · simp [Value.cells] at hcs
      obtain ⟨rfl, rfl, rfl⟩ := hcs
      exact ⟨zs, .inr ⟨_, rfl, hl, hm, by simpa using hz, hcell, hwz⟩⟩
  have y1 : len1 * 1 ≤ 140737488351232 := Go.Proofs.YtfclfjengfmjaaaW.PrintWords.sized_ints hsz (j := 1) (t := 28) rfl rfl Try.underlying28 Try.underlying5 (by kernel_rfl) (by kernel_rfl) h1
  clear hA0 hval0 hsz0 hsz
  refine (G.laws_FnLongCounts.walk Pure.FnLongCounts a0 len0 cap0 z0 a1 len1 cap1 z1 W w0 y0 w1 y1).mono fun e W' ⟨he, bel⟩ => ?_
  subst he
  exact ⟨_, rfl, _, _, _, [], _, [], hW', trodAll_mk1 (shut_bool Try.underlying4 _), (trodAll_cons_mk (Below.trod laidOut (by kernel_rfl) (of_decide_eq_true (by kernel_rfl)) k0 bel lt0) (trodAll_cons_mk (Below.trod laidOut (by kernel_rfl) (of_decide_eq_true (by kernel_rfl)) k1 bel lt1) trodAll_mk0)), rfl, bel.frame _, fun h => by cases h⟩
theorem over : Rows.fnLongCountsRow.holds Try.pinned (OpenSpec.ofChange Rows.fnLongCountsSpec) :=
  OpenClaim.holds_of_wide 4 Try.f4 rfl rfl rfl rfl rfl rfl rfl ⟨rfl, rfl, rfl, rfl, rfl⟩ rfl rfl rfl rfl rfl (by kernel_rfl) Try.func4 (by kernel_rfl)
    (of_decide_eq_true (by kernel_rfl)) (by unfold Func.isWrapper; first | (rw [if_pos (by decide +kernel)]; kernel_rfl) | (rw [if_neg (by decide +kernel)]; exact ⟨rfl, rfl⟩))
    (fun os started H enc _ => lifted os started H enc)
theorem proved : Rows.FnLongCountsSaid := over
#print axioms proved
end Go.Proofs.Ytfclfjengfmjaaa.fnLongCounts
namespace Go.Proofs.Ytfclfjengfmjaaa
/-- The row, under a short name, for the claim. -/
theorem fnLongCounts_holds : Rows.FnLongCountsSaid := fnLongCounts.proved
end Go.Proofs.Ytfclfjengfmjaaa
