
/- The contract of spec.reLabel: the label of a point, two loops that count into a written row. -/

import Derived.Test.YtkjapphjolahjaaGvR

namespace Go.Proofs.Ytkjapphjolahjaa.G

open Go.RowKit Go.Proofs.YtkjapphjolahjaaW.PrintWords Go.Proofs.YtkjapphjolahjaaW.PrintLast Go.Proofs.YtkjapphjolahjaaW.PrintMore

set_option linter.unusedVariables false

set_option linter.unusedSimpArgs false

/-- Whether place j counts in the label of place i. -/
def labC (l : List Int) (i j : Nat) : Bool := (decide (j < i) && decide (l.getD j 0 - l.getD i 0 > 100)) || (decide (i < j) && decide (l.getD j 0 > l.getD i 0))
/-- How many places below j count in the label of place i. -/
def labN (l : List Int) (i : Nat) : Nat → Int
  | 0 => 0
  | j + 1 => labN l i j + (if labC l i j = true then 1 else 0)
theorem labN_range (l : List Int) (i : Nat) : ∀ j, 0 ≤ labN l i j ∧ labN l i j ≤ j
  | 0 => by simp [labN]
  | j + 1 => by have := labN_range l i j; rw [labN]; split <;> omega
/-- The row in the midst: the places before i are done, place i has counted up to j. -/
def labTo (l : List Int) (i j : Nat) : List Int := (List.range l.length).map fun q => if q < i then labN l q l.length else if q = i then labN l q j else 0
theorem labTo_len (l : List Int) (i j : Nat) : (labTo l i j).length = l.length := by simp [labTo]
theorem labTo_start (l : List Int) : labTo l 0 0 = List.replicate l.length 0 := by
  apply List.ext_getElem
  · simp [labTo]
  · intro q h1 h2
    simp only [labTo, List.getElem_map, List.getElem_range, List.getElem_replicate, Nat.not_lt_zero, if_false]
    split <;> rfl
theorem labTo_next (l : List Int) (i : Nat) : labTo l (i + 1) 0 = labTo l i l.length := by
  apply List.map_congr_left
  intro q hq
  by_cases h1 : q < i
  · rw [if_pos h1, if_pos (by omega)]
  · by_cases h2 : q = i
    · rw [if_neg h1, if_pos h2, if_pos (by omega)]
    · rw [if_neg h1, if_neg h2, if_neg (by omega)]
      split <;> rfl
theorem labTo_get (l : List Int) (i j : Nat) (h : i < l.length) : (labTo l i j).getD i 0 = labN l i j := by
  rw [List.getD_eq_getElem?_getD, List.getElem?_eq_getElem (by rw [labTo_len]; exact h)]
  simp [labTo]
theorem labTo_miss (l : List Int) (i j : Nat) (h : labC l i j = false) : labTo l i (j + 1) = labTo l i j := by
  apply List.map_congr_left
  intro q hq
  by_cases h1 : q < i
  · rw [if_pos h1, if_pos h1]
  · by_cases h2 : q = i
    · subst h2
      rw [if_neg h1, if_neg h1, if_pos rfl, if_pos rfl, labN, h]
      simp
    · rw [if_neg h1, if_neg h2, if_neg h1, if_neg h2]
theorem labTo_hit (l : List Int) (i j : Nat) (h : labC l i j = true) : (labTo l i j).set i (labN l i j + 1) = labTo l i (j + 1) := by
  apply List.ext_getElem
  · simp [labTo]
  · intro q h1 h2
    rw [List.getElem_set]
    by_cases e : i = q
    · subst e
      simp [labTo, labN, h]
    · rw [if_neg e]
      simp only [labTo, List.getElem_map, List.getElem_range]
      by_cases h3 : q < i
      · rw [if_pos h3, if_pos h3]
      · rw [if_neg h3, if_neg h3, if_neg (Ne.symm e), if_neg (Ne.symm e)]
def spec_reLabel.f (l0 : List Int) : Option (List Int) := if (decide (l0.length ≤ 8) && l0.all fun x => decide (-100000 ≤ x ∧ x ≤ 100000)) = true then some (labTo l0 l0.length 0) else none
set_option maxHeartbeats 8000000 in
set_option maxRecDepth 100000 in
theorem spec_reLabel.calls (A0 : Option Addr) (c0 : Nat) (l0 : List Int) (r : List Int) (w : World) (hr0 : Kd.C (Kd.int .i64) w A0 l0.length l0) (hc0 : l0.length ≤ c0) (h : spec_reLabel.f l0 = some r) :
    Calls Try.prog 53 #[.slice A0 l0.length c0] w fun e w' => ∃ v0_ : Value, e = .returned (v0_) ∧ Kd.R (Kd.int .i64) 3 w' w.heap.size (fun _ => True) v0_ r ∧ Below w.heap.size w w' := by
  unfold spec_reLabel.f at h
  split at h
  case isFalse => cases h
  rename_i hok
  obtain rfl := Option.some.inj h
  rw [Bool.and_eq_true, decide_eq_true_eq, List.all_eq_true] at hok
  have HBN : Aside0 (∀ j, j < l0.length → -100000 ≤ l0.getD j 0 ∧ l0.getD j 0 ≤ 100000) := ⟨fun j hj => by
    rw [List.getD_eq_getElem?_getD, List.getElem?_eq_getElem hj]
    have := hok.2 _ (List.getElem_mem hj)
    simpa using this⟩
  have z8 : (l0.length : Int) ≤ 8 := by have := hok.1; omega
  have HR0 := Aside0.mk hr0
  have HC0 := Aside0.mk hc0
  clear hr0 hc0 h hok
  have HB := Aside0.mk (Below.refl w.heap.size w)
  have z0 : 0 ≤ (l0.length : Int) := by omega
  have c4b1 : decide (0 ≤ (l0.length : Int)) = true := decide_eq_true z0
  have c5b1 : decide (((l0.length : Int) : Int).toNat ≤ 35184372088832) = true := decide_eq_true (by omega)
  have c4b0 := eq_true z0
  have c5b0 : (((l0.length : Int) : Int).toNat ≤ 35184372088832) = True := eq_true (by omega)
  obtain ⟨X0, hX0⟩ : ∃ X : List Int, X = List.replicate ((l0.length : Int) : Int).toNat 0 := ⟨_, rfl⟩
  have NX := Aside0.mk hX0
  clear hX0
  go_enter Try.func53, Try.ntmps53
  go_wp2_with ((with_reducible refine gate_dst (N := 8) rfl ?_); refine Kd.R_make (Kd.int .i64) _ 3 rfl (N := 8) rfl 22 _ _ rfl (l0.length : Int) rfl rfl Try.underlying22 (.int .i64 0) 8 info3 rfl (by decide) (by omega) 0 (ok := fun _ => True) (okp := fun _ => True) rfl (fun _ hk => hk) trivial (of_decide_eq_true c4b1) (Nat.le_trans (Nat.mul_le_mul_right _ (of_decide_eq_true c5b1)) (by omega)) (Below.refl _ _) (Nat.le_refl _) ?_; intro v8 w7 ho8 hb hg_ hnew_; clear hg_ hnew_; rw [← NX.out] at ho8; have n0_ := Aside0.mk (Kd.R_lower ho8 (below_size HB.out)); have n1_ := Aside0.mk (below_step HB.out hb); clear HB; have HO := n0_; have HB := n1_; clear n0_ n1_; clear hb ho8)
  go_loopg [11] l0.length (fun gg v11 w' => ∃ i : Nat, Aside0 (i ≤ l0.length) ∧ Aside0 (l0.length - i ≤ gg) ∧ v11 = .int .i64 (i : Int) ∧ Aside0 (Kd.R (Kd.int .i64) 3 w' w.heap.size (fun _ => True) v8 (labTo l0 i 0)) ∧ Aside0 (Below w.heap.size w w'))
  case atStart => exact ⟨0, ⟨Nat.zero_le _⟩, ⟨by omega⟩, rfl, ⟨by rw [labTo_start, show l0.length = ((l0.length : Int) : Int).toNat from rfl, ← NX.out]; exact HO.out⟩, HB⟩
  case round =>
    clear HO HB
    obtain ⟨i, HI, HG, rfl, HO, HB⟩ := hrel
    obtain ⟨y, hy⟩ : ∃ y : Int, y = (i : Int) := ⟨_, rfl⟩
    rw [← hy]
    by_cases hlt : i < l0.length
    · have c1 : decide (y < (l0.length : Int)) = true := decide_eq_true (by omega)
      have y1 : 0 ≤ y := by omega
      have y2 : y < (l0.length : Int) := by omega
      have HY := Aside0.mk hy
      have HIL := Aside0.mk hlt
      clear hy hlt
      obtain ⟨ad1, rfl, hx1_⟩ := Kd.at_int HR0.out y y1 y2
      have HX1 := Aside0.mk hx1_
      obtain ⟨b, hb⟩ : ∃ b, b = rd l0 y := ⟨_, rfl⟩
      have HBv := Aside0.mk (show l0.getD i 0 = b by rw [hb, HY.out, rd, Int.toNat_natCast])
      rw [← hb] at hx1_
      have HX1 := Aside0.mk hx1_
      have hbb := HBN.out i HIL.out
      rw [HBv.out] at hbb
      obtain ⟨b1, b2⟩ := hbb
      clear hx1_ hb
      have q1 := eq_true y1
      have q2 := eq_true y2
      go_wp2
      go_loopg [16] l0.length (fun gg v16 w' => ∃ j : Nat, Aside0 (j ≤ l0.length) ∧ Aside0 (l0.length - j ≤ gg) ∧ v16 = .int .i64 (j : Int) ∧ Aside0 (Kd.R (Kd.int .i64) 3 w' w.heap.size (fun _ => True) v8 (labTo l0 i j)) ∧ Aside0 (Below w.heap.size w w'))
      case atStart => exact ⟨0, ⟨Nat.zero_le _⟩, ⟨by omega⟩, rfl, HO, HB⟩
      case round =>
        clear HO HB
        obtain ⟨j, HJ, HG2, rfl, HO, HB⟩ := hrel
        obtain ⟨z, hz⟩ : ∃ z : Int, z = (j : Int) := ⟨_, rfl⟩
        rw [← hz]
        by_cases hlt : j < l0.length
        · have c2 : decide (z < (l0.length : Int)) = true := decide_eq_true (by omega)
          have z1 : 0 ≤ z := by omega
          have z2 : z < (l0.length : Int) := by omega
          have HZ := Aside0.mk hz
          have HJL := Aside0.mk hlt
          clear hz hlt
          obtain ⟨ad2, e2, hx2⟩ := Kd.at_int HR0.out z z1 z2
          obtain rfl : ad1 = ad2 := by injection e2
          obtain ⟨a, ha⟩ : ∃ a, a = rd l0 z := ⟨_, rfl⟩
          have HAv := Aside0.mk (show l0.getD j 0 = a by rw [ha, HZ.out, rd, Int.toNat_natCast])
          rw [← ha] at hx2
          clear ha
          have hxz := (HB.out.cell (World.block_lt_of_cell? w _ hx2)).trans hx2
          have hxy := (HB.out.cell (World.block_lt_of_cell? w _ HX1.out)).trans HX1.out
          clear hx2
          have haa := HBN.out j HJL.out
          rw [HAv.out] at haa
          obtain ⟨a1, a2⟩ := haa
          have q3 := eq_true z1
          have q4 := eq_true z2
          obtain ⟨X, hX⟩ : ∃ X, X = labTo l0 i j := ⟨_, rfl⟩
          have HXe := Aside0.mk hX
          rw [← hX] at HO
          have hXL : Aside0 (X.length = l0.length) := ⟨by rw [hX, labTo_len]⟩
          have hXG : Aside0 (rd X y = labN l0 i j) := ⟨by rw [hX, HY.out, rd, Int.toNat_natCast]; exact labTo_get l0 i j HIL.out⟩
          clear hX
          have hCC : labC l0 i j = ((decide (z < y) && decide (a - b > 100)) || (decide (y < z) && decide (a > b))) := by
            unfold labC
            rw [HAv.out, HBv.out, HY.out, HZ.out]
            simp
          obtain ⟨cn, hcn⟩ : ∃ cn, cn = labN l0 i j := ⟨_, rfl⟩
          have HCN := Aside0.mk hcn
          have hcr : 0 ≤ cn ∧ cn ≤ 8 := by rw [hcn]; have := labN_range l0 i j; have := HJ.out; omega
          obtain ⟨k1, k2⟩ := hcr
          replace hXG : Aside0 (rd X y = cn) := ⟨by rw [hXG.out, hcn]⟩
          clear hcn
          cases hc : labC l0 i j with
          | true =>
            have HN := Aside0.mk (show X.set y.toNat (cn + 1) = labTo l0 i (j + 1) by rw [HXe.out, HY.out, Int.toNat_natCast, HCN.out]; exact labTo_hit l0 i j hc)
            rw [hc] at hCC
            obtain ⟨Ao, co, eo⟩ := Kd.R_slice HO.out
            subst eo
            have p6 : y < (X.length : Int) := by rw [hXL.out]; exact of_eq_true q2
            obtain ⟨go19, co19, eo19, gb19, gl19, cl19, HG19⟩ := Kd.R_form HO.out (by omega)
            (first | cases eo19 | (injection eo19 with ea_ en_ ec_; (first | subst ea_ | (injection ea_ with ea_; subst ea_)); subst ec_; clear en_))
            have GB19 := Aside0.mk gb19
            clear gb19 gl19 HG19 cl19
            obtain ⟨hx19, hf19⟩ := Kd.R_celln 0 HO.out y (of_eq_true q1) p6
            rw [show rdOf 0 X y = cn from hXG.out] at hx19
            have HP21 := Kd.R_putg HO.out y (cn + 1)
            have q5 := eq_true p6
            by_cases hjz : z < y
            · have d1 : decide (z < y) = true := decide_eq_true hjz
              have d2 : decide (y < z) = false := decide_eq_false (by omega)
              have d3 : decide (100 < a - b) = true := by
                rw [d1, d2] at hCC
                simpa using hCC.symm
              clear hCC hjz
              go_wp2
              go_quiet (fail)
              clear HP21
              have HP21 := Kd.R_putg (Kd.R_drewN HO.out nq) y (cn + 1)
              have HBq := Aside0.mk (pw_below_drewN HB.out nq)
              go_wp2_with ((with_reducible refine gate_store (t := 3) (p := 55) rfl ?_); refine store_event (t := 3) (p := 55) (v := ?vo_w22) (w1 := ((wr.drewN nq).setCell ⟨go19, y.toNat, none⟩ (.int .i64 (cn + 1)))) ?hg ?ho ?hn ?hr ?_; (case ho => rfl); (case hg => rfl); (case hn => rfl); (case hr => first | (go_simp; done) | (go_simp; rfl)); intro w22 hw; have hp_ : Kd.R (Kd.int .i64) 3 w22 w.heap.size (fun _ => True) (.slice (some ⟨go19, 0, none⟩) X.length co) (labTo l0 i (j + 1)) := (by rw [hw, ← HN.out]; exact HP21.1); have hb_ : Below w.heap.size w w22 := (by rw [hw]; exact below_set HBq.out GB19.out); clear HP21 HO HB HBq; have HO := Aside0.mk hp_; have HB := Aside0.mk hb_; clear hw hp_ hb_)
              go_roundg (l0.length - (j + 1))
              case measure => have := HG2.out; have := HJL.out; omega
              case rel => exact ⟨j + 1, ⟨HJL.out⟩, ⟨Nat.le_refl _⟩, by congr 1; have := HZ.out; first | omega | (unfold wrap64; omega), HO, HB⟩
            · have d1 : decide (z < y) = false := decide_eq_false hjz
              by_cases hjy : y < z
              · have d2 : decide (y < z) = true := decide_eq_true hjy
                have d3 : decide (b < a) = true := by
                  rw [d1, d2] at hCC
                  simpa using hCC.symm
                clear hCC hjz hjy
                go_wp2
                go_quiet (fail)
                clear HP21
                have HP21 := Kd.R_putg (Kd.R_drewN HO.out nq) y (cn + 1)
                have HBq := Aside0.mk (pw_below_drewN HB.out nq)
                go_wp2_with ((with_reducible refine gate_store (t := 3) (p := 55) rfl ?_); refine store_event (t := 3) (p := 55) (v := ?vo_w22) (w1 := ((wr.drewN nq).setCell ⟨go19, y.toNat, none⟩ (.int .i64 (cn + 1)))) ?hg ?ho ?hn ?hr ?_; (case ho => rfl); (case hg => rfl); (case hn => rfl); (case hr => first | (go_simp; done) | (go_simp; rfl)); intro w22 hw; have hp_ : Kd.R (Kd.int .i64) 3 w22 w.heap.size (fun _ => True) (.slice (some ⟨go19, 0, none⟩) X.length co) (labTo l0 i (j + 1)) := (by rw [hw, ← HN.out]; exact HP21.1); have hb_ : Below w.heap.size w w22 := (by rw [hw]; exact below_set HBq.out GB19.out); clear HP21 HO HB HBq; have HO := Aside0.mk hp_; have HB := Aside0.mk hb_; clear hw hp_ hb_)
                go_roundg (l0.length - (j + 1))
                case measure => have := HG2.out; have := HJL.out; omega
                case rel => exact ⟨j + 1, ⟨HJL.out⟩, ⟨Nat.le_refl _⟩, by congr 1; have := HZ.out; first | omega | (unfold wrap64; omega), HO, HB⟩
              · have d2 : decide (y < z) = false := decide_eq_false hjy
                exfalso
                rw [d1, d2] at hCC
                simp at hCC
          | false =>
            have HC := Aside0.mk hc
            rw [hc] at hCC
            by_cases hjz : z < y
            · have d1 : decide (z < y) = true := decide_eq_true hjz
              have d2 : decide (y < z) = false := decide_eq_false (by omega)
              have d3 : decide (100 < a - b) = false := by
                rw [d1, d2] at hCC
                simpa using hCC.symm
              clear hCC hjz
              go_wp2
              go_quiet (fail)
              try go_wp2
              go_roundg (l0.length - (j + 1))
              case measure => have := HG2.out; have := HJL.out; omega
              case rel => exact ⟨j + 1, ⟨HJL.out⟩, ⟨Nat.le_refl _⟩, by congr 1; have := HZ.out; first | omega | (unfold wrap64; omega), ⟨by rw [labTo_miss l0 i j HC.out, ← HXe.out]; exact Kd.R_drewN HO.out _⟩, ⟨pw_below_drewN HB.out _⟩⟩
            · have d1 : decide (z < y) = false := decide_eq_false hjz
              by_cases hjy : y < z
              · have d2 : decide (y < z) = true := decide_eq_true hjy
                have d3 : decide (b < a) = false := by
                  rw [d1, d2] at hCC
                  simpa using hCC.symm
                clear hCC hjz hjy
                go_wp2
                go_quiet (fail)
                try go_wp2
                go_roundg (l0.length - (j + 1))
                case measure => have := HG2.out; have := HJL.out; omega
                case rel => exact ⟨j + 1, ⟨HJL.out⟩, ⟨Nat.le_refl _⟩, by congr 1; have := HZ.out; first | omega | (unfold wrap64; omega), ⟨by rw [labTo_miss l0 i j HC.out, ← HXe.out]; exact Kd.R_drewN HO.out _⟩, ⟨pw_below_drewN HB.out _⟩⟩
              · have d2 : decide (y < z) = false := decide_eq_false hjy
                clear hCC hjz hjy
                go_wp2
                go_quiet (fail)
                try go_wp2
                go_roundg (l0.length - (j + 1))
                case measure => have := HG2.out; have := HJL.out; omega
                case rel => exact ⟨j + 1, ⟨HJL.out⟩, ⟨Nat.le_refl _⟩, by congr 1; have := HZ.out; first | omega | (unfold wrap64; omega), ⟨by rw [labTo_miss l0 i j HC.out, ← HXe.out]; exact Kd.R_drewN HO.out _⟩, ⟨pw_below_drewN HB.out _⟩⟩
        · have c2 : decide (z < (l0.length : Int)) = false := decide_eq_false (by omega)
          have e : j = l0.length := by have := HJ.out; omega
          have HZ := Aside0.mk hz
          subst e
          clear hz
          go_wp2
          go_roundg (l0.length - (i + 1))
          case measure => have := HG.out; have := HIL.out; omega
          case rel => exact ⟨i + 1, ⟨HIL.out⟩, ⟨Nat.le_refl _⟩, by congr 1; have := HY.out; first | omega | (unfold wrap64; omega), ⟨by rw [labTo_next]; exact HO.out⟩, HB⟩
    · have c1 : decide (y < (l0.length : Int)) = false := decide_eq_false (by omega)
      have e : i = l0.length := by have := HI.out; omega
      subst e
      clear hy
      go_wp2
      go_ret
      exact ⟨_, rfl, HO.out, HB.out⟩
end Go.Proofs.Ytkjapphjolahjaa.G
