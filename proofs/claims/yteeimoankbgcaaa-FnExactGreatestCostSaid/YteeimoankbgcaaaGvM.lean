
/- The contract of slices.Max over ints, at a slice that is not empty. -/

import Derived.Test.YteeimoankbgcaaaGwA

namespace Go.Proofs.Yteeimoankbgcaaa.G

open Go.RowKit Go.Proofs.YteeimoankbgcaaaW.PrintWords Go.Proofs.YteeimoankbgcaaaW.PrintLast Go.Proofs.YteeimoankbgcaaaW.PrintMore

attribute [local go_sem] max2_int min2_int max_two min_two max_three min_three max_four min_four   -- for this text's walks alone

set_option linter.unusedVariables false

set_option linter.unusedSimpArgs false

/-! ### slices.Max -/

def slices_Max_int_int.f (l0 : List Int) : Option Int := match l0 with
  | [] => none
  | a :: r => some (r.foldl max a)
def maxTo (l : List Int) : Nat → Int
  | 0 => l.getD 0 0
  | i + 1 => max (maxTo l i) (l.getD (i + 1) 0)
theorem maxTo_fold (a : Int) : ∀ (r : List Int) (b : Int) (l : List Int) (i : Nat), l.drop (i + 1) = r → maxTo l i = b → i + 1 + r.length = l.length → maxTo l (l.length - 1) = r.foldl max b
  | [], b, l, i, h, hb, hl => by
    have : l.length - 1 = i := by simp at hl; omega
    rw [this, hb]; rfl
  | x :: r, b, l, i, h, hb, hl => by
    simp only [List.length_cons] at hl
    have hx : l.getD (i + 1) 0 = x := by
      rw [List.drop_eq_getElem_cons (by omega)] at h
      injection h with h1 h2
      rw [List.getD_eq_getElem?_getD, List.getElem?_eq_getElem (by omega)]
      exact h1
    have hd : l.drop (i + 1 + 1) = r := by
      have := congrArg (List.drop 1) h
      rwa [List.drop_drop, List.drop_one, List.tail_cons] at this
    rw [List.foldl_cons]
    exact maxTo_fold a r (max b x) l (i + 1) hd (by rw [maxTo, hb, hx]) (by omega)
set_option maxHeartbeats 2000000 in
theorem slices_Max_int_int.calls (A0 : Option Addr) (c0 : Nat) (l0 : List Int) (r : Int) (w : World) (hr0 : Kd.C (Kd.int .i64) w A0 l0.length l0) (hc0 : l0.length ≤ c0) (h : slices_Max_int_int.f l0 = some r) :
    Calls Try.prog 41 #[.slice A0 l0.length c0] w fun e w' => e = .returned (.int .i64 r) ∧ Drawn0 w w' := by
  have hpos : 0 < l0.length := by
    cases l0 with
    | nil => simp [slices_Max_int_int.f] at h
    | cons a s => simp
  have hres : r = maxTo l0 (l0.length - 1) := by
    cases l0 with
    | nil => simp at hpos
    | cons a s =>
      rw [maxTo_fold a s a (a :: s) 0 (by simp) (by simp [maxTo]) (by simp; omega)]
      exact (Option.some.inj h).symm
  subst hres
  have hbig : l0.length ≤ 9223372036854775807 := hr0.2.1
  have HR := Aside0.mk hr0
  clear hr0 h
  have c0b : decide ((l0.length : Int) < 1) = false := decide_eq_false (by omega)
  have c0c : decide (l0.length < 1) = false := decide_eq_false (by omega)
  obtain ⟨ad, rfl, hx0⟩ := Kd.at_int HR.out (0 : Int) (by omega) (by omega)
  have e0 : rd l0 (0 : Int) = maxTo l0 0 := rfl
  rw [e0] at hx0
  have q0 : (0 : Int) < (l0.length : Int) := by omega
  have hx1 : w.cell? ad = some (.int .i64 (maxTo l0 0)) := by
    have e : ad.add (Int.toNat 0) = ad := by cases ad; simp [Addr.add]
    rw [e] at hx0; exact hx0
  clear hx0 e0
  go_enter Try.func41, Try.ntmps41
  go_wp2
  go_loopg [3, 4] l0.length (fun gg v3 v4 wr => ∃ i q : Nat, Aside0 (i + 1 ≤ l0.length) ∧ Aside0 (l0.length - i ≤ gg) ∧ v3 = .int .i64 (maxTo l0 i) ∧ v4 = .int .i64 ((i + 1 : Nat) : Int) ∧ wr = w.drewN q)
  case atStart => exact ⟨0, 0, ⟨by omega⟩, ⟨by omega⟩, rfl, rfl, rfl⟩
  case round =>
    obtain ⟨i, q, HI, HG, rfl, rfl, rfl⟩ := hrel
    obtain ⟨z, hz⟩ : ∃ z : Int, z = ((i + 1 : Nat) : Int) := ⟨_, rfl⟩
    rw [← hz]
    by_cases hlt : i + 1 < l0.length
    · have c1 : decide (z < (l0.length : Int)) = true := decide_eq_true (by omega)
      have p1 : 0 ≤ z := by omega
      have p2 : z < (l0.length : Int) := by omega
      obtain ⟨ad', e', hx⟩ := Kd.at_int HR.out z p1 p2
      cases e'
      obtain ⟨y, hy⟩ : ∃ y, y = rd l0 z := ⟨_, rfl⟩
      rw [← hy] at hx
      obtain ⟨m0, hm0⟩ : ∃ m0, m0 = maxTo l0 i := ⟨_, rfl⟩
      rw [← hm0]
      have HM := Aside0.mk (show max m0 y = maxTo l0 (i + 1) by rw [hm0, hy, hz, maxTo, rd, Int.toNat_natCast])
      have HZ := Aside0.mk hz
      clear hz hy hm0
      go_wp2
      all_goals (
        go_roundg (gk - 1)
        case measure => have := HG.out; have := HI.out; omega
        case rel => exact ⟨i + 1, q, ⟨by omega⟩, ⟨by have := HG.out; omega⟩, by rw [← HM.out]; congr 1; omega, by congr 1; have := HZ.out; first | omega | (unfold wrap64; omega), rfl⟩)
    · have c1 : decide (z < (l0.length : Int)) = false := decide_eq_false (by omega)
      have HZ := Aside0.mk hz
      clear hz
      go_wp2
      go_ret
      have e : l0.length - 1 = i := by have := HI.out; omega
      exact ⟨by rw [e]; rfl, q, rfl⟩
end Go.Proofs.Yteeimoankbgcaaa.G
