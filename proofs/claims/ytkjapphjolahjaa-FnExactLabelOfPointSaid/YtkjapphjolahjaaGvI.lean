
/- Contracts of impl.isPoint and spec.reLabel, as this seat's translation has them. -/



import Derived.Test.YtkjapphjolahjaaGwA


namespace Go.Proofs.Ytkjapphjolahjaa.G

open Go.RowKit Go.Proofs.YtkjapphjolahjaaW.PrintWords Go.Proofs.YtkjapphjolahjaaW.PrintLast Go.Proofs.YtkjapphjolahjaaW.PrintMore

set_option linter.unusedVariables false

set_option linter.unusedSimpArgs false

/-- Two numbers that a point may not have, the first one earlier. -/
def onPlane (a b : Int) : Bool := decide (a = b) || decide (a = b + 100)
def freeAt (l : List Int) (j : Nat) : Bool := (l.take j).all fun a => !onPlane a (l.getD j 0)
def pointB (l : List Int) : Bool := decide (l.length ≤ 8) && (l.all fun x => decide (-100000 ≤ x) && decide (x ≤ 100000)) && (List.range l.length).all (freeAt l)
def impl_isPoint.f (l0 : List Int) : Option (Bool) := some (pointB l0)
theorem all_take_succ (l : List Int) (p : Int → Bool) (i : Nat) (h : i < l.length) : (l.take (i + 1)).all p = ((l.take i).all p && p (l.getD i 0)) := by
  rw [List.take_succ_eq_append_getElem h, List.all_append, List.getD_eq_getElem?_getD, List.getElem?_eq_getElem h]
  simp
theorem all_range_succ (p : Nat → Bool) (n : Nat) : (List.range (n + 1)).all p = ((List.range n).all p && p n) := by
  rw [List.range_succ, List.all_append]; simp
theorem all_range_false (p : Nat → Bool) (n j : Nat) (hj : j < n) (h : p j = false) : (List.range n).all p = false := by
  rw [List.all_eq_false]; exact ⟨j, by simpa using hj, by simp [h]⟩
theorem all_take_false (l : List Int) (p : Int → Bool) (n i : Nat) (hi : i < n) (hn : n ≤ l.length) (h : p (l.getD i 0) = false) : (l.take n).all p = false := by
  rw [List.all_eq_false]
  refine ⟨l.getD i 0, ?_, by rw [h]; simp⟩
  rw [List.mem_take_iff_getElem]
  refine ⟨i, by omega, ?_⟩
  rw [List.getD_eq_getElem?_getD, List.getElem?_eq_getElem (by omega)]; rfl
set_option maxHeartbeats 4000000 in
set_option maxRecDepth 100000 in
theorem isPoint_loops (A0 : Option Addr) (c0 : Nat) (l0 : List Int) (w : World) (hr0 : Kd.C (Kd.int .i64) w A0 l0.length l0) (hc0 : l0.length ≤ c0) (h8 : l0.length ≤ 8) (hb : ∀ j, j < l0.length → -100000 ≤ l0.getD j 0 ∧ l0.getD j 0 ≤ 100000) (hv : impl_areBetween.f l0 (-100000) 100000 = some true) :
    Calls Try.prog 54 #[.slice A0 l0.length c0] w fun e w' => e = .returned (.bool ((List.range l0.length).all (freeAt l0))) ∧ Below w.heap.size w w' := by
  have HR := Aside0.mk hr0
  have HC := Aside0.mk hc0
  have HV := Aside0.mk hv
  have HBN := Aside0.mk hb
  have z0 : (0 : Int) ≤ (l0.length : Int) := by omega
  have z8 : (l0.length : Int) ≤ 8 := by omega
  clear hr0 hv hb
  go_enter Try.func54, Try.ntmps54
  go_wp2_with (first | (go_at_call 60; (with_reducible refine (impl_areBetween.calls _ _ l0 _ _ true _ HR.out HC.out HV.out).mono ?_); rintro e w1 ⟨rfl, hB⟩) | go_in)
  go_loopg [18] l0.length (fun gg s18 wr => ∃ j : Nat, j ≤ l0.length ∧ l0.length - j ≤ gg ∧ s18 = .int .i64 j ∧ wr = w1 ∧ Aside0 ((List.range j).all (freeAt l0) = true))
  case atStart => exact ⟨0, Nat.zero_le _, by omega, rfl, rfl, ⟨rfl⟩⟩
  case round =>
    obtain ⟨j, hj, hg, rfl, rfl, AJ⟩ := hrel
    by_cases hlt : j < l0.length
    · have hltz : (j : Int) < (l0.length : Int) := by omega
      have hjc : (j : Int) ≤ (c0 : Int) := by omega
      have hj0 : (0 : Int) ≤ (j : Int) := by omega
      have hsj : IntKind.i64.wrap ((j : Int) + 1) = (j : Int) + 1 := IntWalk.i64_in _ (by omega)
      obtain ⟨ad, rfl, hx⟩ := Kd.at_int HR.out (j : Int) hj0 hltz
      rw [Int.toNat_natCast] at hx
      have hxw : wr.cell? (ad.add j) = some (.int .i64 (rd l0 (j : Int))) := pw_cell_below hB hx
      obtain ⟨y, hy⟩ : ∃ y, y = rd l0 (j : Int) := ⟨_, rfl⟩
      rw [← hy] at hxw
      have B : Aside0 (l0.getD j 0 = y) := ⟨by rw [hy, rd, Int.toNat_natCast]⟩
      have hyb : -100000 ≤ y ∧ y ≤ 100000 := by rw [← B.out]; exact HBN.out j hlt
      obtain ⟨hyb1, hyb2⟩ := hyb
      clear hy hx hsj
      go_wp2
      go_loopg [6, 27] j (fun g2 s6 s27 wr2 => ∃ i : Nat, i ≤ j ∧ j - i ≤ g2 ∧ s27 = .int .i64 i ∧ wr2 = wr ∧ Aside0 ((l0.take i).all (fun a => !onPlane a (l0.getD j 0)) = true))
      case atStart => exact ⟨0, Nat.zero_le _, by omega, rfl, rfl, ⟨rfl⟩⟩
      case round =>
        obtain ⟨i, hi, hg2, rfl, rfl, AI⟩ := hrel
        by_cases hlt2 : i < j
        · have hltz2 : (i : Int) < (j : Int) := by omega
          have hi0 : (0 : Int) ≤ (i : Int) := by omega
          obtain ⟨ad', e', hx⟩ := Kd.at_int HR.out (i : Int) hi0 (by omega)
          cases e'
          rw [Int.toNat_natCast] at hx
          have hxi : wr.cell? (ad.add i) = some (.int .i64 (rd l0 (i : Int))) := pw_cell_below hB hx
          obtain ⟨z, hz⟩ : ∃ z, z = rd l0 (i : Int) := ⟨_, rfl⟩
          rw [← hz] at hxi
          have Bz : Aside0 (l0.getD i 0 = z) := ⟨by rw [hz, rd, Int.toNat_natCast]⟩
          have hs := all_take_succ l0 (fun a => !onPlane a (l0.getD j 0)) i (by omega)
          rw [AI.out, Bz.out, B.out, Bool.true_and] at hs
          have HS := Aside0.mk hs
          clear hz hx hs
          by_cases c1 : z = y
          · have d1 : (z == y) = true := by simpa using c1
            have bad : Aside0 ((List.range l0.length).all (freeAt l0) = false) := ⟨all_range_false _ _ j hlt (all_take_false l0 _ j i hlt2 (by omega) (by rw [Bz.out, B.out]; simp [onPlane, c1]))⟩
            clear c1
            go_wp2
            go_ret
            exact ⟨by rw [bad.out]; rfl, hB⟩
          · have d1 : (z == y) = false := by simpa using c1
            by_cases c2 : z = y + 100
            · have d2 : (z == y + 100) = true := by simpa using c2
              have bad : Aside0 ((List.range l0.length).all (freeAt l0) = false) := ⟨all_range_false _ _ j hlt (all_take_false l0 _ j i hlt2 (by omega) (by rw [Bz.out, B.out]; simp [onPlane, c2]))⟩
              clear c1 c2
              go_wp2
              go_ret
              exact ⟨by rw [bad.out]; rfl, hB⟩
            · have d2 : (z == y + 100) = false := by simpa using c2
              have good : Aside0 ((l0.take (i + 1)).all (fun a => !onPlane a (l0.getD j 0)) = true) := ⟨by rw [B.out, HS.out]; simp [onPlane, c1, c2]⟩
              clear c1 c2
              go_wp2
              go_roundg (j - (i + 1))
              case measure => omega
              case rel => exact ⟨i + 1, by omega, by omega, by go_num, rfl, good⟩
        · have hltz2 : ¬ (i : Int) < (j : Int) := by omega
          obtain rfl : i = j := by omega
          have good : Aside0 ((List.range (i + 1)).all (freeAt l0) = true) := ⟨by rw [all_range_succ, AJ.out, freeAt, AI.out]; rfl⟩
          go_wp2
          go_roundg (l0.length - (i + 1))
          case measure => omega
          case rel => exact ⟨i + 1, by omega, by omega, by go_num, rfl, good⟩
    · have hltz : ¬ (j : Int) < (l0.length : Int) := by omega
      obtain rfl : j = l0.length := by omega
      go_wp2
      go_ret
      exact ⟨by rw [AJ.out]; rfl, hB⟩

set_option maxHeartbeats 4000000 in
set_option maxRecDepth 100000 in
theorem impl_isPoint.calls (A0 : Option Addr) (c0 : Nat) (l0 : List Int) (r : Bool) (w : World) (hr0 : Kd.C (Kd.int .i64) w A0 l0.length l0) (hc0 : l0.length ≤ c0) (h : impl_isPoint.f l0 = some r) :
    Calls Try.prog 54 #[.slice A0 l0.length c0] w fun e w' => e = .returned (.bool r) ∧ Below w.heap.size w w' := by
  obtain rfl := Option.some.inj h
  clear h
  have hbig : l0.length ≤ 9223372036854775807 := hr0.2.1
  by_cases h8 : l0.length ≤ 8
  · cases hb : (l0.all fun x => decide (-100000 ≤ x) && decide (x ≤ 100000)) with
    | true =>
      have e : pointB l0 = (List.range l0.length).all (freeAt l0) := by unfold pointB; rw [hb]; simp [h8]
      rw [e]
      refine isPoint_loops A0 c0 l0 w hr0 hc0 h8 (fun j hj => ?_) (by unfold impl_areBetween.f; rw [hb])
      rw [List.all_eq_true] at hb
      have := hb (l0.getD j 0) (by rw [List.getD_eq_getElem?_getD, List.getElem?_eq_getElem hj]; exact List.getElem_mem hj)
      simpa using this
    | false =>
      have e : pointB l0 = false := by unfold pointB; rw [hb]; simp
      rw [e]
      have HR := Aside0.mk hr0
      have HC := Aside0.mk hc0
      have HV : Aside0 (impl_areBetween.f l0 (-100000) 100000 = some false) := ⟨by unfold impl_areBetween.f; rw [hb]⟩
      have z0 : (0 : Int) ≤ (l0.length : Int) := by omega
      have z8 : (l0.length : Int) ≤ 8 := by omega
      clear hr0 hb e
      go_enter Try.func54, Try.ntmps54
      go_wp2_with (first | (go_at_call 60; (with_reducible refine (impl_areBetween.calls _ _ l0 _ _ false _ HR.out HC.out HV.out).mono ?_); rintro e w1 ⟨rfl, hB⟩) | go_in)
      go_ret
      exact ⟨rfl, hB⟩
  · have e : pointB l0 = false := by unfold pointB; simp [h8]
    rw [e]
    have z8 : ¬ (l0.length : Int) ≤ 8 := by omega
    have z9 : decide (l0.length ≤ 8) = false := decide_eq_false h8
    have z0 : (0 : Int) ≤ (l0.length : Int) := by omega
    clear hr0 e
    go_enter Try.func54, Try.ntmps54
    go_wp2_with go_in
    go_ret
    exact ⟨rfl, Below.refl _ _⟩

end Go.Proofs.Ytkjapphjolahjaa.G
