/- The law FnCarsThatLookBack: part 4 of the printed functions and the facts on them that its row leans on (merged by this session's slim.py). -/
import Derived.Test.YtfclfjengfmjaaaZFnCarsThatLookBack3
namespace Go.Proofs.Ytfclfjengfmjaaa.G
open Go.RowKit Go.Proofs.YtfclfjengfmjaaaW.PrintWords Go.Proofs.YtfclfjengfmjaaaW.PrintLast Go.Proofs.YtfclfjengfmjaaaW.PrintMore
set_option linter.unusedVariables false
set_option linter.unusedSimpArgs false
theorem spec_CountBack_l0 (n b : Nat) (hn : 1 ≤ n) (hn5 : n ≤ 5) (hb : b ≤ 1000) (LL : List (List Int)) (hL : LL = (List.range (n ^ n)).map fun j => digI n n j) : ∀ (d j : Nat), j + d = n ^ n → Ev (fun k => spec_CountBack.l0 k (n : Int) (b : Int) ((cval n b j : Nat) : Int) LL (LL.length : Int) (j : Int)) (((cval n b (n ^ n) : Nat) : Int), true) := by
  have hlen : LL.length = n ^ n := by rw [hL]; simp
  have hM := pow_small hn5 hn5
  intro d
  induction d with
  | zero =>
    intro j hd
    obtain rfl : j = n ^ n := by omega
    refine Ev.end_ fun k => ?_
    rw [spec_CountBack.l0, if_neg (by omega)]
  | succ d ih =>
    intro j hd
    have hd2 := loBack_ev n b (digI n n j) (by omega) hb (by rw [digI_len]; omega) (digI_get n (by omega) n j)
    have hrd : rd_L3 LL (j : Int) = digI n n j := by
      unfold rd_L3
      rw [Int.toNat_natCast, hL]
      first
      | rw [List.getD_eq_getElem?_getD, List.getElem?_map, List.getElem?_range (by omega)]; rfl
      | (simp; omega)
    have hle := cval_le n b j
    refine Ev.step (f := fun k => (spec_loBack.f k (digI n n j) (n : Int) (b : Int)).bind fun t442 => ((spec_l1Has.f k t442 (-1)).bind fun t445 => (if t445 = true then (spec_CountBack.l0 k (n : Int) (b : Int) ((cval n b j : Nat) : Int) LL (LL.length : Int) (wrap64 ((j : Int) + 1))) else (spec_CountBack.l0 k (n : Int) (b : Int) (wrap64 (((cval n b j : Nat) : Int) + 1)) LL (LL.length : Int) (wrap64 ((j : Int) + 1)))))) (fun k => by
      rw [spec_CountBack.l0, if_pos (by omega), if_pos (by omega), if_pos (by omega), hrd]) ?_
    refine Ev.bind hd2 ?_
    refine Ev.bind (l1Has_ev _ _ (by rw [List.length_map, drB_len]; simp [natL, digI_len]; omega)) ?_
    rw [drB_none, wrap_next (n := n ^ n) (by omega) (by omega)]
    have h1 := ih (j + 1) (by omega)
    rw [cval_succ] at h1
    cases hok : okB n b j with
    | true =>
      rw [hok] at h1
      unfold okB at hok
      rw [show (ParkT.driveB n b (fun _ => false) (natL (digI n n j))).isNone = false by
        cases hx : ParkT.driveB n b (fun _ => false) (natL (digI n n j)) with
        | none => rw [hx] at hok; cases hok
        | some L => rfl]
      simp only [Bool.false_eq_true, if_false]
      rw [wrap_next (n := n ^ n + 1) (by omega) (by omega)]
      exact h1
    | false =>
      rw [hok] at h1
      unfold okB at hok
      rw [show (ParkT.driveB n b (fun _ => false) (natL (digI n n j))).isNone = true by
        cases hx : ParkT.driveB n b (fun _ => false) (natL (digI n n j)) with
        | none => rfl
        | some L => rw [hx] at hok; cases hok]
      simp only [if_true]
      exact h1
def cbP (a0 a1 : Int) : Int × Bool := if 1 ≤ a0 ∧ a0 ≤ 5 then (if 0 ≤ a1 ∧ a1 ≤ 8 then (((cval a0.toNat a1.toNat (a0.toNat ^ a0.toNat) : Nat) : Int), true) else (0, false)) else (0, false)
theorem isTried_eq (a0 : Int) : impl_isTried.f a0 = some (decide (1 ≤ a0 ∧ a0 ≤ 5)) := by unfold impl_isTried.f; rw [between_eq]; rfl
theorem isBack_eq (a0 : Int) : impl_isBack.f a0 = some (decide (0 ≤ a0 ∧ a0 ≤ 8)) := by unfold impl_isBack.f; rw [between_eq]; rfl
theorem loBacks_eq (a0 : Int) : spec_loBacks.f a0 = some (decide (0 ≤ a0 ∧ a0 ≤ 8)) := by unfold spec_loBacks.f; rw [l1In_eq]; rfl
theorem impl_CountBack_ev (a0 a1 : Int) : Ev (fun k => impl_CountBack.f k a0 a1) (cbP a0 a1) := by
  unfold impl_CountBack.f cbP
  simp only [isTried_eq, isBack_eq, Option.bind_some, decide_eq_true_eq]
  by_cases h1 : 1 ≤ a0 ∧ a0 ≤ 5
  · simp only [h1, and_self, if_true]
    by_cases h2 : 0 ≤ a1 ∧ a1 ≤ 8
    · simp only [h2, and_self, if_true]
      have hp := pow_small (n := a0.toNat) (d := a0.toNat) (by omega) (by omega)
      have := cntB_ev a0.toNat a1.toNat (by omega) (by omega) (by omega) (a0.toNat ^ a0.toNat) (by omega)
      rw [show ((a1.toNat : Nat) : Int) = a1 by omega] at this
      exact Ev.bind this (Ev.now _)
    · simp only [h2, if_false]; exact Ev.now _
  · simp only [h1, if_false]; exact Ev.now _
theorem spec_CountBack_ev (a0 a1 : Int) : Ev (fun k => spec_CountBack.f k a0 a1) (cbP a0 a1) := by
  unfold spec_CountBack.f cbP
  simp only [l1In_eq, loBacks_eq, Option.bind_some, decide_eq_true_eq]
  by_cases h1 : 1 ≤ a0 ∧ a0 ≤ 5
  · simp only [h1, and_self, if_true]
    by_cases h2 : 0 ≤ a1 ∧ a1 ≤ 8
    · simp only [h2, and_self, if_true, decide_true, Bool.not_true]
      obtain ⟨n, rfl⟩ : ∃ n : Nat, a0 = n := ⟨a0.toNat, by omega⟩
      obtain ⟨b, rfl⟩ : ∃ b : Nat, a1 = b := ⟨a1.toNat, by omega⟩
      refine Ev.step (f := fun k => (spec_loAll.f k ([] : List Int) (n : Int)).bind fun t438 => (spec_CountBack.l0 k (n : Int) (b : Int) 0 t438 (t438.length : Int) 0)) (fun k => by rw [spec_CountBack.j0, if_neg (by decide)]) ?_
      refine Ev.bind (loAll_ev n (by omega) n [] (by simp)) ?_
      rw [Int.toNat_natCast, Int.toNat_natCast]
      exact spec_CountBack_l0 n b (by omega) (by omega) (by omega) _ (by rw [allL_eq n (by omega)]; simp) (n ^ n) 0 (by omega)
    · simp only [h2, if_false, decide_false, Bool.not_false]
      exact Ev.end_ fun k => by rw [spec_CountBack.j0, if_pos rfl]
  · simp only [h1, if_false]
    exact Ev.end_ fun k => by rw [spec_CountBack.j0, if_pos rfl]
theorem most_eq (a b : Int) : spec_l1Most.f a b = some (if a > b then a else b) := by
  unfold spec_l1Most.f
  split <;> rfl
theorem favs_l1 {l : List Int} (hb : Bytes l) (N : Int) : ∀ (d : Nat) (x : List Int) (p s : Int), x.length + d = 9 → 0 ≤ p → p + 4 * d ≤ 1000000000000000 →
    ∃ out p' s', Ev (fun k => spec_l1Cur_favourites.l1 k N x l p s) (out, N, p', s') ∧ out.length ≤ 9 ∧ p ≤ p' ∧ p' ≤ p + 4 * d + 4 := by
  intro d
  induction d with
  | zero =>
    intro x p s hd h0 h1
    obtain ⟨r, p1, s1, e1, b1, b2, b3, b4⟩ := pick_ok hb p s 2 h0 (by omega)
    refine ⟨x, p1, s1, Ev.end_ fun k => ?_, by omega, by omega, by omega⟩
    rw [spec_l1Cur_favourites.l1, e1, Option.bind_some]
    simp only
    rw [wrap_id (x := 8 + r) (by omega) (by omega), if_neg (by omega)]
  | succ d ih =>
    intro x p s hd h0 h1
    obtain ⟨r, p1, s1, e1, b1, b2, b3, b4⟩ := pick_ok hb p s 2 h0 (by omega)
    by_cases c : (x.length : Int) < 8 + r
    · obtain ⟨v, p2, s2, e2, b5, b6, b7, b8⟩ := pick_ok hb p1 s1 N (by omega) (by omega)
      obtain ⟨out, p', s', he, ho, a1, a2⟩ := ih (x ++ [v]) p2 s2 (by simp; omega) (by omega) (by omega)
      refine ⟨out, p', s', Ev.one he fun k => ?_, ho, by omega, by omega⟩
      rw [spec_l1Cur_favourites.l1, e1, Option.bind_some]
      simp only
      rw [wrap_id (x := 8 + r) (by omega) (by omega), if_pos c, e2, Option.bind_some, if_pos (by omega)]
    · refine ⟨x, p1, s1, Ev.end_ fun k => ?_, by omega, by omega, by omega⟩
      rw [spec_l1Cur_favourites.l1, e1, Option.bind_some]
      simp only
      rw [wrap_id (x := 8 + r) (by omega) (by omega), if_neg c]
theorem favs_l0 {l : List Int} (hb : Bytes l) (N : Int) : ∀ (d : Nat) (x : List Int) (p s : Int), x.length + d ≤ 8 → 0 ≤ p → p + 4 * d ≤ 100000000000 →
    ∃ out M p' s', Ev (fun k => spec_l1Cur_favourites.l0 k N x (d : Int) l p s) (out, M, p', s') ∧ out.length ≤ 9 ∧ p ≤ p' ∧ p' ≤ p + 4 * d + 50 := by
  intro d
  induction d with
  | zero =>
    intro x p s hd h0 h1
    obtain ⟨r, p1, s1, e1, b1, b2, b3, b4⟩ := pick_ok hb p s 20 h0 (by omega)
    by_cases c0 : r = 0
    · obtain ⟨v, p2, s2, e2, b5, b6⟩ := among_ok hb p1 s1 [-1, N, 0, 4611686018427387904] (by simp) (by omega) (by omega)
      refine ⟨x ++ [v], N, p2, s2, Ev.end_ fun k => ?_, by simp; omega, by omega, by omega⟩
      rw [spec_l1Cur_favourites.l0, if_neg (by omega), e1, Option.bind_some]
      simp only
      rw [if_pos c0, e2, Option.bind_some, if_pos (by omega)]
    · by_cases c1 : r = 1
      · obtain ⟨out, p', s', he, ho, a1, a2⟩ := favs_l1 hb N (9 - x.length) x p1 s1 (by omega) (by omega) (by omega)
        refine ⟨out, N, p', s', Ev.one he fun k => ?_, ho, by omega, by omega⟩
        rw [spec_l1Cur_favourites.l0, if_neg (by omega), e1, Option.bind_some]
        simp only
        rw [if_neg c0, if_pos c1]
      · by_cases c2 : r = 2
        · obtain ⟨v, p2, s2, e2, b5, b6⟩ := among_ok hb p1 s1 [0, -1, 12, 13] (by simp) (by omega) (by omega)
          refine ⟨x, v, p2, s2, Ev.end_ fun k => ?_, by omega, by omega, by omega⟩
          rw [spec_l1Cur_favourites.l0, if_neg (by omega), e1, Option.bind_some]
          simp only
          rw [if_neg c0, if_neg c1, if_pos c2, e2, Option.bind_some]
        · refine ⟨x, N, p1, s1, Ev.end_ fun k => ?_, by omega, by omega, by omega⟩
          rw [spec_l1Cur_favourites.l0, if_neg (by omega), e1, Option.bind_some]
          simp only
          rw [if_neg c0, if_neg c1, if_neg c2]
  | succ d ih =>
    intro x p s hd h0 h1
    obtain ⟨r, p1, s1, e1, b1, b2, b3, b4⟩ := pick_ok hb p s N h0 (by omega)
    obtain ⟨v, p2, s2, e2, b5, b6, b7, b8⟩ := pick_ok hb p1 s1 (if (1 : Int) > wrap64 (N - r) then 1 else wrap64 (N - r)) (by omega) (by omega)
    obtain ⟨out, M, p', s', he, ho, a1, a2⟩ := ih (x ++ [v]) p2 s2 (by simp; omega) (by omega) (by omega)
    refine ⟨out, M, p', s', Ev.one he fun k => ?_, ho, by omega, by omega⟩
    rw [spec_l1Cur_favourites.l0, if_pos (by omega), e1, Option.bind_some]
    simp only
    rw [most_eq, Option.bind_some, e2, Option.bind_some, if_pos (by omega), wrap_id (x := ((d + 1 : Nat) : Int) - 1) (by omega) (by omega), show ((d + 1 : Nat) : Int) - 1 = (d : Int) by omega]
theorem favs_ok {l : List Int} (hb : Bytes l) : ∃ out M p' s', Ev (fun k => spec_l1Cur_favourites.f k l 0 0) (out, M, p', s') ∧ out.length ≤ 9 ∧ 0 ≤ p' ∧ p' ≤ 1000 := by
  obtain ⟨u, p1, s1, e1, b1, b2⟩ := among_ok hb 0 0 [4, 7, 12] (by simp) (by omega) (by omega)
  obtain ⟨r, p2, s2, e2, b3, b4, b5, b6⟩ := pick_ok hb p1 s1 u (by omega) (by omega)
  obtain ⟨t, ht⟩ : ∃ t, t = (if wrap64 (1 + r) < 8 then wrap64 (1 + r) else 8) := ⟨_, rfl⟩
  have ht8 : t ≤ 8 := by rw [ht]; split <;> omega
  obtain ⟨v, p3, s3, e3, b7, b8, b9, b10⟩ := pick_ok hb p2 s2 (wrap64 (t + 1)) (by omega) (by omega)
  have hv : v ≤ 8 := by
    rcases b8 with h | h
    · have : wrap64 (t + 1) ≤ 9 ∨ v ≤ 8 := by
        rcases Int.lt_or_le t (-9223372036854775000) with h2 | h2
        · right
          have hw : -9223372036854775808 ≤ wrap64 (1 + r) := by unfold wrap64; omega
          have : -9223372036854775808 ≤ t := by rw [ht]; split <;> omega
          rw [wrap_id (by omega) (by omega)] at h
          omega
        · left; rw [wrap_id (by omega) (by omega)]; omega
      omega
    · omega
  obtain ⟨out, M, p', s', he, ho, a1, a2⟩ := favs_l0 hb (wrap64 (1 + r)) v.toNat [] p3 s3 (by simp; omega) (by omega) (by omega)
  refine ⟨out, M, p', s', ?_, ho, by omega, by omega⟩
  unfold spec_l1Cur_favourites.f
  simp only [e1, e2, Option.bind_some, least_eq, ← ht, e3]
  rw [show (v.toNat : Int) = v by omega] at he
  exact he
theorem DrawDriveBack_ok {l : List Int} (hb : Bytes l) : ∃ out N b, Ev (fun k => spec_DrawDriveBack.f k l) (out, N, b) ∧ out.length ≤ 9 := by
  obtain ⟨out, M, p, s, he, ho, a1, a2⟩ := favs_ok hb
  obtain ⟨u, p1, s1, e1, b1, b2⟩ := among_ok hb p s [0, 1, 1, 2, 3, 8, 9, -1] (by simp) (by omega) (by omega)
  refine ⟨out, M, u, ?_, ho⟩
  unfold spec_DrawDriveBack.f
  refine Ev.bind he ?_
  simp only [e1, Option.bind_some]
  exact Ev.now _
theorem DrawCountBack_ok {l : List Int} (hb : Bytes l) : ∃ n b, spec_DrawCountBack.f l = some (n, b) := by
  obtain ⟨u, p1, s1, e1, b1, b2⟩ := among_ok hb 0 0 [1, 2, 3, 4, 4, 5, 6, 0] (by simp) (by omega) (by omega)
  obtain ⟨v, p2, s2, e2, b3, b4⟩ := among_ok hb p1 s1 [0, 1, 2, 3, 8, 9, -1] (by simp) (by omega) (by omega)
  refine ⟨u, v, ?_⟩
  unfold spec_DrawCountBack.f
  simp only [e1, e2, Option.bind_some]
def goodB (l : List Int) (N : Int) : Bool := decide (1 ≤ N ∧ N ≤ 12) && decide (l.length ≤ 8) && inB l 0 (N - 1)
theorem fav_eq (l : List Int) (N : Int) : impl_AreFavourites.f l N = some (goodB l N) := by
  unfold impl_AreFavourites.f goodB
  simp only [between_eq, areBetween_eq, Option.bind_some]
  by_cases h1 : 1 ≤ N ∧ N ≤ 12
  · rw [decide_eq_true h1, Bool.true_and]
    simp only [if_true]
    by_cases h2 : l.length ≤ 8
    · rw [if_pos (by omega), decide_eq_true h2, Bool.true_and, wrap_id (x := N - 1) (by omega) (by omega)]
    · rw [if_neg (by omega), decide_eq_false h2, Bool.false_and]
  · rw [decide_eq_false h1, Bool.false_and, Bool.false_and]
    simp only [Bool.false_eq_true, if_false]
theorem good_ev (l : List Int) (N : Int) (hn : l.length ≤ 4611686018427387904) : Ev (fun k => spec_paGood.f k l N) (goodB l N) := by
  unfold spec_paGood.f spec_paStreet.f goodB
  simp only [l1In_eq, Option.bind_some]
  by_cases h1 : 1 ≤ N ∧ N ≤ 12
  · rw [decide_eq_true h1, Bool.true_and]
    simp only [if_true]
    by_cases h2 : l.length ≤ 8
    · rw [decide_eq_true h2, Bool.true_and]
      simp only [show (l.length : Int) ≤ 8 by omega, if_true]
      rw [wrap_id (x := N - 1) (by omega) (by omega)]
      exact Ev.bind (l1All_ev l 0 (N - 1) hn) (Ev.now _)
    · rw [decide_eq_false h2, Bool.false_and]
      simp only [show ¬ (l.length : Int) ≤ 8 by omega, if_false]
      exact Ev.now _
  · rw [decide_eq_false h1, Bool.false_and, Bool.false_and]
    simp only [Bool.false_eq_true, if_false]
    exact Ev.now _
theorem good_parts {l : List Int} {N : Int} (h : goodB l N = true) : ∃ M : Nat, N = M ∧ 1 ≤ M ∧ M ≤ 12 ∧ l.length ≤ 8 ∧ ∀ j, j < l.length → 0 ≤ l.getD j 0 ∧ l.getD j 0 < (M : Int) := by
  unfold goodB at h
  simp only [Bool.and_eq_true, decide_eq_true_eq] at h
  obtain ⟨⟨h1, h2⟩, h3⟩ := h
  exact ⟨N.toNat, by omega, by omega, by omega, h2, fun j hj => by have := inB_get h3 hj; omega⟩
/-- Whether all cars of the list park where they look b places back. -/
def okL (N b : Nat) (l : List Int) : Bool := (ParkT.driveB N b (fun _ => false) (natL l)).isSome
theorem isNone_ok (N b : Nat) (l : List Int) : (ParkT.driveB N b (fun _ => false) (natL l)).isNone = !okL N b l := by
  unfold okL
  cases ParkT.driveB N b (fun _ => false) (natL l) <;> rfl
def dbV (l : List Int) (N b : Int) : List Int × Bool := if goodB l N = true then (if 0 ≤ b ∧ b ≤ 8 then outB (ParkT.driveB N.toNat b.toNat (fun _ => false) (natL l)) [] else ([], false)) else ([], false)
theorem dbV_len (l : List Int) (N b : Int) : (dbV l N b).1.length ≤ l.length := by
  unfold dbV
  split
  · split
    · cases h : ParkT.driveB N.toNat b.toNat (fun _ => false) (natL l) with
      | none => simp [outB]
      | some L =>
        have h1 := congrArg List.length (drB_some (natL l) _ L h)
        rw [List.length_map, List.length_map, drB_len] at h1
        simp only [outB, List.nil_append, List.length_map, ← h1, natL]
        exact Nat.le_refl _
    · simp
  · simp
theorem impl_DriveBack_ev (l : List Int) (N b : Int) : Ev (fun k => impl_DriveBack.f k l N b) (dbV l N b) := by
  unfold impl_DriveBack.f dbV
  simp only [fav_eq, isBack_eq, Option.bind_some, decide_eq_true_eq]
  cases h : goodB l N with
  | false => simp only [Bool.false_eq_true, if_false]; exact Ev.now _
  | true =>
    obtain ⟨M, rfl, h1, h2, h3, h4⟩ := good_parts h
    simp only [if_true]
    by_cases hb : 0 ≤ b ∧ b ≤ 8
    · obtain ⟨c, rfl⟩ : ∃ c : Nat, b = c := ⟨b.toNat, by omega⟩
      simp only [hb, and_self, if_true, Int.toNat_natCast]
      exact Ev.bind (driveBack_ev M c l (by omega) (by omega) (by omega) h4) (Ev.now _)
    · simp only [hb, if_false]; exact Ev.now _
theorem outB_of (N b : Nat) (l : List Int) : (if okL N b l = true then ((drB N b (fun _ => false) (natL l)).map valP, true) else (([] : List Int), false)) = outB (ParkT.driveB N b (fun _ => false) (natL l)) [] := by
  unfold okL
  cases h : ParkT.driveB N b (fun _ => false) (natL l) with
  | none => rfl
  | some L =>
    simp only [Option.isSome_some, if_true]
    rw [drB_some _ _ L h]; rfl
theorem spec_DriveBack_ev (l : List Int) (N b : Int) (hn : l.length ≤ 4611686018427387904) : Ev (fun k => spec_DriveBack.f k l N b) (dbV l N b) := by
  unfold spec_DriveBack.f dbV
  refine Ev.bind (good_ev l N hn) ?_
  cases h : goodB l N with
  | false =>
    simp only [Bool.false_eq_true, if_false]
    exact Ev.end_ fun k => by rw [spec_DriveBack.j0, if_pos rfl]
  | true =>
    obtain ⟨M, rfl, h1, h2, h3, h4⟩ := good_parts h
    simp only [if_true, loBacks_eq, Option.bind_some]
    by_cases hb : 0 ≤ b ∧ b ≤ 8
    · obtain ⟨c, rfl⟩ : ∃ c : Nat, b = c := ⟨b.toNat, by omega⟩
      simp only [hb, and_self, if_true, Int.toNat_natCast, decide_true, Bool.not_true]
      refine Ev.step (f := fun k => (spec_loBack.f k l (M : Int) (c : Int)).bind fun t602 => ((spec_l1Has.f k t602 (-1)).bind fun t605 => (if t605 = true then (some (([] : List Int), false)) else (some (t602, true))))) (fun k => by rw [spec_DriveBack.j0, if_neg (by decide)]) ?_
      refine Ev.bind (loBack_ev M c l (by omega) (by omega) (by omega) h4) ?_
      refine Ev.bind (l1Has_ev _ _ (by rw [List.length_map, drB_len]; simp [natL]; omega)) ?_
      rw [drB_none, isNone_ok, ← outB_of]
      cases okL M c l with
      | true => simp only [Bool.not_true, Bool.false_eq_true, if_false, if_true]; exact Ev.now _
      | false => simp only [Bool.not_false, Bool.false_eq_true, if_false, if_true]; exact Ev.now _
    · simp only [hb, if_false, decide_false, Bool.not_false]
      exact Ev.end_ fun k => by rw [spec_DriveBack.j0, if_pos rfl]
def dpV (l : List Int) (N b : Int) : Bool × Bool := if goodB l N = true then (if 0 ≤ b ∧ b ≤ 8 then (okL N.toNat b.toNat l, true) else (false, false)) else (false, false)
theorem impl_DoParkBack_ev (l : List Int) (N b : Int) : Ev (fun k => impl_DoParkBack.f k l N b) (dpV l N b) := by
  unfold impl_DoParkBack.f dpV
  simp only [fav_eq, isBack_eq, Option.bind_some, decide_eq_true_eq]
  cases h : goodB l N with
  | false => simp only [Bool.false_eq_true, if_false]; exact Ev.now _
  | true =>
    obtain ⟨M, rfl, h1, h2, h3, h4⟩ := good_parts h
    simp only [if_true]
    by_cases hb : 0 ≤ b ∧ b ≤ 8
    · obtain ⟨c, rfl⟩ : ∃ c : Nat, b = c := ⟨b.toNat, by omega⟩
      simp only [hb, and_self, if_true, Int.toNat_natCast]
      refine Ev.bind (driveBack_ev M c l (by omega) (by omega) (by omega) h4) ?_
      rw [outB_ok]
      exact Ev.now _
    · simp only [hb, if_false]; exact Ev.now _
theorem spec_DoParkBack_ev (l : List Int) (N b : Int) (hn : l.length ≤ 4611686018427387904) : Ev (fun k => spec_DoParkBack.f k l N b) (dpV l N b) := by
  unfold spec_DoParkBack.f dpV
  refine Ev.bind (good_ev l N hn) ?_
  cases h : goodB l N with
  | false =>
    simp only [Bool.false_eq_true, if_false]
    exact Ev.end_ fun k => by rw [spec_DoParkBack.j0, if_pos rfl]
  | true =>
    obtain ⟨M, rfl, h1, h2, h3, h4⟩ := good_parts h
    simp only [if_true, loBacks_eq, Option.bind_some]
    by_cases hb : 0 ≤ b ∧ b ≤ 8
    · obtain ⟨c, rfl⟩ : ∃ c : Nat, b = c := ⟨b.toNat, by omega⟩
      simp only [hb, and_self, if_true, Int.toNat_natCast, decide_true, Bool.not_true]
      refine Ev.step (f := fun k => (spec_loBack.f k l (M : Int) (c : Int)).bind fun t614 => ((spec_l1Has.f k t614 (-1)).bind fun t617 => (some (!t617, true)))) (fun k => by rw [spec_DoParkBack.j0, if_neg (by decide)]) ?_
      refine Ev.bind (loBack_ev M c l (by omega) (by omega) (by omega) h4) ?_
      refine Ev.bind (l1Has_ev _ _ (by rw [List.length_map, drB_len]; simp [natL]; omega)) ?_
      rw [drB_none, isNone_ok, Bool.not_not]
      exact Ev.now _
    · simp only [hb, if_false, decide_false, Bool.not_false]
      exact Ev.end_ fun k => by rw [spec_DoParkBack.j0, if_pos rfl]
def lstB (f : Nat → Bool) : Nat → Nat → Int × Bool
  | 0, _ => (0, false)
  | d + 1, b => if f b = true then ((b : Int), true) else lstB f d (b + 1)
def lbV (l : List Int) (N : Int) : Int × Bool := if goodB l N = true then lstB (fun b => okL N.toNat b l) 9 0 else (0, false)
theorem impl_LeastBack_ev (l : List Int) (N : Int) : Ev (fun k => impl_LeastBack.f k l N) (lbV l N) := by
  unfold impl_LeastBack.f lbV
  simp only [fav_eq, Option.bind_some]
  cases h : goodB l N with
  | false => simp only [Bool.false_eq_true, if_false]; exact Ev.now _
  | true =>
    obtain ⟨M, rfl, h1, h2, h3, h4⟩ := good_parts h
    simp only [if_true, Int.toNat_natCast]
    have key : ∀ (d b : Nat), b + d = 9 → Ev (fun k => impl_LeastBack.l0 k l (M : Int) (b : Int)) (lstB (fun b => okL M b l) d b) := by
      intro d
      induction d with
      | zero =>
        intro b hb
        refine Ev.end_ fun k => ?_
        rw [impl_LeastBack.l0, if_neg (by omega)]
        rfl
      | succ d ih =>
        intro b hb
        refine Ev.step (f := fun k => (impl_driveBack.f k l (M : Int) (b : Int)).bind fun bt621 => (if bt621.2 = true then (some ((b : Int), true)) else (impl_LeastBack.l0 k l (M : Int) (wrap64 ((b : Int) + 1))))) (fun k => by rw [impl_LeastBack.l0, if_pos (by omega)]) ?_
        refine Ev.bind (driveBack_ev M b l (by omega) (by omega) (by omega) h4) ?_
        rw [outB_ok, lstB, wrap_next (n := 9) (by omega) (by omega)]
        show Ev (fun k => if okL M b l = true then _ else _) _
        cases okL M b l with
        | true => simp only [if_true]; exact Ev.now _
        | false => simp only [Bool.false_eq_true, if_false]; exact ih (b + 1) (by omega)
    exact key 9 0 (by omega)
theorem spec_LeastBack_ev (l : List Int) (N : Int) (hn : l.length ≤ 4611686018427387904) : Ev (fun k => spec_LeastBack.f k l N) (lbV l N) := by
  unfold spec_LeastBack.f lbV
  refine Ev.bind (good_ev l N hn) ?_
  cases h : goodB l N with
  | false => simp only [Bool.false_eq_true, if_false]; exact Ev.now _
  | true =>
    obtain ⟨M, rfl, h1, h2, h3, h4⟩ := good_parts h
    simp only [if_true, Int.toNat_natCast]
    have key : ∀ (d b : Nat), b + d = 9 → Ev (fun k => spec_LeastBack.l0 k l (M : Int) (b : Int)) (lstB (fun b => okL M b l) d b) := by
      intro d
      induction d with
      | zero =>
        intro b hb
        refine Ev.end_ fun k => ?_
        rw [spec_LeastBack.l0, if_neg (by omega)]
        rfl
      | succ d ih =>
        intro b hb
        refine Ev.step (f := fun k => (spec_loBack.f k l (M : Int) (b : Int)).bind fun t626 => ((spec_l1Has.f k t626 (-1)).bind fun t629 => (if t629 = true then (spec_LeastBack.l0 k l (M : Int) (wrap64 ((b : Int) + 1))) else (some ((b : Int), true))))) (fun k => by rw [spec_LeastBack.l0, if_pos (by omega)]) ?_
        refine Ev.bind (loBack_ev M b l (by omega) (by omega) (by omega) h4) ?_
        refine Ev.bind (l1Has_ev _ _ (by rw [List.length_map, drB_len]; simp [natL]; omega)) ?_
        rw [drB_none, isNone_ok, lstB, wrap_next (n := 9) (by omega) (by omega)]
        cases okL M b l with
        | true => simp only [Bool.not_true, Bool.false_eq_true, if_false, if_true]; exact Ev.now _
        | false => simp only [Bool.not_false, if_true, Bool.false_eq_true, if_false]; exact ih (b + 1) (by omega)
    exact key 9 0 (by omega)
/-- Who looks farther back parks where others do. -/
theorem ok_mono {N : Nat} {l : List Int} (hl : ∀ a ∈ natL l, a < N) {b : Nat} (h : okL N b l = true) : okL N (b + 1) l = true := ParkT.back_mono (natL l) _ _ (ParkT.Dom.refl N _) hl h
theorem ok_monoN {N : Nat} {l : List Int} (hl : ∀ a ∈ natL l, a < N) {b : Nat} (h : okL N b l = true) : ∀ d, okL N (b + d) l = true
  | 0 => h
  | d + 1 => ok_mono hl (ok_monoN hl h d)
theorem natL_lt {N : Nat} {l : List Int} (h : ∀ j, j < l.length → 0 ≤ l.getD j 0 ∧ l.getD j 0 < (N : Int)) : ∀ a ∈ natL l, a < N := by
  intro a ha
  obtain ⟨x, hx, rfl⟩ := List.mem_map.1 ha
  obtain ⟨j, hj, rfl⟩ := List.getElem_of_mem hx
  have := h j hj
  rw [List.getD_eq_getElem?_getD, List.getElem?_eq_getElem hj] at this
  simp only [Option.getD_some] at this
  omega
theorem lstB_spec (f : Nat → Bool) (hm : ∀ b, f b = true → f (b + 1) = true) : ∀ (d b : Nat), (∀ c, c < b → f c = false) → ((lstB f d b).2 = true → ∀ c, c < b + d → f c = decide ((c : Int) ≥ (lstB f d b).1)) ∧ ((lstB f d b).2 = false → ∀ c, c < b + d → f c = false)
  | 0, b, h => by
    refine ⟨fun h2 => ?_, fun _ c hc => h c (by omega)⟩
    simp [lstB] at h2
  | d + 1, b, h => by
    rw [lstB]
    cases hf : f b with
    | true =>
      simp only [if_true]
      have hmm : ∀ e, f (b + e) = true := fun e => by
        induction e with
        | zero => exact hf
        | succ e ih => exact hm _ ih
      refine ⟨fun _ c hc => ?_, fun h2 => by cases h2⟩
      by_cases e : c < b
      · rw [h c e, decide_eq_false (by omega)]
      · have := hmm (c - b)
        rw [show b + (c - b) = c by omega] at this
        rw [this, decide_eq_true (by omega)]
    | false =>
      simp only [Bool.false_eq_true, if_false]
      have ih := lstB_spec f hm d (b + 1) (fun c hc => by
        by_cases e : c = b
        · rw [e]; exact hf
        · exact h c (by omega))
      exact ⟨fun h2 c hc => ih.1 h2 c (by omega), fun h2 c hc => ih.2 h2 c (by omega)⟩
/-- Cars that do not look back park as usual. -/
theorem zero_back {N : Nat} : ∀ (l : List Nat) (S : Nat → Bool), (∀ a ∈ l, a < N) → outB (ParkT.driveB N 0 S l) [] = (if allP N S l = true then (outP' N S l, true) else ([], false))
  | [], S, _ => by simp [ParkT.driveB, outB, allP, outP']
  | a :: l, S, h => by
    have ha := h a (by simp)
    have hb : ParkT.bplace N S 0 a = ParkT.fwdF S (N - a) a := by
      unfold ParkT.bplace
      rw [backF_zero]
      cases hs : S a with
      | true => simp
      | false =>
        obtain ⟨d, hd⟩ : ∃ d, N - a = d + 1 := ⟨N - a - 1, by omega⟩
        rw [hd, ParkT.fwdF]
        simp [hs]
    rw [ParkT.driveB, allP, outP', hb]
    cases hf : ParkT.fwdF S (N - a) a with
    | none => rfl
    | some p =>
      have ih := zero_back l (ParkT.put S p) (fun x hx => h x (by simp [hx]))
      simp only
      cases hd : ParkT.driveB N 0 (ParkT.put S p) l with
      | none =>
        rw [hd] at ih
        cases hA : allP N (ParkT.put S p) l with
        | true => rw [hA] at ih; simp [outB] at ih
        | false => rfl
      | some L =>
        rw [hd] at ih
        cases hA : allP N (ParkT.put S p) l with
        | true =>
          rw [hA] at ih
          simp only [outB, List.nil_append, if_true, Prod.mk.injEq, and_true] at ih
          simp [outB, ih]
        | false => rw [hA] at ih; simp [outB] at ih
theorem DriveCars_zero (l : List Int) (N : Int) : Ev (fun k => impl_DriveCars.f k l N) (dbV l N 0) := by
  unfold impl_DriveCars.f dbV
  simp only [fav_eq, Option.bind_some]
  cases h : goodB l N with
  | false => simp only [Bool.false_eq_true, if_false]; exact Ev.now _
  | true =>
    obtain ⟨M, rfl, h1, h2, h3, h4⟩ := good_parts h
    simp only [if_true, Int.toNat_natCast, show (0 : Int) ≤ 0 ∧ (0 : Int) ≤ 8 by omega, and_self, Int.toNat_zero]
    rw [zero_back _ _ (natL_lt h4)]
    exact Ev.bind (drive_ev l M (by omega) (by omega) (fun j hj => (h4 j hj).1)) (Ev.now _)
theorem power_ev (a e : Nat) (ha : a ≤ 6) (he : e ≤ 5) : Ev (fun k => impl_power.f k (a : Int) (e : Int)) ((a ^ e : Nat) : Int) := by
  unfold impl_power.f
  refine Ev.up0 e (fun q => ((a ^ q : Nat) : Int)) (fun k s q => impl_power.l0 k (a : Int) s (e : Int) q) ((a ^ e : Nat) : Int) (fun q hq h => Ev.one h fun k => ?_) (Ev.end_ fun k => ?_)
  · have h1 : a ^ (q + 1) ≤ 6 ^ (q + 1) := Nat.pow_le_pow_left ha _
    have h2 : 6 ^ (q + 1) ≤ 6 ^ 5 := Nat.pow_le_pow_right (by omega) (by omega)
    have h3 : (6 : Nat) ^ 5 = 7776 := by decide
    have hx : wrap64 (((a ^ q : Nat) : Int) * (a : Int)) = ((a ^ (q + 1) : Nat) : Int) := by
      rw [← Int.natCast_mul, show a ^ q * a = a ^ (q + 1) from (Nat.pow_succ ..).symm, wrap_id (by omega) (by omega)]
    rw [impl_power.l0, if_pos (by omega), hx, wrap_next (n := e) hq (by omega)]
  · rw [impl_power.l0, if_neg (by omega)]
theorem CountParking_ev (n : Nat) (h1 : 1 ≤ n) (h5 : n ≤ 5) : Ev (fun k => impl_CountParking.f k (n : Int)) ((((n + 1) ^ (n - 1) : Nat) : Int), true) := by
  unfold impl_CountParking.f impl_countParking.f impl_isCars.f
  simp only [between_eq, Option.bind_some, decide_eq_true (show 0 ≤ (n : Int) ∧ (n : Int) ≤ 8 by omega), if_true]
  have hm : mx (wrap64 ((n : Int) - 1)) 0 = ((n - 1 : Nat) : Int) := by
    rw [wrap_id (by omega) (by omega)]; unfold mx; split <;> omega
  have hw : wrap64 ((n : Int) + 1) = ((n + 1 : Nat) : Int) := by rw [wrap_id (by omega) (by omega)]; omega
  rw [hm, hw]
  exact Ev.bind (Ev.bind (power_ev (n + 1) (n - 1) (by omega) (by omega)) (Ev.now _)) (Ev.now _)
theorem count_ends : ([1, 2, 3, 4, 5].all fun n => cval n 0 (n ^ n) == (n + 1) ^ (n - 1) && cval n (n - 1) (n ^ n) == n ^ n) = true := by
  decide +kernel
theorem count_low {n : Nat} (h1 : 1 ≤ n) (h5 : n ≤ 5) : cval n 0 (n ^ n) = (n + 1) ^ (n - 1) ∧ cval n (n - 1) (n ^ n) = n ^ n := by
  have h := count_ends
  rw [List.all_eq_true] at h
  have := h n (by simp; omega)
  simpa using this
theorem cval_mono (n : Nat) (hn : 1 ≤ n) (b d : Nat) : ∀ j, cval n b j ≤ cval n (b + d) j
  | 0 => by simp [cval, sumTo]
  | j + 1 => by
    have ih := cval_mono n hn b d j
    rw [cval_succ, cval_succ]
    have hk : b2n (okB n b j) ≤ b2n (okB n (b + d) j) := by
      unfold b2n
      cases h : okB n b j with
      | false => simp
      | true =>
        have := ok_monoN (N := n) (l := digI n n j) (natL_lt (digI_get n (by omega) n j)) h d
        have e : okB n (b + d) j = true := this
        rw [e]; exact Nat.le_refl _
    omega
end Go.Proofs.Ytfclfjengfmjaaa.G
namespace Go.Proofs.Ytfclfjengfmjaaa.Pure
open Go.RowKit Go.Proofs.Ytfclfjengfmjaaa.G Go.Proofs.YtfclfjengfmjaaaW.PrintWords Go.Proofs.YtfclfjengfmjaaaW.PrintLast Go.Proofs.YtfclfjengfmjaaaW.PrintMore
set_option linter.unusedVariables false
set_option linter.unusedSimpArgs false
theorem cb_l1 (n b : Nat) (h1 : 1 ≤ n) (h5 : n ≤ 5) (hb : b ≤ 8) : ∀ (d q : Nat), q + d = n → Ev (fun k => laws_FnCarsThatLookBack.l1 k (n : Int) (b : Int) ((cval n b (n ^ n) : Nat) : Int) (((n + 1) ^ (n - 1) : Nat) : Int) true ((n ^ q : Nat) : Int) (q : Int)) true := by
  have hlow := count_low h1 h5
  have hp := pow_small h5 h5
  have hle := cval_le n b (n ^ n)
  intro d
  induction d with
  | zero =>
    intro q hd
    obtain rfl : q = n := by omega
    have hm0 := cval_mono q h1 0 b (q ^ q)
    rw [Nat.zero_add, hlow.1] at hm0
    have hb0 : b = 0 → cval q b (q ^ q) = (q + 1) ^ (q - 1) := fun e => by rw [e]; exact hlow.1
    have hbn : q - 1 ≤ b → cval q b (q ^ q) = q ^ q := fun e => by
      have := cval_mono q h1 (q - 1) (b - (q - 1)) (q ^ q)
      rw [hlow.2, show q - 1 + (b - (q - 1)) = b by omega] at this
      omega
    have hwn : wrap64 ((q : Int) - 1) = ((q - 1 : Nat) : Int) := by rw [wrap_id (by omega) (by omega)]; omega
    refine Ev.end_ fun k => ?_
    rw [laws_FnCarsThatLookBack.l1, if_neg (by omega), if_pos rfl, if_pos (by omega), if_pos (by omega), hwn]
    by_cases c : b = 0
    · have e0 := hb0 c
      rw [if_neg (by omega), if_pos (by omega)]
      by_cases c2 : (b : Int) < ((q - 1 : Nat) : Int)
      · rw [if_pos c2]
      · rw [if_neg c2, hbn (by omega)]
        simp
    · rw [if_pos (by omega)]
      by_cases c2 : (b : Int) < ((q - 1 : Nat) : Int)
      · rw [if_pos c2]
      · rw [if_neg c2, hbn (by omega)]
        simp
  | succ d ih =>
    intro q hd
    have h2 := pow_small h5 (show q + 1 ≤ 5 by omega)
    have hx : wrap64 (((n ^ q : Nat) : Int) * (n : Int)) = ((n ^ (q + 1) : Nat) : Int) := by
      rw [← Int.natCast_mul, show n ^ q * n = n ^ (q + 1) from (Nat.pow_succ ..).symm, wrap_id (by omega) (by omega)]
    refine Ev.one (ih (q + 1) (by omega)) fun k => ?_
    rw [laws_FnCarsThatLookBack.l1, if_pos (by omega), hx, wrap_next (n := n) (by omega) (by omega)]
theorem cb_j3 {m : List Int} (hb : Bytes m) : Ev (fun k => laws_FnCarsThatLookBack.j3 k m) true := by
  obtain ⟨n, b, he⟩ := DrawCountBack_ok hb
  refine Ev.step (f := fun k => (impl_CountBack.f k n b).bind fun bt689 => ((spec_CountBack.f k n b).bind fun bt691 => (if (bt689.2 != bt691.2) = true then (laws_FnCarsThatLookBack.j4 k n b bt689.1 bt689.2 true) else (laws_FnCarsThatLookBack.j4 k n b bt689.1 bt689.2 (bt689.1 != bt691.1))))) (fun k => by rw [laws_FnCarsThatLookBack.j3, he, Option.bind_some]) ?_
  refine Ev.bind (impl_CountBack_ev n b) (Ev.bind (spec_CountBack_ev n b) ?_)
  simp only [bne_self_eq_false, Bool.false_eq_true, if_false]
  unfold cbP
  by_cases h1 : 1 ≤ n ∧ n ≤ 5
  · by_cases h2 : 0 ≤ b ∧ b ≤ 8
    · obtain ⟨N, rfl⟩ : ∃ N : Nat, n = N := ⟨n.toNat, by omega⟩
      obtain ⟨c, rfl⟩ : ∃ c : Nat, b = c := ⟨b.toNat, by omega⟩
      simp only [h1, h2, and_self, if_true, Int.toNat_natCast]
      refine Ev.step (f := fun k => (impl_CountParking.f k (N : Int)).bind fun bt693 => (laws_FnCarsThatLookBack.l1 k (N : Int) (c : Int) ((cval N c (N ^ N) : Nat) : Int) bt693.1 bt693.2 1 0)) (fun k => by rw [laws_FnCarsThatLookBack.j4, if_neg (by decide), if_pos rfl]) ?_
      refine Ev.bind (CountParking_ev N (by omega) (by omega)) ?_
      exact cb_l1 N c (by omega) (by omega) (by omega) N 0 (by omega)
    · simp only [h1, h2, and_self, if_true, if_false]
      exact Ev.end_ fun k => by rw [laws_FnCarsThatLookBack.j4, if_neg (by decide), if_neg (by decide)]
  · simp only [h1, if_false]
    exact Ev.end_ fun k => by rw [laws_FnCarsThatLookBack.j4, if_neg (by decide), if_neg (by decide)]
theorem cb_l0 {m l : List Int} {N : Int} (hm : Bytes m) (hl : l.length ≤ 1000) (hg : goodB l N = true) : ∀ (d b : Nat), b + d = 9 → Ev (fun k => laws_FnCarsThatLookBack.l0 k m l N (lbV l N).1 (lbV l N).2 (b : Int)) true := by
  obtain ⟨M, rfl, h1, h2, h3, h4⟩ := good_parts hg
  have hs := lstB_spec (fun b => okL M b l) (fun b h => ok_mono (natL_lt h4) h) 9 0 (fun c hc => by omega)
  have hlb : lbV l (M : Int) = lstB (fun b => okL M b l) 9 0 := by
    unfold lbV
    rw [if_pos hg, Int.toNat_natCast]
  intro d
  induction d with
  | zero =>
    intro b hb
    refine Ev.step (f := fun k => (impl_DriveCars.f k l (M : Int)).bind fun bt678 => ((impl_DriveBack.f k l (M : Int) 0).bind fun bt682 => (if (bt678.2 != bt682.2) = true then (some false) else ((laws_jSame.f k bt678.1 bt682.1).bind fun t686 => (if t686 = true then (laws_FnCarsThatLookBack.j3 k m) else (some false)))))) (fun k => by rw [laws_FnCarsThatLookBack.l0, if_neg (by omega)]) ?_
    refine Ev.bind (DriveCars_zero l (M : Int)) (Ev.bind (impl_DriveBack_ev l (M : Int) 0) ?_)
    have := dbV_len l (M : Int) 0
    simp only [bne_self_eq_false, Bool.false_eq_true, if_false]
    refine Ev.bind (jSame_ev _ (by omega)) ?_
    simp only [if_true]
    exact cb_j3 hm
  | succ d ih =>
    intro b hb
    have hdp : dpV l (M : Int) (b : Int) = (okL M b l, true) := by
      unfold dpV
      rw [if_pos hg, if_pos (by omega), Int.toNat_natCast, Int.toNat_natCast]
    have h0 := ih (b + 1) (by omega)
    refine Ev.step (f := fun k => (impl_DoParkBack.f k l (M : Int) (b : Int)).bind fun bt676 => (if bt676.2 = true then (if (lbV l (M : Int)).2 = true then (if (bt676.1 != (decide ((b : Int) ≥ (lbV l (M : Int)).1))) = true then (some false) else (laws_FnCarsThatLookBack.l0 k m l (M : Int) (lbV l (M : Int)).1 (lbV l (M : Int)).2 (wrap64 ((b : Int) + 1)))) else (if (bt676.1 != false) = true then (some false) else (laws_FnCarsThatLookBack.l0 k m l (M : Int) (lbV l (M : Int)).1 (lbV l (M : Int)).2 (wrap64 ((b : Int) + 1))))) else (some false))) (fun k => by rw [laws_FnCarsThatLookBack.l0, if_pos (by omega)]) ?_
    refine Ev.bind (impl_DoParkBack_ev l (M : Int) (b : Int)) ?_
    rw [hdp, wrap_next (n := 9) (by omega) (by omega)]
    simp only [if_true]
    cases h2 : (lbV l (M : Int)).2 with
    | true =>
      rw [h2] at h0
      rw [hlb] at h2
      have e : okL M b l = decide ((b : Int) ≥ (lbV l (M : Int)).1) := by
        rw [hlb]
        exact hs.1 h2 b (by omega)
      simp only [if_true, e, bne_self_eq_false, Bool.false_eq_true, if_false]
      exact h0
    | false =>
      rw [h2] at h0
      rw [hlb] at h2
      have e : okL M b l = false := hs.2 h2 b (by omega)
      simp only [e, bne_self_eq_false, Bool.false_eq_true, if_false]
      exact h0
theorem FnCarsThatLookBack : laws_FnCarsThatLookBack.Pure := by
  intro l0 l1 _ _ hw0 _ _ hw1
  refine Ev.rounds ?_
  unfold laws_FnCarsThatLookBack.f
  have hm := bytes_of hw1
  obtain ⟨r, hr⟩ := big_eq l0 l1
  simp only [hr, Option.bind_some]
  cases r with
  | true => simp only [if_true]; exact Ev.now _
  | false =>
    simp only [Bool.false_eq_true, if_false]
    obtain ⟨l, N, b, he, hl⟩ := DrawDriveBack_ok (bytes_of hw0)
    have hlen := dbV_len l N b
    refine Ev.bind he ?_
    refine Ev.bind (impl_DriveBack_ev l N b) ?_
    refine Ev.bind (spec_DriveBack_ev l N b (by omega)) ?_
    refine Ev.bind (impl_DoParkBack_ev l N b) ?_
    refine Ev.bind (spec_DoParkBack_ev l N b (by omega)) ?_
    simp only [bne_self_eq_false, Bool.false_eq_true, if_false]
    refine Ev.bind (jSame_ev _ (by omega)) ?_
    simp only [if_true]
    have e1 : ((dbV l N b).2 != (dpV l N b).1) = false := by
      unfold dbV dpV
      split
      · split
        · rw [outB_ok]; unfold okL; simp
        · rfl
      · rfl
    rw [e1]
    refine Ev.step (f := fun k => (impl_LeastBack.f k l N).bind fun bt671 => ((spec_LeastBack.f k l N).bind fun bt673 => (if (bt671.2 != bt673.2) = true then (laws_FnCarsThatLookBack.j1 k l1 l N bt671.1 bt671.2 true) else (laws_FnCarsThatLookBack.j1 k l1 l N bt671.1 bt671.2 (bt671.1 != bt673.1))))) (fun k => by rw [laws_FnCarsThatLookBack.j0, if_neg (by decide)]) ?_
    refine Ev.bind (impl_LeastBack_ev l N) (Ev.bind (spec_LeastBack_ev l N (by omega)) ?_)
    simp only [bne_self_eq_false, Bool.false_eq_true, if_false]
    refine Ev.step (f := fun k => if goodB l N = true then (laws_FnCarsThatLookBack.l0 k l1 l N (lbV l N).1 (lbV l N).2 0) else (laws_FnCarsThatLookBack.j3 k l1)) (fun k => by rw [laws_FnCarsThatLookBack.j1, if_neg (by decide), fav_eq, Option.bind_some]) ?_
    cases hg : goodB l N with
    | true => simp only [if_true]; exact cb_l0 hm (by omega) hg 9 0 (by omega)
    | false => simp only [Bool.false_eq_true, if_false]; exact cb_j3 hm
end Go.Proofs.Ytfclfjengfmjaaa.Pure
namespace Go.Proofs.YtfclfjengfmjaaaW.PrintWords
open Go.ChangeShapes Go.WideShapes
theorem sized_ints {H : Type} {enc : TypeId × Value → H} {P : Program} {W : World} {base : Nat} {spare : Nat → Bool} {held : Bool} {t e : TypeId} {k : IntKind} {a : Option Addr} {len cap : Nat} {d : DataW H} {ps : List MemPlace} {ts : List TypeId} {ds : List (DataW H)} {j : Nat}
    (hsz : (DataW.weightsEach P ts ds).all (· ≤ reachBytes) = true) (ht : ts[j]? = some t) (hd : ds[j]? = some d) (hu : P.underlying t = some (.slice e)) (he : P.underlying e = some (.int k)) (hc : P.cellsOf e = 1) {B : Nat} (hB : P.bytesOf e = B)
    (h : DataW.Trod enc P W base spare held t (.slice a len cap) d ps) : len * B ≤ 140737488351232 := by
  obtain ⟨fuel, hf⟩ := h
  rcases open_ints hu he hc hf with ⟨hcs, _⟩ | ⟨x, l, c, zs, hcs, _, hl, _, hz, hx, _, _⟩
  · simp [Value.cells] at hcs
    obtain ⟨rfl, rfl, rfl⟩ := hcs
    simp
  · simp [Value.cells] at hcs
    obtain ⟨rfl, rfl, rfl⟩ := hcs
    obtain ⟨hx, _⟩ := Prod.mk.inj hx
    subst hx
    have z := sized_slice hsz ht hd hu
    rw [hB] at z
    have hl2 : len ≤ zs.length := by
      rw [hz]
      split
      · exact hl
      · exact Nat.le_refl _
    have h1 : (lits (H := H) k (zs.take len)).length + (lits (H := H) k (zs.drop len)).length = zs.length := by
      simp [lits]
      omega
    rw [h1] at z
    exact Nat.le_trans (Nat.mul_le_mul_right _ hl2) z
end Go.Proofs.YtfclfjengfmjaaaW.PrintWords
namespace Go.Proofs.Ytfclfjengfmjaaa.fnCarsThatLookBack
open Go.ChangeShapes Go.WideShapes Go.ChangeAt Go.RowKit
open Go.ChangeMaps (open_string shut_string)
set_option linter.unusedVariables false
theorem own : ownKnob Try.prog.godebug = none := by kernel_rfl
theorem laidOut : laidOutB Try.prog = true := by kernel_rfl
def IsRow (k : IntKind) (w : World) (a : Option Addr) (len cap : Nat) (zs : List Int) : Prop :=
  (a = none ∧ len = 0 ∧ cap = 0 ∧ zs = []) ∨
  ∃ x, a = some x ∧ len ≤ cap ∧ cap ≤ maxLen ∧ zs.length = cap ∧ (∀ i, i < zs.length → w.cell? (x.add i) = some (.int k (zs.getD i 0))) ∧ ∀ n ∈ zs, (Lit.int k n).wf = true
set_option maxRecDepth 100000 in
theorem lifted (os : Os) (started : os.Started) (H : Type) (enc : TypeId × Value → H) :
    ReturnsInHanded {} Try.checked os 8 .any (Rows.fnCarsThatLookBackSpec.pre6 enc Try.prog Try.f8 Rows.fnCarsThatLookBackRow.domain false) (Rows.fnCarsThatLookBackSpec.post enc Try.prog Try.f8 false true false false) := by
  refine returnsInHanded_of_change_sized (C := Try.checked) own started (by kernel_rfl) Try.func8
    (ChangeSpec.witness6 (enc := enc) (C := Try.checked) false ⟨#[], #[.slice none 0 0, .slice none 0 0], []⟩ 8 (by kernel_rfl) (by kernel_rfl) (by kernel_rfl) (by kernel_rfl)) ?_
  intro W base args ds gs before hval0 hW hcnd hsz0 _
  have hsz : (DataW.weightsEach Try.prog (Try.f8.params.toList ++ Rows.fnCarsThatLookBackSpec.plain.varTypes Try.prog) (ds ++ gs)).all (· ≤ reachBytes) = true := hsz0
  have hval : ∀ (j : Nat) t v, Try.f8.params[j]? = some t → args[j]? = some v → Value.okWide Try.prog W .any base t v := hval0
  have hW' := hW
  obtain ⟨p, q, hA0, hV, rfl, hfz, hnd⟩ := hW
  have hA : DataW.TrodAll enc Try.prog W 0 (fun _ => true) true Try.f8.params.toList args.toList ds p := hA0
  rw [Try.params8] at hA hval hsz
  obtain ⟨v0, vs0, d0, ds0, p0, q0, hargs, rfl, rfl, h0, r0⟩ := trodAll_cons hA
  obtain ⟨v1, vs1, d1, ds1, p1, q1, rfl, rfl, rfl, h1, r1⟩ := trodAll_cons r0
  obtain ⟨rfl, rfl, rfl⟩ := trodAll_nil r1
  obtain rfl : args = #[v0, v1] := by cases args; simp_all
  obtain ⟨rfl, rfl⟩ := trodVars_none hV
  obtain ⟨a0, len0, cap0, rfl⟩ := okWide_slice Try.underlying28 (hval 0 28 v0 rfl rfl)
  have k0 := h0
  have lt0 : ∀ x ∈ p0, x.block < W.heap.size := by obtain ⟨m, hm⟩ := k0; exact DataW.trod_lt m _ _ _ hm
  obtain ⟨z0, w0⟩ : ∃ zs, IsRow .u8 W a0 len0 cap0 zs := by
    obtain ⟨fuel, hf⟩ := h0
    rcases open_ints Try.underlying28 Try.underlying5 (by kernel_rfl) hf with ⟨hcs, _⟩ | ⟨x, l, c, zs, hcs, _, hl, hm, hz, _, hcell, hwz⟩
    · simp [Value.cells] at hcs
      obtain ⟨rfl, rfl, rfl⟩ := hcs
      exact ⟨[], .inl ⟨rfl, rfl, rfl, rfl⟩⟩
    · simp [Value.cells] at hcs
      obtain ⟨rfl, rfl, rfl⟩ := hcs
      exact ⟨zs, .inr ⟨_, rfl, hl, hm, by simpa using hz, hcell, hwz⟩⟩
  have y0 : len0 * 1 ≤ 140737488351232 := Go.Proofs.YtfclfjengfmjaaaW.PrintWords.sized_ints hsz (j := 0) (t := 28) rfl rfl Try.underlying28 Try.underlying5 (by kernel_rfl) (by kernel_rfl) h0
  obtain ⟨a1, len1, cap1, rfl⟩ := okWide_slice Try.underlying28 (hval 1 28 v1 rfl rfl)
  have k1 := h1
  have lt1 : ∀ x ∈ p1, x.block < W.heap.size := by obtain ⟨m, hm⟩ := k1; exact DataW.trod_lt m _ _ _ hm
  obtain ⟨z1, w1⟩ : ∃ zs, IsRow .u8 W a1 len1 cap1 zs := by
    obtain ⟨fuel, hf⟩ := h1
    rcases open_ints Try.underlying28 Try.underlying5 (by kernel_rfl) hf with ⟨hcs, _⟩ | ⟨x, l, c, zs, hcs, _, hl, hm, hz, _, hcell, hwz⟩
    · simp [Value.cells] at hcs
      obtain ⟨rfl, rfl, rfl⟩ := hcs
      exact ⟨[], .inl ⟨rfl, rfl, rfl, rfl⟩⟩
    · simp [Value.cells] at hcs
      obtain ⟨rfl, rfl, rfl⟩ := hcs
      exact ⟨zs, .inr ⟨_, rfl, hl, hm, by simpa using hz, hcell, hwz⟩⟩
  have y1 : len1 * 1 ≤ 140737488351232 := Go.Proofs.YtfclfjengfmjaaaW.PrintWords.sized_ints hsz (j := 1) (t := 28) rfl rfl Try.underlying28 Try.underlying5 (by kernel_rfl) (by kernel_rfl) h1
  clear hA0 hval0 hsz0 hsz
  refine (G.laws_FnCarsThatLookBack.walk Pure.FnCarsThatLookBack a0 len0 cap0 z0 a1 len1 cap1 z1 W w0 y0 w1 y1).mono fun e W' ⟨he, bel⟩ => ?_
  subst he
  exact ⟨_, rfl, _, _, _, [], _, [], hW', trodAll_mk1 (shut_bool Try.underlying4 _), (trodAll_cons_mk (Below.trod laidOut (by kernel_rfl) (of_decide_eq_true (by kernel_rfl)) k0 bel lt0) (trodAll_cons_mk (Below.trod laidOut (by kernel_rfl) (of_decide_eq_true (by kernel_rfl)) k1 bel lt1) trodAll_mk0)), rfl, bel.frame _, fun h => by cases h⟩
theorem over : Rows.fnCarsThatLookBackRow.holds Try.pinned (OpenSpec.ofChange Rows.fnCarsThatLookBackSpec) :=
  OpenClaim.holds_of_wide 8 Try.f8 rfl rfl rfl rfl rfl rfl rfl ⟨rfl, rfl, rfl, rfl, rfl⟩ rfl rfl rfl rfl rfl (by kernel_rfl) Try.func8 (by kernel_rfl)
    (of_decide_eq_true (by kernel_rfl)) (by unfold Func.isWrapper; first | (rw [if_pos (by decide +kernel)]; kernel_rfl) | (rw [if_neg (by decide +kernel)]; exact ⟨rfl, rfl⟩))
    (fun os started H enc _ => lifted os started H enc)
theorem proved : Rows.FnCarsThatLookBackSaid := over
#print axioms proved
end Go.Proofs.Ytfclfjengfmjaaa.fnCarsThatLookBack
namespace Go.Proofs.Ytfclfjengfmjaaa
/-- The row, under a short name, for the claim. -/
theorem fnCarsThatLookBack_holds : Rows.FnCarsThatLookBackSaid := fnCarsThatLookBack.proved
end Go.Proofs.Ytfclfjengfmjaaa
