/- The law FnDefects: part 5 of the printed functions and the facts on them that its row leans on (merged by this session's slim.py). -/
import Derived.Test.YtfclfjengfmjaaaZFnDefects4
namespace Go.Proofs.Ytfclfjengfmjaaa.G
open Go.RowKit Go.Proofs.YtfclfjengfmjaaaW.PrintWords Go.Proofs.YtfclfjengfmjaaaW.PrintLast Go.Proofs.YtfclfjengfmjaaaW.PrintMore
set_option linter.unusedVariables false
set_option linter.unusedSimpArgs false
theorem some_l0 (l : List Int) (N : Nat) (hN : N ≤ 1000) (hl : l.length ≤ 900) (hr : ∀ j, j < l.length → 0 ≤ l.getD j 0 ∧ l.getD j 0 ≤ N) : ∀ (d i : Nat) (x : List Bool) (o : List Int), i + d = l.length → x.length = N → o.length ≤ i → Ev (fun k => impl_driveSome.l0 k (N : Int) x o l (l.length : Int) (i : Int)) (o ++ (ParkT.driveS N (taken x) (natL (l.drop i))).map valP) := by
  intro d
  induction d with
  | zero =>
    intro i x o hd hx ho
    refine Ev.end_ fun k => ?_
    rw [impl_driveSome.l0, if_neg (by omega), List.drop_eq_nil_of_le (by omega)]
    simp [natL, ParkT.driveS]
  | succ d ih =>
    intro i x o hd hx ho
    have hi : i < l.length := by omega
    have hri := hr i hi
    obtain ⟨a, ha⟩ : ∃ a : Nat, l.getD i 0 = a := ⟨(l.getD i 0).toNat, by omega⟩
    refine Ev.one (f := fun k => impl_driveSome.l1 k (N : Int) x o (a : Int) l (l.length : Int) (i : Int)) ?_ fun k => by rw [impl_driveSome.l0, if_pos (by omega), if_pos (by omega), if_pos (by omega), rd_nat, ha]
    have e0 : natL (l.drop i) = a :: natL (l.drop (i + 1)) := by
      rw [drop_getD hi, ha]
      show (a : Int).toNat :: natL (l.drop (i + 1)) = _
      rw [Int.toNat_natCast]
    rw [e0, ParkT.driveS]
    refine some_l1 N hN x hx o l (by omega) _ _ _ (N - a) a (by omega) ?_
    cases hf : ParkT.fwdF (taken x) (N - a) a with
    | none =>
      simp only
      rw [wrap_next (n := l.length) hi (by omega)]
      have := ih (i + 1) x (o ++ [-1]) (by omega) hx (by simp; omega)
      simpa [valP] using this
    | some p =>
      have hp := ParkT.fwdF_some hf
      simp only
      rw [wrap_next (n := l.length) hi (by omega)]
      have := ih (i + 1) (x.set p true) (o ++ [(p : Int)]) (by omega) (by simpa using hx) (by simp; omega)
      rw [taken_set (by omega)] at this
      simpa [valP] using this
/-- The place of each car, -1 for those that fail. -/
def plsS (N : Nat) (l : List Int) : List Int := (ParkT.driveS N (fun _ => false) (natL l)).map valP
theorem driveS_len (N : Nat) : ∀ (l : List Nat) (S : Nat → Bool), (ParkT.driveS N S l).length = l.length
  | [], _ => rfl
  | a :: l, S => by
    rw [ParkT.driveS]
    cases ParkT.fwdF S (N - a) a <;> simp [driveS_len N l]
theorem plsS_len (N : Nat) (l : List Int) : (plsS N l).length = l.length := by
  unfold plsS
  rw [List.length_map, driveS_len]
  simp [natL]
theorem driveSome_ev (l : List Int) (N : Nat) (hN : N ≤ 1000) (hl : l.length ≤ 900) (hr : ∀ j, j < l.length → 0 ≤ l.getD j 0 ∧ l.getD j 0 ≤ N) : Ev (fun k => impl_driveSome.f k l (N : Int)) (plsS N l) := by
  unfold impl_driveSome.f
  simp only [show (0 : Int) ≤ (N : Int) by omega, Int.toNat_natCast, show N ≤ 281474976710656 by omega, if_true]
  have := some_l0 l N hN hl hr l.length 0 (List.replicate N false) [] (by omega) (by simp) (by simp)
  rw [taken_none] at this
  simpa [plsS] using this
/-- How many cars fail. -/
def defI (N : Nat) (l : List Int) : Nat := (plsS N l).countP negP
theorem impl_defect_ev (l : List Int) (N : Nat) (hN : N ≤ 1000) (hl : l.length ≤ 900) (hr : ∀ j, j < l.length → 0 ≤ l.getD j 0 ∧ l.getD j 0 ≤ N) : Ev (fun k => impl_defect.f k l (N : Int)) ((defI N l : Nat) : Int) := by
  unfold impl_defect.f
  exact Ev.bind (driveSome_ev l N hN hl hr) (Ev.now _)
theorem loDefect_l0 (R : List Int) (hR : R.length ≤ 1000) : Ev (fun k => spec_loDefect.l0 k 0 R (R.length : Int) 0) ((R.countP negP : Nat) : Int) := by
  have := Ev.up0 R.length (fun q => ((R.take q).countP negP : Nat)) (fun k (s : Nat) q => spec_loDefect.l0 k (s : Int) R (R.length : Int) q) ((R.countP negP : Nat) : Int) (fun q hq h => Ev.one h fun k => ?_) (Ev.end_ fun k => ?_)
  · simpa using this
  · have hs := countP_snoc negP R q hq
    have hle : (R.take q).countP negP ≤ q := Nat.le_trans List.countP_le_length (by simp; omega)
    rw [spec_loDefect.l0, if_pos (by omega), if_pos (by omega), if_pos (by omega), rd_nat, wrap_next (n := R.length) hq (by omega), hs]
    by_cases hn : R.getD q 0 < 0
    · have e : negP (R.getD q 0) = true := decide_eq_true hn
      rw [if_pos hn, if_pos e, wrap_id (by omega) (by omega)]
    · have e : negP (R.getD q 0) = false := decide_eq_false hn
      rw [if_neg hn, if_neg (by rw [e]; decide), Int.add_zero]
  · rw [spec_loDefect.l0, if_neg (by omega), List.take_length]
theorem loDefect_ev (l : List Int) (N : Nat) (hN : N ≤ 1000) (hl : l.length ≤ 900) (hr : ∀ j, j < l.length → 0 ≤ l.getD j 0 ∧ l.getD j 0 ≤ N) : Ev (fun k => spec_loDefect.f k l (N : Int)) ((defI N l : Nat) : Int) := by
  unfold spec_loDefect.f defI
  have h := paDrive_ev l N hN hl hr
  refine Ev.bind h ?_
  exact loDefect_l0 (plsS N l) (by rw [plsS_len]; omega)
theorem neg_fails : ∀ (L : List (Option Nat)), (L.map valP).countP negP = ParkT.fails L
  | [] => rfl
  | none :: L => by
    rw [List.map_cons, List.countP_cons, neg_fails L, ParkT.fails_cons_none]; rfl
  | some p :: L => by
    have : negP (valP (some p)) = false := decide_eq_false (by simp only [valP]; omega)
    rw [List.map_cons, List.countP_cons, neg_fails L, ParkT.fails_cons_some, this]; rfl
theorem fails_le : ∀ (L : List (Option Nat)), ParkT.fails L ≤ L.length := fun L => by unfold ParkT.fails; exact List.length_filter_le _ _
/-- The first car parks. -/
theorem defI_lt (N : Nat) (l : List Int) (hl : 0 < l.length) (h0 : 0 ≤ l.getD 0 0 ∧ l.getD 0 0 < N) : defI N l < l.length := by
  unfold defI plsS
  rw [neg_fails]
  cases l with
  | nil => simp at hl
  | cons x l =>
    simp only [List.getD_cons_zero] at h0
    have hx : x.toNat < N := by omega
    show ParkT.fails (ParkT.driveS N (fun _ => false) (x.toNat :: natL l)) < _
    rw [ParkT.driveS]
    have hf : ParkT.fwdF (fun _ => false) (N - x.toNat) x.toNat = some x.toNat := by
      obtain ⟨d, hd⟩ : ∃ d, N - x.toNat = d + 1 := ⟨N - x.toNat - 1, by omega⟩
      rw [hd, ParkT.fwdF, if_pos rfl]
    rw [hf, ParkT.fails_cons_some]
    have := fails_le (ParkT.driveS N (ParkT.put (fun _ => false) x.toNat) (natL l))
    rw [driveS_len] at this
    simp only [natL, List.length_map] at this
    simp only [List.length_cons]
    exact Nat.lt_succ_of_le this
/-- How many of the first j lists have each defect. -/
def dval (n : Nat) : Nat → List Int
  | 0 => List.replicate n 0
  | j + 1 => (dval n j).set (defI n (digI n n j)) (wrap64 (rd (dval n j) (defI n (digI n n j) : Nat) + 1))
theorem dval_len (n : Nat) : ∀ j, (dval n j).length = n
  | 0 => by simp [dval]
  | j + 1 => by rw [dval, List.length_set, dval_len n j]
theorem def_lt (n j : Nat) (hn : 1 ≤ n) : defI n (digI n n j) < n := by
  have hl := digI_len n n j
  have h := defI_lt n (digI n n j) (by omega) (digI_get n (by omega) n j 0 (by omega))
  omega
theorem dig_le (n j : Nat) (hn : 1 ≤ n) (q : Nat) (hq : q < (digI n n j).length) : 0 ≤ (digI n n j).getD q 0 ∧ (digI n n j).getD q 0 ≤ (n : Int) := by
  have := digI_get n (by omega) n j q hq
  omega
theorem cntD_ev (n : Nat) (hn : 1 ≤ n) (hn5 : n ≤ 5) : ∀ j, Ev (fun k => cntD k n j) (dval n j)
  | 0 => Ev.eq fun k => rfl
  | j + 1 => by
    have hd := impl_defect_ev (digI n n j) n (by omega) (by rw [digI_len]; omega) (dig_le n j hn)
    have hlt := def_lt n j hn
    refine Ev.same (f := fun k => (cntD k n j).bind fun o => (impl_defect.f k (digI n n j) (n : Int)).bind fun d => if 0 ≤ d ∧ d < (n : Int) then some (o.set d.toNat (wrap64 (rd o d + 1))) else none) (fun k => rfl) ?_
    refine Ev.bind (cntD_ev n hn hn5 j) (Ev.bind hd ?_)
    simp only [show (0 : Int) ≤ ((defI n (digI n n j) : Nat) : Int) ∧ ((defI n (digI n n j) : Nat) : Int) < (n : Int) from ⟨by omega, by omega⟩, and_self, if_true, Int.toNat_natCast]
    exact Ev.now _
theorem spec_CBD_l0 (n : Nat) (hn : 1 ≤ n) (hn5 : n ≤ 5) (LL : List (List Int)) (hL : LL = (List.range (n ^ n)).map fun j => digI n n j) : ∀ (d j : Nat), j + d = n ^ n → Ev (fun k => spec_CountByDefect.l0 k (n : Int) (dval n j) LL (LL.length : Int) (j : Int)) (dval n (n ^ n), true) := by
  have hlen : LL.length = n ^ n := by rw [hL]; simp
  have hM := pow_small hn5 hn5
  intro d
  induction d with
  | zero =>
    intro j hd
    obtain rfl : j = n ^ n := by omega
    refine Ev.end_ fun k => ?_
    rw [spec_CountByDefect.l0, if_neg (by omega)]
  | succ d ih =>
    intro j hd
    have hrd : rd_L3 LL (j : Int) = digI n n j := by
      unfold rd_L3
      rw [Int.toNat_natCast, hL, List.getD_eq_getElem?_getD, List.getElem?_map, List.getElem?_range (by omega)]; rfl
    have hlt := def_lt n j hn
    have hdl := dval_len n j
    refine Ev.step (f := fun k => (spec_loDefect.f k (digI n n j) (n : Int)).bind fun t485 => (if 0 ≤ t485 then (if t485 < ((dval n j).length : Int) then (spec_CountByDefect.l0 k (n : Int) ((dval n j).set (t485 : Int).toNat (wrap64 ((rd (dval n j) t485) + 1))) LL (LL.length : Int) (wrap64 ((j : Int) + 1))) else (none)) else (none))) (fun k => by
      rw [spec_CountByDefect.l0, if_pos (by omega), if_pos (by omega), if_pos (by omega), hrd]) ?_
    refine Ev.bind (loDefect_ev (digI n n j) n (by omega) (by rw [digI_len]; omega) (dig_le n j hn)) ?_
    simp only [show (0 : Int) ≤ ((defI n (digI n n j) : Nat) : Int) by omega, show ((defI n (digI n n j) : Nat) : Int) < ((dval n j).length : Int) by omega, if_true, Int.toNat_natCast]
    rw [wrap_next (n := n ^ n) (by omega) (by omega)]
    exact ih (j + 1) (by omega)
def cdP (a0 : Int) : List Int × Bool := if 1 ≤ a0 ∧ a0 ≤ 5 then (dval a0.toNat (a0.toNat ^ a0.toNat), true) else ([], false)
theorem cdP_len (a0 : Int) : (cdP a0).1.length ≤ 5 := by
  unfold cdP
  split
  · rw [dval_len]; omega
  · simp
theorem impl_CountByDefect_ev (a0 : Int) : Ev (fun k => impl_CountByDefect.f k a0) (cdP a0) := by
  unfold impl_CountByDefect.f cdP
  simp only [isTried_eq, Option.bind_some, decide_eq_true_eq]
  by_cases h1 : 1 ≤ a0 ∧ a0 ≤ 5
  · simp only [h1, and_self, if_true]
    exact Ev.bind (cntD_ev a0.toNat (by omega) (by omega) _) (Ev.now _)
  · simp only [h1, if_false]; exact Ev.now _
theorem spec_CountByDefect_ev (a0 : Int) : Ev (fun k => spec_CountByDefect.f k a0) (cdP a0) := by
  unfold spec_CountByDefect.f cdP
  simp only [l1In_eq, Option.bind_some, decide_eq_true_eq]
  by_cases h1 : 1 ≤ a0 ∧ a0 ≤ 5
  · simp only [h1, and_self, if_true, show (0 : Int) ≤ a0 by omega, show a0.toNat ≤ 35184372088832 by omega]
    obtain ⟨n, rfl⟩ : ∃ n : Nat, a0 = n := ⟨a0.toNat, by omega⟩
    refine Ev.bind (loAll_ev n (by omega) n [] (by simp)) ?_
    rw [Int.toNat_natCast]
    exact spec_CBD_l0 n (by omega) (by omega) _ (by rw [allL_eq n (by omega)]; simp) (n ^ n) 0 (by omega)
  · simp only [h1, if_false]; exact Ev.now _
theorem most_eq (a b : Int) : spec_l1Most.f a b = some (if a > b then a else b) := by
  unfold spec_l1Most.f
  split <;> rfl
theorem favs_l1 {l : List Int} (hb : Bytes l) (N : Int) : ∀ (d : Nat) (x : List Int) (p s : Int), x.length + d = 9 → 0 ≤ p → p + 4 * d ≤ 1000000000000000 →
    ∃ out p' s', Ev (fun k => spec_l1Cur_favourites.l1 k N x l p s) (out, N, p', s') ∧ out.length ≤ 9 ∧ p ≤ p' ∧ p' ≤ p + 4 * d + 4 := by
  intro d
  induction d with
  | zero =>
    intro x p s hd h0 h1
    obtain ⟨r, p1, s1, e1, b1, b2, b3, b4⟩ := pick_ok hb p s 2 h0 (by omega)
    refine ⟨x, p1, s1, Ev.end_ fun k => ?_, by omega, by omega, by omega⟩
    rw [spec_l1Cur_favourites.l1, e1, Option.bind_some]
    simp only
    rw [wrap_id (x := 8 + r) (by omega) (by omega), if_neg (by omega)]
  | succ d ih =>
    intro x p s hd h0 h1
    obtain ⟨r, p1, s1, e1, b1, b2, b3, b4⟩ := pick_ok hb p s 2 h0 (by omega)
    by_cases c : (x.length : Int) < 8 + r
    · obtain ⟨v, p2, s2, e2, b5, b6, b7, b8⟩ := pick_ok hb p1 s1 N (by omega) (by omega)
      obtain ⟨out, p', s', he, ho, a1, a2⟩ := ih (x ++ [v]) p2 s2 (by simp; omega) (by omega) (by omega)
      refine ⟨out, p', s', Ev.one he fun k => ?_, ho, by omega, by omega⟩
      rw [spec_l1Cur_favourites.l1, e1, Option.bind_some]
      simp only
      rw [wrap_id (x := 8 + r) (by omega) (by omega), if_pos c, e2, Option.bind_some, if_pos (by omega)]
    · refine ⟨x, p1, s1, Ev.end_ fun k => ?_, by omega, by omega, by omega⟩
      rw [spec_l1Cur_favourites.l1, e1, Option.bind_some]
      simp only
      rw [wrap_id (x := 8 + r) (by omega) (by omega), if_neg c]
theorem favs_l0 {l : List Int} (hb : Bytes l) (N : Int) : ∀ (d : Nat) (x : List Int) (p s : Int), x.length + d ≤ 8 → 0 ≤ p → p + 4 * d ≤ 100000000000 →
    ∃ out M p' s', Ev (fun k => spec_l1Cur_favourites.l0 k N x (d : Int) l p s) (out, M, p', s') ∧ out.length ≤ 9 ∧ p ≤ p' ∧ p' ≤ p + 4 * d + 50 := by
  intro d
  induction d with
  | zero =>
    intro x p s hd h0 h1
    obtain ⟨r, p1, s1, e1, b1, b2, b3, b4⟩ := pick_ok hb p s 20 h0 (by omega)
    by_cases c0 : r = 0
    · obtain ⟨v, p2, s2, e2, b5, b6⟩ := among_ok hb p1 s1 [-1, N, 0, 4611686018427387904] (by simp) (by omega) (by omega)
      refine ⟨x ++ [v], N, p2, s2, Ev.end_ fun k => ?_, by simp; omega, by omega, by omega⟩
      rw [spec_l1Cur_favourites.l0, if_neg (by omega), e1, Option.bind_some]
      simp only
      rw [if_pos c0, e2, Option.bind_some, if_pos (by omega)]
    · by_cases c1 : r = 1
      · obtain ⟨out, p', s', he, ho, a1, a2⟩ := favs_l1 hb N (9 - x.length) x p1 s1 (by omega) (by omega) (by omega)
        refine ⟨out, N, p', s', Ev.one he fun k => ?_, ho, by omega, by omega⟩
        rw [spec_l1Cur_favourites.l0, if_neg (by omega), e1, Option.bind_some]
        simp only
        rw [if_neg c0, if_pos c1]
      · by_cases c2 : r = 2
        · obtain ⟨v, p2, s2, e2, b5, b6⟩ := among_ok hb p1 s1 [0, -1, 12, 13] (by simp) (by omega) (by omega)
          refine ⟨x, v, p2, s2, Ev.end_ fun k => ?_, by omega, by omega, by omega⟩
          rw [spec_l1Cur_favourites.l0, if_neg (by omega), e1, Option.bind_some]
          simp only
          rw [if_neg c0, if_neg c1, if_pos c2, e2, Option.bind_some]
        · refine ⟨x, N, p1, s1, Ev.end_ fun k => ?_, by omega, by omega, by omega⟩
          rw [spec_l1Cur_favourites.l0, if_neg (by omega), e1, Option.bind_some]
          simp only
          rw [if_neg c0, if_neg c1, if_neg c2]
  | succ d ih =>
    intro x p s hd h0 h1
    obtain ⟨r, p1, s1, e1, b1, b2, b3, b4⟩ := pick_ok hb p s N h0 (by omega)
    obtain ⟨v, p2, s2, e2, b5, b6, b7, b8⟩ := pick_ok hb p1 s1 (if (1 : Int) > wrap64 (N - r) then 1 else wrap64 (N - r)) (by omega) (by omega)
    obtain ⟨out, M, p', s', he, ho, a1, a2⟩ := ih (x ++ [v]) p2 s2 (by simp; omega) (by omega) (by omega)
    refine ⟨out, M, p', s', Ev.one he fun k => ?_, ho, by omega, by omega⟩
    rw [spec_l1Cur_favourites.l0, if_pos (by omega), e1, Option.bind_some]
    simp only
    rw [most_eq, Option.bind_some, e2, Option.bind_some, if_pos (by omega), wrap_id (x := ((d + 1 : Nat) : Int) - 1) (by omega) (by omega), show ((d + 1 : Nat) : Int) - 1 = (d : Int) by omega]
theorem favs_ok {l : List Int} (hb : Bytes l) : ∃ out M p' s', Ev (fun k => spec_l1Cur_favourites.f k l 0 0) (out, M, p', s') ∧ out.length ≤ 9 ∧ 0 ≤ p' ∧ p' ≤ 1000 := by
  obtain ⟨u, p1, s1, e1, b1, b2⟩ := among_ok hb 0 0 [4, 7, 12] (by simp) (by omega) (by omega)
  obtain ⟨r, p2, s2, e2, b3, b4, b5, b6⟩ := pick_ok hb p1 s1 u (by omega) (by omega)
  obtain ⟨t, ht⟩ : ∃ t, t = (if wrap64 (1 + r) < 8 then wrap64 (1 + r) else 8) := ⟨_, rfl⟩
  have ht8 : t ≤ 8 := by rw [ht]; split <;> omega
  obtain ⟨v, p3, s3, e3, b7, b8, b9, b10⟩ := pick_ok hb p2 s2 (wrap64 (t + 1)) (by omega) (by omega)
  have hv : v ≤ 8 := by
    rcases b8 with h | h
    · have : wrap64 (t + 1) ≤ 9 ∨ v ≤ 8 := by
        rcases Int.lt_or_le t (-9223372036854775000) with h2 | h2
        · right
          have hw : -9223372036854775808 ≤ wrap64 (1 + r) := by unfold wrap64; omega
          have : -9223372036854775808 ≤ t := by rw [ht]; split <;> omega
          rw [wrap_id (by omega) (by omega)] at h
          omega
        · left; rw [wrap_id (by omega) (by omega)]; omega
      omega
    · omega
  obtain ⟨out, M, p', s', he, ho, a1, a2⟩ := favs_l0 hb (wrap64 (1 + r)) v.toNat [] p3 s3 (by simp; omega) (by omega) (by omega)
  refine ⟨out, M, p', s', ?_, ho, by omega, by omega⟩
  unfold spec_l1Cur_favourites.f
  simp only [e1, e2, Option.bind_some, least_eq, ← ht, e3]
  rw [show (v.toNat : Int) = v by omega] at he
  exact he
def goodB (l : List Int) (N : Int) : Bool := decide (1 ≤ N ∧ N ≤ 12) && decide (l.length ≤ 8) && inB l 0 (N - 1)
theorem fav_eq (l : List Int) (N : Int) : impl_AreFavourites.f l N = some (goodB l N) := by
  unfold impl_AreFavourites.f goodB
  simp only [between_eq, areBetween_eq, Option.bind_some]
  by_cases h1 : 1 ≤ N ∧ N ≤ 12
  · rw [decide_eq_true h1, Bool.true_and]
    simp only [if_true]
    by_cases h2 : l.length ≤ 8
    · rw [if_pos (by omega), decide_eq_true h2, Bool.true_and, wrap_id (x := N - 1) (by omega) (by omega)]
    · rw [if_neg (by omega), decide_eq_false h2, Bool.false_and]
  · rw [decide_eq_false h1, Bool.false_and, Bool.false_and]
    simp only [Bool.false_eq_true, if_false]
theorem good_ev (l : List Int) (N : Int) (hn : l.length ≤ 4611686018427387904) : Ev (fun k => spec_paGood.f k l N) (goodB l N) := by
  unfold spec_paGood.f spec_paStreet.f goodB
  simp only [l1In_eq, Option.bind_some]
  by_cases h1 : 1 ≤ N ∧ N ≤ 12
  · rw [decide_eq_true h1, Bool.true_and]
    simp only [if_true]
    by_cases h2 : l.length ≤ 8
    · rw [decide_eq_true h2, Bool.true_and]
      simp only [show (l.length : Int) ≤ 8 by omega, if_true]
      rw [wrap_id (x := N - 1) (by omega) (by omega)]
      exact Ev.bind (l1All_ev l 0 (N - 1) hn) (Ev.now _)
    · rw [decide_eq_false h2, Bool.false_and]
      simp only [show ¬ (l.length : Int) ≤ 8 by omega, if_false]
      exact Ev.now _
  · rw [decide_eq_false h1, Bool.false_and, Bool.false_and]
    simp only [Bool.false_eq_true, if_false]
    exact Ev.now _
theorem good_parts {l : List Int} {N : Int} (h : goodB l N = true) : ∃ M : Nat, N = M ∧ 1 ≤ M ∧ M ≤ 12 ∧ l.length ≤ 8 ∧ ∀ j, j < l.length → 0 ≤ l.getD j 0 ∧ l.getD j 0 < (M : Int) := by
  unfold goodB at h
  simp only [Bool.and_eq_true, decide_eq_true_eq] at h
  obtain ⟨⟨h1, h2⟩, h3⟩ := h
  exact ⟨N.toNat, by omega, by omega, by omega, h2, fun j hj => by have := inB_get h3 hj; omega⟩
theorem natL_lt {N : Nat} {l : List Int} (h : ∀ j, j < l.length → 0 ≤ l.getD j 0 ∧ l.getD j 0 < (N : Int)) : ∀ a ∈ natL l, a < N := by
  intro a ha
  obtain ⟨x, hx, rfl⟩ := List.mem_map.1 ha
  obtain ⟨j, hj, rfl⟩ := List.getElem_of_mem hx
  have := h j hj
  rw [List.getD_eq_getElem?_getD, List.getElem?_eq_getElem hj] at this
  simp only [Option.getD_some] at this
  omega
/-- Cars that do not look back park as usual. -/
theorem zero_back {N : Nat} : ∀ (l : List Nat) (S : Nat → Bool), (∀ a ∈ l, a < N) → outB (ParkT.driveB N 0 S l) [] = (if allP N S l = true then (outP' N S l, true) else ([], false))
  | [], S, _ => by simp [ParkT.driveB, outB, allP, outP']
  | a :: l, S, h => by
    have ha := h a (by simp)
    have hb : ParkT.bplace N S 0 a = ParkT.fwdF S (N - a) a := by
      unfold ParkT.bplace
      rw [backF_zero]
      cases hs : S a with
      | true => simp
      | false =>
        obtain ⟨d, hd⟩ : ∃ d, N - a = d + 1 := ⟨N - a - 1, by omega⟩
        rw [hd, ParkT.fwdF]
        simp [hs]
    rw [ParkT.driveB, allP, outP', hb]
    cases hf : ParkT.fwdF S (N - a) a with
    | none => rfl
    | some p =>
      have ih := zero_back l (ParkT.put S p) (fun x hx => h x (by simp [hx]))
      simp only
      cases hd : ParkT.driveB N 0 (ParkT.put S p) l with
      | none =>
        rw [hd] at ih
        cases hA : allP N (ParkT.put S p) l with
        | true => rw [hA] at ih; simp [outB] at ih
        | false => rfl
      | some L =>
        rw [hd] at ih
        cases hA : allP N (ParkT.put S p) l with
        | true =>
          rw [hA] at ih
          simp only [outB, List.nil_append, if_true, Prod.mk.injEq, and_true] at ih
          simp [outB, ih]
        | false => rw [hA] at ih; simp [outB] at ih
theorem power_ev (a e : Nat) (ha : a ≤ 6) (he : e ≤ 5) : Ev (fun k => impl_power.f k (a : Int) (e : Int)) ((a ^ e : Nat) : Int) := by
  unfold impl_power.f
  refine Ev.up0 e (fun q => ((a ^ q : Nat) : Int)) (fun k s q => impl_power.l0 k (a : Int) s (e : Int) q) ((a ^ e : Nat) : Int) (fun q hq h => Ev.one h fun k => ?_) (Ev.end_ fun k => ?_)
  · have h1 : a ^ (q + 1) ≤ 6 ^ (q + 1) := Nat.pow_le_pow_left ha _
    have h2 : 6 ^ (q + 1) ≤ 6 ^ 5 := Nat.pow_le_pow_right (by omega) (by omega)
    have h3 : (6 : Nat) ^ 5 = 7776 := by decide
    have hx : wrap64 (((a ^ q : Nat) : Int) * (a : Int)) = ((a ^ (q + 1) : Nat) : Int) := by
      rw [← Int.natCast_mul, show a ^ q * a = a ^ (q + 1) from (Nat.pow_succ ..).symm, wrap_id (by omega) (by omega)]
    rw [impl_power.l0, if_pos (by omega), hx, wrap_next (n := e) hq (by omega)]
  · rw [impl_power.l0, if_neg (by omega)]
theorem CountParking_ev (n : Nat) (h1 : 1 ≤ n) (h5 : n ≤ 5) : Ev (fun k => impl_CountParking.f k (n : Int)) ((((n + 1) ^ (n - 1) : Nat) : Int), true) := by
  unfold impl_CountParking.f impl_countParking.f impl_isCars.f
  simp only [between_eq, Option.bind_some, decide_eq_true (show 0 ≤ (n : Int) ∧ (n : Int) ≤ 8 by omega), if_true]
  have hm : mx (wrap64 ((n : Int) - 1)) 0 = ((n - 1 : Nat) : Int) := by
    rw [wrap_id (by omega) (by omega)]; unfold mx; split <;> omega
  have hw : wrap64 ((n : Int) + 1) = ((n + 1 : Nat) : Int) := by rw [wrap_id (by omega) (by omega)]; omega
  rw [hm, hw]
  exact Ev.bind (Ev.bind (power_ev (n + 1) (n - 1) (by omega) (by omega)) (Ev.now _)) (Ev.now _)
theorem count_ends : ([1, 2, 3, 4, 5].all fun n => cval n 0 (n ^ n) == (n + 1) ^ (n - 1) && cval n (n - 1) (n ^ n) == n ^ n) = true := by
  decide +kernel
theorem count_low {n : Nat} (h1 : 1 ≤ n) (h5 : n ≤ 5) : cval n 0 (n ^ n) = (n + 1) ^ (n - 1) ∧ cval n (n - 1) (n ^ n) = n ^ n := by
  have h := count_ends
  rw [List.all_eq_true] at h
  have := h n (by simp; omega)
  simpa using this
theorem good_le {l : List Int} {M : Nat} (h : ∀ j, j < l.length → 0 ≤ l.getD j 0 ∧ l.getD j 0 < (M : Int)) : ∀ j, j < l.length → 0 ≤ l.getD j 0 ∧ l.getD j 0 ≤ (M : Int) := fun j hj => by have := h j hj; omega
def dfV (l : List Int) (N : Int) : Int × Bool := if goodB l N = true then (((defI N.toNat l : Nat) : Int), true) else (0, false)
theorem impl_DefectOf_ev (l : List Int) (N : Int) : Ev (fun k => impl_DefectOf.f k l N) (dfV l N) := by
  unfold impl_DefectOf.f dfV
  simp only [fav_eq, Option.bind_some]
  cases h : goodB l N with
  | false => simp only [Bool.false_eq_true, if_false]; exact Ev.now _
  | true =>
    obtain ⟨M, rfl, h1, h2, h3, h4⟩ := good_parts h
    simp only [if_true, Int.toNat_natCast]
    exact Ev.bind (impl_defect_ev l M (by omega) (by omega) (good_le h4)) (Ev.now _)
theorem spec_DefectOf_ev (l : List Int) (N : Int) (hn : l.length ≤ 4611686018427387904) : Ev (fun k => spec_DefectOf.f k l N) (dfV l N) := by
  unfold spec_DefectOf.f dfV
  refine Ev.bind (good_ev l N hn) ?_
  cases h : goodB l N with
  | false => simp only [Bool.false_eq_true, if_false]; exact Ev.now _
  | true =>
    obtain ⟨M, rfl, h1, h2, h3, h4⟩ := good_parts h
    simp only [if_true, Int.toNat_natCast]
    exact Ev.bind (loDefect_ev l M (by omega) (by omega) (good_le h4)) (Ev.now _)
def dsV (l : List Int) (N : Int) : List Int × Bool := if goodB l N = true then (plsS N.toNat l, true) else ([], false)
theorem dsV_len (l : List Int) (N : Int) : (dsV l N).1.length ≤ l.length := by
  unfold dsV
  split
  · rw [plsS_len]; exact Nat.le_refl _
  · simp
theorem impl_DriveSome_ev (l : List Int) (N : Int) : Ev (fun k => impl_DriveSome.f k l N) (dsV l N) := by
  unfold impl_DriveSome.f dsV
  simp only [fav_eq, Option.bind_some]
  cases h : goodB l N with
  | false => simp only [Bool.false_eq_true, if_false]; exact Ev.now _
  | true =>
    obtain ⟨M, rfl, h1, h2, h3, h4⟩ := good_parts h
    simp only [if_true, Int.toNat_natCast]
    exact Ev.bind (driveSome_ev l M (by omega) (by omega) (good_le h4)) (Ev.now _)
theorem spec_DriveSome_ev (l : List Int) (N : Int) (hn : l.length ≤ 4611686018427387904) : Ev (fun k => spec_DriveSome.f k l N) (dsV l N) := by
  unfold spec_DriveSome.f dsV
  refine Ev.bind (good_ev l N hn) ?_
  cases h : goodB l N with
  | false => simp only [Bool.false_eq_true, if_false]; exact Ev.now _
  | true =>
    obtain ⟨M, rfl, h1, h2, h3, h4⟩ := good_parts h
    simp only [if_true, Int.toNat_natCast]
    exact Ev.bind (paDrive_ev l M (by omega) (by omega) (good_le h4)) (Ev.now _)
def fromI (l : List Int) (j : Int) : Nat := l.countP fun x => decide (x ≥ j)
def mostI (l : List Int) (N : Int) : Nat → Int
  | 0 => 0
  | q + 1 => if (fromI l q : Int) - (N - q) > mostI l N q then (fromI l q : Int) - (N - q) else mostI l N q
theorem mostI_le (l : List Int) (N D : Int) (hD : 0 ≤ D) : ∀ q : Nat, (∀ j : Nat, j < q → (fromI l j : Int) - (N - j) ≤ D) → mostI l N q ≤ D
  | 0, _ => hD
  | q + 1, h => by
    have h1 := mostI_le l N D hD q (fun j hj => h j (by omega))
    have h2 := h q (by omega)
    rw [mostI]
    split <;> omega
theorem mostI_ge (l : List Int) (N : Int) : ∀ q : Nat, 0 ≤ mostI l N q ∧ ∀ j : Nat, j < q → (fromI l j : Int) - (N - j) ≤ mostI l N q
  | 0 => ⟨Int.le_refl _, fun j hj => by omega⟩
  | q + 1 => by
    have ih := mostI_ge l N q
    rw [mostI]
    split
    · rename_i h
      refine ⟨by omega, fun j hj => ?_⟩
      by_cases e : j = q
      · subst e; omega
      · have := ih.2 j (by omega); omega
    · rename_i h
      refine ⟨ih.1, fun j hj => ?_⟩
      by_cases e : j = q
      · subst e; omega
      · exact ih.2 j (by omega)
theorem fromI_from {l : List Int} (h : ∀ x ∈ l, 0 ≤ x) (j : Nat) : fromI l (j : Int) = ParkT.from_ j (natL l) := by
  unfold fromI ParkT.from_ natL
  induction l with
  | nil => rfl
  | cons x l ih =>
    have hx := h x (by simp)
    have ih := ih (fun y hy => h y (by simp [hy]))
    rw [List.countP_cons, List.map_cons, List.filter_cons, ih]
    by_cases c : x ≥ (j : Int)
    · have c2 : j ≤ x.toNat := by omega
      simp [c, c2]
    · have c2 : ¬ j ≤ x.toNat := by omega
      simp [c, c2]
theorem defI_most {l : List Int} {N : Nat} (h : ∀ j, j < l.length → 0 ≤ l.getD j 0 ∧ l.getD j 0 < (N : Int)) : ((defI N l : Nat) : Int) = mostI l (N : Int) N := by
  have hx : ∀ x ∈ l, 0 ≤ x := by
    intro x hx
    obtain ⟨j, hj, rfl⟩ := List.getElem_of_mem hx
    have := h j hj
    rw [List.getD_eq_getElem?_getD, List.getElem?_eq_getElem hj] at this
    exact this.1
  have e : defI N l = ParkT.fails (ParkT.driveS N (fun _ => false) (natL l)) := by unfold defI plsS; rw [neg_fails]
  apply Int.le_antisymm
  · by_cases h0 : 0 < ParkT.fails (ParkT.driveS N (fun _ => false) (natL l))
    · obtain ⟨j, hj, hf⟩ := ParkT.defect_at (natL l) (natL_lt h) h0
      have h2 := (mostI_ge l (N : Int) N).2 j hj
      rw [fromI_from hx, hf] at h2
      rw [e]
      omega
    · have := (mostI_ge l (N : Int) N).1
      rw [e]; omega
  · refine mostI_le l (N : Int) _ (by omega) N fun j hj => ?_
    have h2 := ParkT.defect_le (N := N) (natL l) j (by omega)
    rw [fromI_from hx, e]
    omega
def eqM1 (x : Int) : Bool := decide (x = -1)
theorem m1_fails : ∀ (L : List (Option Nat)), (L.map valP).countP eqM1 = ParkT.fails L
  | [] => rfl
  | none :: L => by
    rw [List.map_cons, List.countP_cons, m1_fails L, ParkT.fails_cons_none]; rfl
  | some p :: L => by
    have : eqM1 (valP (some p)) = false := decide_eq_false (by simp only [valP]; omega)
    rw [List.map_cons, List.countP_cons, m1_fails L, ParkT.fails_cons_some, this]; rfl
theorem plsS_m1 (N : Nat) (l : List Int) : (plsS N l).countP eqM1 = defI N l := by
  unfold defI plsS
  rw [m1_fails, neg_fails]
theorem mostI_perm {l l' : List Int} (h : l.Perm l') (N : Int) : ∀ q, mostI l N q = mostI l' N q
  | 0 => rfl
  | q + 1 => by
    have e : fromI l (q : Int) = fromI l' (q : Int) := h.countP_eq _
    rw [mostI, mostI, mostI_perm h N q, e]
theorem goodB_perm {l l' : List Int} (h : l.Perm l') (N : Int) : goodB l N = goodB l' N := by
  unfold goodB inB
  rw [h.length_eq, h.all_eq]
theorem dfV_perm {l l' : List Int} (h : l.Perm l') {N : Int} (hg : goodB l N = true) : dfV l' N = dfV l N := by
  have hg' := hg
  rw [goodB_perm h] at hg'
  unfold dfV
  rw [if_pos hg, if_pos hg']
  obtain ⟨M, rfl, h1, h2, h3, h4⟩ := good_parts hg
  obtain ⟨M', e, _, _, _, h4'⟩ := good_parts hg'
  obtain rfl : M = M' := by omega
  rw [Int.toNat_natCast, defI_most h4, defI_most h4', mostI_perm h]
theorem numberOf_ok {m : List Int} (hb : Bytes m) (hm : m.length ≤ 140737488351232) : ∃ v, Ev (fun k => laws_numberOf.f k m) v ∧ 0 ≤ v := by
  have key : ∀ (d q : Nat) (x : Int), q + d = m.length → 0 ≤ x → x < 1000003 → ∃ v, Ev (fun k => laws_numberOf.l0 k x m (m.length : Int) (q : Int)) v ∧ 0 ≤ v := by
    intro d
    induction d with
    | zero =>
      intro q x hd h0 h1
      exact ⟨x, Ev.end_ fun k => by rw [laws_numberOf.l0, if_neg (by omega)], h0⟩
    | succ d ih =>
      intro q x hd h0 h1
      have hg := hb.get q
      have ht := tmod_ok (v := 31 * x + m.getD q 0) (a := 1000003) (by omega) (by omega)
      obtain ⟨v, hv, hv0⟩ := ih (q + 1) (Int.tmod (31 * x + m.getD q 0) 1000003) (by omega) ht.1 ht.2
      refine ⟨v, Ev.one hv fun k => ?_, hv0⟩
      rw [laws_numberOf.l0, if_pos (by omega), if_pos (by omega), if_pos (by omega), rd_nat, wrap_id (x := 31 * x) (by omega) (by omega), wrap_id (x := m.getD q 0) (by omega) (by omega), wrap_id (x := 31 * x + m.getD q 0) (by omega) (by omega), wrap_next (n := m.length) (by omega) (by omega)]
  unfold laws_numberOf.f
  exact key m.length 0 0 (by omega) (by omega) (by omega)
theorem jSwapped_ok (l : List Int) (t : Int) (h0 : 0 ≤ t) (h1 : t + 1 < (l.length : Int)) (hl : l.length ≤ 1000) : ∃ s, laws_jSwapped.f l t = some s ∧ l.Perm s := by
  obtain ⟨i, rfl⟩ : ∃ i : Nat, t = i := ⟨t.toNat, by omega⟩
  have c1 : wrap64 ((i : Int) + 1) = ((i + 1 : Nat) : Int) := wrap_next (n := l.length) (by omega) (by omega)
  have c2 : ((i + 1 : Nat) : Int) < (l.length : Int) := by omega
  have c3 : (0 : Int) ≤ (i : Int) := by omega
  have c4 : (i : Int) < (l.length : Int) := by omega
  have c5 : (0 : Int) ≤ ((i + 1 : Nat) : Int) := by omega
  have c6 : l.length < 17592186044416 := by omega
  have hE : laws_jSwapped.f l (i : Int) = some ((l.set i (l.getD (i + 1) 0)).set (i + 1) (l.getD i 0)) := by
    unfold laws_jSwapped.f
    simp only [Option.bind_some, List.nil_append, List.length_nil, Nat.zero_add, c1, c2, c3, c4, c5, c6, if_true, Int.toNat_natCast, rd_nat]
  refine ⟨_, hE, ?_⟩
  have e1 : l.getD (i + 1) 0 = l[i + 1] := by rw [List.getD_eq_getElem?_getD, List.getElem?_eq_getElem (by omega)]; rfl
  have e2 : l.getD i 0 = l[i] := by rw [List.getD_eq_getElem?_getD, List.getElem?_eq_getElem (by omega)]; rfl
  rw [e1, e2]
  exact (List.set_set_perm (by omega) (by omega)).symm
theorem allP_fails {N : Nat} : ∀ (l : List Nat) (S : Nat → Bool), allP N S l = decide (ParkT.fails (ParkT.driveS N S l) = 0)
  | [], S => by simp [allP, ParkT.driveS, ParkT.fails]
  | a :: l, S => by
    rw [allP, ParkT.driveS]
    cases hf : ParkT.fwdF S (N - a) a with
    | none => simp [ParkT.fails_cons_none]
    | some p =>
      simp only [ParkT.fails_cons_some]
      exact allP_fails l _
theorem okB_def (n i : Nat) (hn : 1 ≤ n) : okB n 0 i = decide (defI n (digI n n i) = 0) := by
  have h := zero_back (N := n) (natL (digI n n i)) (fun _ => false) (natL_lt (digI_get n (by omega) n i))
  have h2 := outB_ok (ParkT.driveB n 0 (fun _ => false) (natL (digI n n i)))
  unfold okB
  rw [← h2, h]
  unfold defI plsS
  rw [neg_fails, ← allP_fails]
  cases allP n (fun _ => false) (natL (digI n n i)) <;> rfl
def cntG (D : Nat → Nat) (e j : Nat) : Nat := sumTo (fun i => b2n (decide (D i = e))) j
theorem b2n_le (b : Bool) : b2n b ≤ 1 := by unfold b2n; split <;> omega
theorem cntG_succ (D : Nat → Nat) (e j : Nat) : cntG D e (j + 1) = cntG D e j + b2n (decide (D j = e)) := by unfold cntG; rw [sumTo]
theorem cntG_le (D : Nat → Nat) (e : Nat) (j : Nat) : cntG D e j ≤ j := by
  induction j with
  | zero => simp [cntG, sumTo]
  | succ j ih =>
    rw [cntG_succ]
    have := b2n_le (decide (D j = e))
    omega
def dvG (D : Nat → Nat) (n : Nat) : Nat → List Int
  | 0 => List.replicate n 0
  | j + 1 => (dvG D n j).set (D j) (wrap64 (rd (dvG D n j) (D j : Nat) + 1))
theorem dvG_len (D : Nat → Nat) (n : Nat) (j : Nat) : (dvG D n j).length = n := by
  induction j with
  | zero => simp [dvG]
  | succ j ih => rw [dvG, List.length_set, ih]
theorem dvG_get (D : Nat → Nat) (n : Nat) (hD : ∀ j, D j < n) (j : Nat) : j ≤ 4611686018427387904 → ∀ e, e < n → (dvG D n j).getD e 0 = ((cntG D e j : Nat) : Int) := by
  induction j with
  | zero =>
    intro _ e he
    rw [dvG, List.getD_eq_getElem?_getD, List.getElem?_replicate, if_pos he]
    simp [cntG, sumTo]
  | succ j ih =>
    intro hj e he
    have ih := ih (by omega)
    have hd := hD j
    have hdl := dvG_len D n j
    have hle := cntG_le D e j
    rw [dvG, List.getD_eq_getElem?_getD, List.getElem?_set, cntG_succ]
    by_cases c : D j = e
    · have h1 := ih e he
      have hx : rd (dvG D n j) ((D j : Nat) : Int) = ((cntG D e j : Nat) : Int) := by rw [c, rd_nat, h1]
      have hy : wrap64 (((cntG D e j : Nat) : Int) + 1) = ((cntG D e j + 1 : Nat) : Int) := by rw [wrap_id (by omega) (by omega)]; omega
      have hz : b2n (decide (D j = e)) = 1 := by rw [decide_eq_true c]; rfl
      rw [if_pos c, if_pos (by omega), hx, hy, hz, Option.getD_some]
    · rw [if_neg c, decide_eq_false c]
      have h1 := ih e he
      rw [List.getD_eq_getElem?_getD] at h1
      rw [h1]
      simp [b2n]
theorem sum_set : ∀ (l : List Int) (d : Nat) (v : Int), d < l.length → (l.set d v).sum = l.sum - l.getD d 0 + v
  | x :: l, 0, v, _ => by simp [List.sum_cons]; omega
  | x :: l, d + 1, v, h => by
    have := sum_set l d v (by simpa using h)
    rw [List.set_cons_succ, List.sum_cons, List.sum_cons, this]
    simp only [List.getD_cons_succ]
    omega
theorem sum_zeros (n : Nat) : (List.replicate n (0 : Int)).sum = 0 := by
  induction n with
  | zero => rfl
  | succ n ih => rw [List.replicate_succ, List.sum_cons, ih]; rfl
theorem dvG_sum (D : Nat → Nat) (n : Nat) (hD : ∀ j, D j < n) (j : Nat) : j ≤ 4611686018427387904 → (dvG D n j).sum = (j : Int) := by
  induction j with
  | zero => intro _; rw [dvG, sum_zeros]; rfl
  | succ j ih =>
    intro hj
    have ih := ih (by omega)
    have hd := hD j
    have hdl := dvG_len D n j
    have hg := dvG_get D n hD j (by omega) _ hd
    have hle := cntG_le D (D j) j
    rw [dvG, sum_set _ _ _ (by omega), ih, rd_nat, hg, wrap_id (by omega) (by omega)]
    omega
theorem dval_dvG (n : Nat) (j : Nat) : dval n j = dvG (fun i => defI n (digI n n i)) n j := by
  induction j with
  | zero => rw [dval, dvG]
  | succ j ih => rw [dval, dvG, ih]
theorem def_low {n : Nat} (h1 : 1 ≤ n) (h5 : n ≤ 5) : (dval n (n ^ n)).getD 0 0 = (((n + 1) ^ (n - 1) : Nat) : Int) ∧ (dval n (n ^ n)).sum = ((n ^ n : Nat) : Int) ∧ ∀ j, -3125 ≤ (dval n (n ^ n)).getD j 0 ∧ (dval n (n ^ n)).getD j 0 ≤ 3125 := by
  have hp := pow_small h5 h5
  rw [dval_dvG]
  have hD : ∀ j, (fun i => defI n (digI n n i)) j < n := fun j => def_lt n j h1
  have hE : ∀ i, (fun i => defI n (digI n n i)) i = 0 ↔ okB n 0 i = true := fun i => by rw [okB_def n i h1]; simp
  have hc := (count_low h1 h5).1
  generalize (fun i => defI n (digI n n i)) = D at hD hE
  generalize n ^ n = M at hp hc
  refine ⟨?_, dvG_sum D n hD M (by omega), fun j => ?_⟩
  · rw [dvG_get D n hD M (by omega) 0 (by omega), ← hc]
    have : cntG D 0 M = cval n 0 M := by
      unfold cntG cval
      refine sumTo_congr _ fun i hi => ?_
      have h := hE i
      cases hk : okB n 0 i with
      | true => rw [decide_eq_true (h.2 hk)]
      | false => rw [decide_eq_false (fun e => by have := h.1 e; rw [hk] at this; cases this)]
    rw [this]
  · rcases Nat.lt_or_ge j n with hj | hj
    · rw [dvG_get D n hD M (by omega) j hj]
      have := cntG_le D j M
      omega
    · rw [List.getD_eq_getElem?_getD, List.getElem?_eq_none (by rw [dvG_len]; exact hj)]; simp
theorem jSum_wide (l : List Int) (hl : l.length ≤ 1000) (hb : ∀ j, -3125 ≤ l.getD j 0 ∧ l.getD j 0 ≤ 3125) : Ev (fun k => laws_jSum.f k l) l.sum := by
  unfold laws_jSum.f
  have hs := take_range (l := l) (B := 3125) (by omega) hb
  have := Ev.up0 l.length (fun q => (l.take q).sum) (fun k s q => laws_jSum.l0 k s l (l.length : Int) q) l.sum (fun q hq h => Ev.one h fun k => ?_) (Ev.end_ fun k => ?_)
  · simpa using this
  · have := hs q (by omega)
    have := hb q
    rw [laws_jSum.l0, if_pos (by omega), if_pos (by omega), if_pos (by omega), rd_nat, wrap_id (x := (l.take q).sum + l.getD q 0) (by omega) (by omega), wrap_next (n := l.length) hq (by omega), take_sum' hq]
  · rw [laws_jSum.l0, if_neg (by omega), List.take_length]
theorem DrawDefectOf_ok {l : List Int} (hb : Bytes l) : ∃ out N, Ev (fun k => spec_DrawDefectOf.f k l) (out, N) ∧ out.length ≤ 9 := by
  obtain ⟨out, M, p, s, he, ho, a1, a2⟩ := favs_ok hb
  refine ⟨out, M, ?_, ho⟩
  unfold spec_DrawDefectOf.f spec_DrawLeastBack.f
  exact Ev.bind (Ev.bind he (Ev.now _)) (Ev.now _)
theorem DrawPlacesNeeded_ok {l : List Int} (hb : Bytes l) : ∃ out, Ev (fun k => spec_DrawPlacesNeeded.f k l) out ∧ out.length ≤ 9 := by
  obtain ⟨out, M, p, s, he, ho, a1, a2⟩ := favs_ok hb
  refine ⟨out, ?_, ho⟩
  unfold spec_DrawPlacesNeeded.f
  exact Ev.bind he (Ev.now _)
theorem DrawCountByDefect_ok {l : List Int} (hb : Bytes l) : ∃ n, spec_DrawCountByDefect.f l = some n := by
  obtain ⟨u, p1, s1, e1, b1, b2⟩ := among_ok hb 0 0 [1, 2, 3, 4, 5, 6, 0] (by simp) (by omega) (by omega)
  refine ⟨u, ?_⟩
  unfold spec_DrawCountByDefect.f
  simp only [e1, Option.bind_some]
def daV (l : List Int) (N : Int) : Bool × Bool := if goodB l N = true then (allP N.toNat (fun _ => false) (natL l), true) else (false, false)
theorem impl_DoAllPark_ev (l : List Int) (N : Int) : Ev (fun k => impl_DoAllPark.f k l N) (daV l N) := by
  unfold impl_DoAllPark.f daV
  simp only [fav_eq, Option.bind_some]
  cases h : goodB l N with
  | false => simp only [Bool.false_eq_true, if_false]; exact Ev.now _
  | true =>
    obtain ⟨M, rfl, h1, h2, h3, h4⟩ := good_parts h
    simp only [if_true, Int.toNat_natCast]
    refine Ev.bind (drive_ev l M (by omega) (by omega) (fun j hj => (h4 j hj).1)) ?_
    cases allP M (fun _ => false) (natL l) <;> exact Ev.now _
theorem fwd_shrink {S : Nat → Bool} : ∀ {d a e : Nat}, e ≤ d → ParkT.fwdF S e a = match ParkT.fwdF S d a with | some p => if p < a + e then some p else none | none => none
  | d, a, 0, _ => by
    rw [ParkT.fwdF]
    cases h : ParkT.fwdF S d a with
    | none => rfl
    | some p =>
      have := ParkT.fwdF_some h
      simp only
      rw [if_neg (by omega)]
  | d + 1, a, e + 1, h => by
    rw [ParkT.fwdF, ParkT.fwdF]
    by_cases hs : S a = false
    · rw [if_pos hs, if_pos hs]
      simp only
      rw [if_pos (by omega)]
    · rw [if_neg hs, if_neg hs, fwd_shrink (d := d) (a := a + 1) (e := e) (by omega), show a + 1 + e = a + (e + 1) by omega]
theorem shrink {M N : Nat} (hN : N ≤ M) : ∀ (l : List Nat) (S : Nat → Bool), (∀ a ∈ l, a < M) → (((∀ a ∈ l, a < N) ∧ allP N S l = true) ↔ (allP M S l = true ∧ ∀ p ∈ outP' M S l, p < (N : Int)))
  | [], S, _ => by simp [allP, outP']
  | a :: l, S, h => by
    have ha := h a (by simp)
    have hl := fun S => shrink hN l S (fun x hx => h x (by simp [hx]))
    rw [allP, allP, outP']
    cases hf : ParkT.fwdF S (M - a) a with
    | none =>
      simp only [Bool.false_eq_true, false_and, iff_false]
      rintro ⟨h1, h2⟩
      have h3 := h1 a (by simp)
      have := fwd_shrink (S := S) (d := M - a) (a := a) (e := N - a) (by omega)
      rw [hf] at this
      rw [this] at h2
      cases h2
    | some p =>
      have hp := ParkT.fwdF_some hf
      have hs := fwd_shrink (S := S) (d := M - a) (a := a) (e := N - a) (by omega)
      rw [hf] at hs
      simp only at hs ⊢
      by_cases c : p < a + (N - a)
      · rw [if_pos c] at hs
        rw [hs]
        simp only
        have hpN : p < N := by omega
        constructor
        · rintro ⟨h1, h2⟩
          have := (hl (ParkT.put S p)).1 ⟨fun x hx => h1 x (by simp [hx]), h2⟩
          refine ⟨this.1, fun q hq => ?_⟩
          rcases List.mem_cons.1 hq with rfl | hq
          · omega
          · exact this.2 q hq
        · rintro ⟨h1, h2⟩
          have := (hl (ParkT.put S p)).2 ⟨h1, fun q hq => h2 q (by simp [hq])⟩
          refine ⟨fun x hx => ?_, this.2⟩
          rcases List.mem_cons.1 hx with rfl | hx
          · omega
          · exact this.1 x hx
      · rw [if_neg c] at hs
        constructor
        · rintro ⟨h1, h2⟩
          rw [hs] at h2
          cases h2
        · rintro ⟨h1, h2⟩
          have h3 := h2 (p : Int) (by simp)
          omega
theorem fold_max : ∀ (r : List Int) (a : Int), a ≤ r.foldl max a ∧ (∀ x ∈ r, x ≤ r.foldl max a) ∧ (r.foldl max a = a ∨ r.foldl max a ∈ r)
  | [], a => by simp
  | y :: r, a => by
    have ih := fold_max r (max a y)
    rw [List.foldl_cons]
    refine ⟨by omega, fun x hx => ?_, ?_⟩
    · rcases List.mem_cons.1 hx with rfl | hx
      · omega
      · exact ih.2.1 x hx
    · rcases ih.2.2 with h | h
      · rw [h]
        rcases Int.le_total a y with c | c
        · right; rw [Int.max_eq_right c]; simp
        · left; exact Int.max_eq_left c
      · right; simp [h]
/-- The greatest place of all cars on the longest street, 0 where there is no car. -/
def topP (l : List Int) : Int := match outP' 12 (fun _ => false) (natL l) ++ [0] with
  | [] => 0
  | a :: r => r.foldl max a
theorem top_max (l : List Int) : slices_Max_int_int.f (outP' 12 (fun _ => false) (natL l) ++ [0]) = some (topP l) := by
  unfold slices_Max_int_int.f topP
  cases h : outP' 12 (fun _ => false) (natL l) ++ [0] with
  | nil => simp at h
  | cons a r => rfl
theorem outP'_nn {N : Nat} : ∀ (l : List Nat) (S : Nat → Bool), ∀ p ∈ outP' N S l, 0 ≤ p ∧ p < (N : Int)
  | [], _, p, h => by simp [outP'] at h
  | a :: l, S, p, h => by
    rw [outP'] at h
    cases hf : ParkT.fwdF S (N - a) a with
    | none => rw [hf] at h; simp at h
    | some q =>
      rw [hf] at h
      have hq := ParkT.fwdF_some hf
      rcases List.mem_cons.1 h with rfl | h
      · omega
      · exact outP'_nn l _ p h
theorem top_spec (l : List Int) : 0 ≤ topP l ∧ topP l < 12 ∧ (∀ p ∈ outP' 12 (fun _ => false) (natL l), p ≤ topP l) ∧ (topP l = 0 ∨ topP l ∈ outP' 12 (fun _ => false) (natL l)) := by
  have hnn := outP'_nn (N := 12) (natL l) (fun _ => false)
  obtain ⟨a, r, h⟩ : ∃ a r, outP' 12 (fun _ => false) (natL l) ++ [0] = a :: r := by
    cases h : outP' 12 (fun _ => false) (natL l) ++ [0] with
    | nil => simp at h
    | cons a r => exact ⟨a, r, rfl⟩
  have ht : topP l = r.foldl max a := by unfold topP; rw [h]
  have hm := fold_max r a
  rw [← ht] at hm
  have hall : ∀ x ∈ outP' 12 (fun _ => false) (natL l) ++ [0], x ≤ topP l := by
    intro x hx
    rw [h] at hx
    rcases List.mem_cons.1 hx with rfl | hx
    · exact hm.1
    · exact hm.2.1 x hx
  have hmem : topP l ∈ outP' 12 (fun _ => false) (natL l) ++ [0] := by
    rw [h]
    rcases hm.2.2 with e | e
    · rw [e]; simp
    · simp [e]
  have h0 : 0 ≤ topP l := hall 0 (by simp)
  have hor : topP l = 0 ∨ topP l ∈ outP' 12 (fun _ => false) (natL l) := by
    rcases List.mem_append.1 hmem with h | h
    · exact Or.inr h
    · left; simpa using h
  refine ⟨h0, ?_, fun p hp => hall p (by simp [hp]), hor⟩
  rcases hor with e | e
  · omega
  · exact (hnn _ e).2
def pnV (l : List Int) : Int × Bool := if (goodB l 12 && allP 12 (fun _ => false) (natL l)) = true then (topP l + 1, true) else (0, false)
theorem impl_PlacesNeeded_ev (l : List Int) : Ev (fun k => impl_PlacesNeeded.f k l) (pnV l) := by
  unfold impl_PlacesNeeded.f impl_DriveCars.f pnV
  simp only [fav_eq, Option.bind_some]
  cases h : goodB l 12 with
  | false =>
    simp only [Bool.false_eq_true, if_false, Option.bind_some, Bool.false_and]
    exact Ev.now _
  | true =>
    obtain ⟨M, hM, h1, h2, h3, h4⟩ := good_parts h
    obtain rfl : M = 12 := by omega
    simp only [if_true, Bool.true_and]
    refine Ev.bind (Ev.bind (drive_ev l 12 (by omega) (by omega) (fun j hj => (h4 j hj).1)) (Ev.now _)) ?_
    have ht := top_spec l
    cases ha : allP 12 (fun _ => false) (natL l) with
    | false => simp only [Bool.false_eq_true, if_false]; exact Ev.now _
    | true =>
      have hlen := outP'_len (N := 12) (natL l) (fun _ => false)
      have hl2 : (natL l).length = l.length := by simp [natL]
      simp only [if_true, show (outP' 12 (fun _ => false) (natL l)).length < 17592186044416 by omega, top_max, Option.bind_some]
      have hm : mx (wrap64 (topP l + 1)) 1 = topP l + 1 := by
        rw [wrap_id (by omega) (by omega)]; unfold mx; split <;> omega
      rw [hm]
      exact Ev.now _
theorem paAll_ev (l : List Int) (N : Nat) (hN : N ≤ 1000) (hl : l.length ≤ 900) (hr : ∀ j, j < l.length → 0 ≤ l.getD j 0 ∧ l.getD j 0 ≤ N) : Ev (fun k => spec_paAll.f k l (N : Int)) (allP N (fun _ => false) (natL l)) := by
  unfold spec_paAll.f
  refine Ev.bind (paDrive_ev l N hN hl hr) ?_
  refine Ev.bind (l1Has_ev _ _ (by rw [List.length_map, driveS_len]; simp [natL]; omega)) ?_
  rw [allP_iff]
  exact Ev.now _
theorem natL_all {l : List Int} {N : Nat} (h1 : 1 ≤ N) : (l.all fun x => decide (0 ≤ x ∧ x ≤ (N : Int) - 1)) = true → ∀ a ∈ natL l, a < N := by
  intro h a ha
  obtain ⟨x, hx, rfl⟩ := List.mem_map.1 ha
  rw [List.all_eq_true] at h
  have := h x hx
  simp only [decide_eq_true_eq] at this
  omega
/-- On N places all park exactly where N is more than the greatest place. -/
theorem need_iff {l : List Int} (hg : goodB l 12 = true) {N : Nat} (h1 : 1 ≤ N) (hN : N ≤ 12) : (((l.all fun x => decide (0 ≤ x ∧ x ≤ (N : Int) - 1)) = true ∧ allP N (fun _ => false) (natL l) = true) ↔ (allP 12 (fun _ => false) (natL l) = true ∧ topP l < (N : Int))) := by
  obtain ⟨M, hM, h1', h2, h3, h4⟩ := good_parts hg
  obtain rfl : M = 12 := by omega
  have hs := shrink (M := 12) (N := N) hN (natL l) (fun _ => false) (natL_lt h4)
  have ht := top_spec l
  have e1 : (l.all fun x => decide (0 ≤ x ∧ x ≤ (N : Int) - 1)) = true ↔ ∀ a ∈ natL l, a < N := by
    refine ⟨natL_all h1, fun h => ?_⟩
    rw [List.all_eq_true]
    intro x hx
    have h5 := h x.toNat (List.mem_map.2 ⟨x, hx, rfl⟩)
    obtain ⟨j, hj, rfl⟩ := List.getElem_of_mem hx
    have h6 := h4 j hj
    rw [List.getD_eq_getElem?_getD, List.getElem?_eq_getElem hj] at h6
    simp only [Option.getD_some] at h6
    exact decide_eq_true (by omega)
  have e2 : (∀ p ∈ outP' 12 (fun _ => false) (natL l), p < (N : Int)) ↔ topP l < (N : Int) := by
    constructor
    · intro h
      rcases ht.2.2.2 with e | e
      · omega
      · exact h _ e
    · intro h p hp
      have := ht.2.2.1 p hp
      omega
  rw [e1, hs, e2]
theorem spec_PlacesNeeded_ev (l : List Int) (hn : l.length ≤ 4611686018427387904) : Ev (fun k => spec_PlacesNeeded.f k l) (pnV l) := by
  unfold spec_PlacesNeeded.f pnV
  refine Ev.bind (good_ev l 12 hn) ?_
  cases hg : goodB l 12 with
  | false => simp only [Bool.false_eq_true, if_false, Bool.false_and]; exact Ev.now _
  | true =>
    obtain ⟨M, hM, h1', h2, h3, h4⟩ := good_parts hg
    obtain rfl : M = 12 := by omega
    have ht := top_spec l
    simp only [if_true, Bool.true_and]
    have key : ∀ (d N : Nat), N + d = 13 → 1 ≤ N → (allP 12 (fun _ => false) (natL l) = true → (N : Int) ≤ topP l + 1) → Ev (fun k => spec_PlacesNeeded.l0 k l (N : Int)) (if allP 12 (fun _ => false) (natL l) = true then (topP l + 1, true) else (0, false)) := by
      intro d
      induction d with
      | zero =>
        intro N hd hN hle
        cases ha : allP 12 (fun _ => false) (natL l) with
        | true => have := hle ha; omega
        | false =>
          refine Ev.end_ fun k => ?_
          rw [spec_PlacesNeeded.l0, if_neg (by omega), if_neg (by decide)]
      | succ d ih =>
        intro N hd hN hle
        have hiff := need_iff hg hN (show N ≤ 12 by omega)
        have next : ¬ (allP 12 (fun _ => false) (natL l) = true ∧ topP l < (N : Int)) → Ev (fun k => spec_PlacesNeeded.l0 k l ((N + 1 : Nat) : Int)) (if allP 12 (fun _ => false) (natL l) = true then (topP l + 1, true) else (0, false)) := by
          intro hno
          refine ih (N + 1) (by omega) (by omega) fun ha => ?_
          have := hle ha
          have : ¬ topP l < (N : Int) := fun h => hno ⟨ha, h⟩
          omega
        refine Ev.step (f := fun k => (spec_l1All.f k l 0 ((N : Int) - 1)).bind fun t925 => (if t925 = true then ((spec_paAll.f k l (N : Int)).bind fun t926 => (if t926 = true then (some ((N : Int), true)) else (spec_PlacesNeeded.l0 k l ((N + 1 : Nat) : Int)))) else (spec_PlacesNeeded.l0 k l ((N + 1 : Nat) : Int)))) (fun k => by
          rw [spec_PlacesNeeded.l0, if_pos (by omega), wrap_id (x := (N : Int) - 1) (by omega) (by omega), wrap_next (n := 13) (by omega) (by omega)]) ?_
        refine Ev.bind (l1All_ev l 0 ((N : Int) - 1) hn) ?_
        cases hA : (l.all fun x => decide (0 ≤ x ∧ x ≤ (N : Int) - 1)) with
        | false =>
          simp only [Bool.false_eq_true, if_false]
          exact next (fun h => by have := (hiff.2 h).1; rw [hA] at this; cases this)
        | true =>
          simp only [if_true]
          refine Ev.bind (paAll_ev l N (by omega) (by omega) (fun j hj => by have := all_get hA hj; omega)) ?_
          cases hP : allP N (fun _ => false) (natL l) with
          | false =>
            simp only [Bool.false_eq_true, if_false]
            exact next (fun h => by have := (hiff.2 h).2; rw [hP] at this; cases this)
          | true =>
            simp only [if_true]
            have h5 := hiff.1 ⟨hA, hP⟩
            have h6 := hle h5.1
            rw [if_pos h5.1, show topP l + 1 = (N : Int) by omega]
            exact Ev.now _
    exact key 12 1 (by omega) (by omega) (fun _ => by omega)
end Go.Proofs.Ytfclfjengfmjaaa.G
namespace Go.Proofs.Ytfclfjengfmjaaa.Pure
open Go.RowKit Go.Proofs.Ytfclfjengfmjaaa.G Go.Proofs.YtfclfjengfmjaaaW.PrintWords Go.Proofs.YtfclfjengfmjaaaW.PrintLast Go.Proofs.YtfclfjengfmjaaaW.PrintMore
set_option linter.unusedVariables false
set_option linter.unusedSimpArgs false
theorem fd_j8 {m : List Int} (hb : Bytes m) : Ev (fun k => laws_FnDefects.j8 k m) true := by
  obtain ⟨l, he, hl⟩ := DrawPlacesNeeded_ok hb
  refine Ev.step (fun k => by rw [laws_FnDefects.j8]) ?_
  refine Ev.bind he (Ev.bind (impl_PlacesNeeded_ev l) (Ev.bind (spec_PlacesNeeded_ev l (by omega)) ?_))
  simp only [bne_self_eq_false, Bool.false_eq_true, if_false]
  cases hp : (goodB l 12 && allP 12 (fun _ => false) (natL l)) with
  | false =>
    have e : pnV l = (0, false) := by unfold pnV; rw [hp]; rfl
    rw [e]
    exact Ev.end_ fun k => by rw [laws_FnDefects.j9, if_neg (by decide), if_neg (by decide)]
  | true =>
    have e : pnV l = (topP l + 1, true) := by unfold pnV; rw [hp]; rfl
    rw [e]
    simp only [Bool.and_eq_true] at hp
    obtain ⟨hg, ha⟩ := hp
    have ht := top_spec l
    obtain ⟨M, hM, h1', h2, h3, h4⟩ := good_parts hg
    obtain ⟨N, hN⟩ : ∃ N : Nat, topP l + 1 = N := ⟨(topP l + 1).toNat, by omega⟩
    rw [hN]
    have hneed := (need_iff hg (show 1 ≤ N by omega) (by omega)).2 ⟨ha, by omega⟩
    have hgN : goodB l (N : Int) = true := by
      unfold goodB
      rw [decide_eq_true (show 1 ≤ (N : Int) ∧ (N : Int) ≤ 12 by omega), decide_eq_true h3, Bool.true_and, Bool.true_and]
      exact hneed.1
    have hda : daV l (N : Int) = (true, true) := by
      unfold daV
      rw [if_pos hgN, Int.toNat_natCast, hneed.2]
    refine Ev.step (f := fun k => (impl_DoAllPark.f k l (N : Int)).bind fun bt979 => (if bt979.2 = true then (laws_FnDefects.j10 k l (N : Int) (!bt979.1)) else (laws_FnDefects.j10 k l (N : Int) true))) (fun k => by rw [laws_FnDefects.j9, if_neg (by decide), if_pos rfl]) ?_
    refine Ev.bind (impl_DoAllPark_ev l (N : Int)) ?_
    rw [hda]
    simp only [if_true, Bool.not_true]
    by_cases h1 : (N : Int) > 1
    · refine Ev.step (f := fun k => (impl_DoAllPark.f k l ((N - 1 : Nat) : Int)).bind fun bt981 => (if bt981.2 = true then (some (!bt981.1)) else (some true))) (fun k => by rw [laws_FnDefects.j10, if_neg (by decide), if_pos h1, wrap_id (x := (N : Int) - 1) (by omega) (by omega), show (N : Int) - 1 = ((N - 1 : Nat) : Int) by omega]) ?_
      refine Ev.bind (impl_DoAllPark_ev l ((N - 1 : Nat) : Int)) ?_
      cases hg2 : goodB l ((N - 1 : Nat) : Int) with
      | false =>
        have : daV l ((N - 1 : Nat) : Int) = (false, false) := by unfold daV; rw [hg2]; rfl
        rw [this]
        simp only [Bool.false_eq_true, if_false]
        exact Ev.now _
      | true =>
        have hnot : allP (N - 1) (fun _ => false) (natL l) = false := by
          cases hx : allP (N - 1) (fun _ => false) (natL l) with
          | false => rfl
          | true =>
            have hgg := hg2
            unfold goodB at hgg
            simp only [Bool.and_eq_true] at hgg
            have := (need_iff hg (show 1 ≤ N - 1 by omega) (by omega)).1 ⟨hgg.2, hx⟩
            omega
        have : daV l ((N - 1 : Nat) : Int) = (false, true) := by unfold daV; rw [if_pos hg2, Int.toNat_natCast, hnot]
        rw [this]
        simp only [if_true, Bool.not_false]
        exact Ev.now _
    · exact Ev.end_ fun k => by rw [laws_FnDefects.j10, if_neg (by decide), if_neg h1]
theorem fd_l3 {m : List Int} (hb : Bytes m) (n : Nat) (h1 : 1 ≤ n) (h5 : n ≤ 5) : ∀ (d q : Nat), q + d = n → Ev (fun k => laws_FnDefects.l3 k m (n : Int) (dval n (n ^ n)) (((n + 1) ^ (n - 1) : Nat) : Int) true ((n ^ q : Nat) : Int) (q : Int)) true := by
  have hlow := def_low h1 h5
  have hlen := dval_len n (n ^ n)
  have hp := pow_small h5 h5
  generalize dval n (n ^ n) = V at hlow hlen ⊢
  intro d
  induction d with
  | zero =>
    intro q hd
    obtain rfl : q = n := by omega
    refine Ev.step (f := fun k => (laws_jSum.f k V).bind fun t971 => (if t971 = ((q ^ q : Nat) : Int) then (laws_FnDefects.j8 k m) else (some false))) (fun k => by
      rw [laws_FnDefects.l3, if_neg (by omega), if_pos rfl, if_pos (by omega), if_pos (show rd V 0 = (((q + 1) ^ (q - 1) : Nat) : Int) from hlow.1)]) ?_
    refine Ev.bind (jSum_wide V (by omega) hlow.2.2) ?_
    rw [hlow.2.1]
    simp only [if_true]
    exact fd_j8 hb
  | succ d ih =>
    intro q hd
    have h2 := pow_small h5 (show q + 1 ≤ 5 by omega)
    have hx : wrap64 (((n ^ q : Nat) : Int) * (n : Int)) = ((n ^ (q + 1) : Nat) : Int) := by
      rw [← Int.natCast_mul, show n ^ q * n = n ^ (q + 1) from (Nat.pow_succ ..).symm, wrap_id (by omega) (by omega)]
    refine Ev.one (ih (q + 1) (by omega)) fun k => ?_
    rw [laws_FnDefects.l3, if_pos (by omega), hx, wrap_next (n := n) (by omega) (by omega)]
theorem fd_j5 {m : List Int} (hb : Bytes m) : Ev (fun k => laws_FnDefects.j5 k m) true := by
  obtain ⟨n, he⟩ := DrawCountByDefect_ok hb
  refine Ev.step (f := fun k => (impl_CountByDefect.f k n).bind fun bt959 => ((spec_CountByDefect.f k n).bind fun bt963 => (if (bt959.2 != bt963.2) = true then (laws_FnDefects.j6 k m n bt959.1 bt959.2 true) else ((laws_jSame.f k bt959.1 bt963.1).bind fun t967 => (laws_FnDefects.j6 k m n bt959.1 bt959.2 (!t967)))))) (fun k => by rw [laws_FnDefects.j5, he, Option.bind_some]) ?_
  have hl := cdP_len n
  refine Ev.bind (impl_CountByDefect_ev n) (Ev.bind (spec_CountByDefect_ev n) ?_)
  simp only [bne_self_eq_false, Bool.false_eq_true, if_false]
  refine Ev.bind (jSame_ev _ (by omega)) ?_
  simp only [Bool.not_true]
  by_cases h1 : 1 ≤ n ∧ n ≤ 5
  · obtain ⟨N, rfl⟩ : ∃ N : Nat, n = N := ⟨n.toNat, by omega⟩
    have e : cdP (N : Int) = (dval N (N ^ N), true) := by unfold cdP; rw [if_pos h1, Int.toNat_natCast]
    rw [e]
    refine Ev.step (f := fun k => (impl_CountParking.f k (N : Int)).bind fun bt968 => (laws_FnDefects.l3 k m (N : Int) (dval N (N ^ N)) bt968.1 bt968.2 1 0)) (fun k => by rw [laws_FnDefects.j6, if_neg (by decide), if_pos rfl]) ?_
    refine Ev.bind (CountParking_ev N (by omega) (by omega)) ?_
    exact fd_l3 hb N (by omega) (by omega) N 0 (by omega)
  · have e : cdP n = ([], false) := by unfold cdP; rw [if_neg h1]
    rw [e]
    exact Ev.one (fd_j8 hb) fun k => by rw [laws_FnDefects.j6, if_neg (by decide), if_neg (by decide)]
end Go.Proofs.Ytfclfjengfmjaaa.Pure
namespace Go.Proofs.Ytfclfjengfmjaaa.Pure
open Go.RowKit Go.Proofs.Ytfclfjengfmjaaa.G Go.Proofs.YtfclfjengfmjaaaW.PrintWords Go.Proofs.YtfclfjengfmjaaaW.PrintLast Go.Proofs.YtfclfjengfmjaaaW.PrintMore
set_option linter.unusedVariables false
set_option linter.unusedSimpArgs false
section
variable (m l : List Int) (N : Int) (D : Int)
theorem fd_j4 (hb : Bytes m) (hm : m.length ≤ 140737488351232) (hl : l.length ≤ 1000) (hg : goodB l N = true) (hD : dfV l N = (D, true)) : Ev (fun k => laws_FnDefects.j4 k m l N D false) true := by
  by_cases h1 : (l.length : Int) > 1
  · obtain ⟨v, hv, hv0⟩ := numberOf_ok hb hm
    have ht := tmod_ok (v := v) (a := (l.length : Int) - 1) hv0 (by omega)
    obtain ⟨s, hs, hperm⟩ := jSwapped_ok l (Int.tmod v ((l.length : Int) - 1)) ht.1 (by omega) hl
    refine Ev.step (f := fun k => (laws_numberOf.f k m).bind fun t952 => (if (wrap64 ((l.length : Int) - 1)) = 0 then (none) else ((laws_jSwapped.f l (Int.tmod t952 (wrap64 ((l.length : Int) - 1)))).bind fun t953 => ((impl_DefectOf.f k t953 N).bind fun bt956 => (if bt956.2 = true then (if bt956.1 = D then (laws_FnDefects.j5 k m) else (some false)) else (some false)))))) (fun k => by rw [laws_FnDefects.j4, if_neg (by decide), if_pos h1]) ?_
    refine Ev.bind hv ?_
    rw [wrap_id (x := (l.length : Int) - 1) (by omega) (by omega)]
    simp only [show ¬ (l.length : Int) - 1 = 0 by omega, if_false, hs, Option.bind_some]
    refine Ev.bind (impl_DefectOf_ev s N) ?_
    rw [dfV_perm hperm hg, hD]
    simp only [if_true]
    exact fd_j5 hb
  · exact Ev.one (fd_j5 hb) fun k => by rw [laws_FnDefects.j4, if_neg (by decide), if_neg h1]
theorem fd_l2 (hb : Bytes m) (hm : m.length ≤ 140737488351232) (hl : l.length ≤ 1000) (hg : goodB l N = true) (hD : dfV l N = (D, true)) (R : List Int) (hR : R.length ≤ 1000) (hRD : ((R.countP eqM1 : Nat) : Int) = D) : Ev (fun k => laws_FnDefects.l2 k m l N D D 0 R (R.length : Int) 0) true := by
  have := Ev.up0 R.length (fun q => ((R.take q).countP eqM1 : Nat)) (fun k (s : Nat) q => laws_FnDefects.l2 k m l N D D (s : Int) R (R.length : Int) q) true (fun q hq h => Ev.one h fun k => ?_) (Ev.one (fd_j4 m l N D hb hm hl hg hD) fun k => ?_)
  · simpa using this
  · have hs := countP_snoc eqM1 R q hq
    have hle : (R.take q).countP eqM1 ≤ q := Nat.le_trans List.countP_le_length (by simp; omega)
    rw [laws_FnDefects.l2, if_pos (by omega), if_pos (by omega), if_pos (by omega), rd_nat, wrap_next (n := R.length) hq (by omega), hs]
    by_cases hn : R.getD q 0 = -1
    · have e : eqM1 (R.getD q 0) = true := decide_eq_true hn
      rw [if_pos hn, if_pos e, wrap_id (by omega) (by omega)]
    · have e : eqM1 (R.getD q 0) = false := decide_eq_false hn
      rw [if_neg hn, if_neg (by rw [e]; decide), Int.add_zero]
  · rw [laws_FnDefects.l2, if_neg (by omega), if_pos rfl, List.take_length, hRD]
    simp
theorem fd_l1 (R : List Int) (hl : l.length ≤ 1000) (j : Nat) (hj : j ≤ 1000) (hN : 0 ≤ N ∧ N ≤ 1000) (x15 : Int) (h : Ev (fun k => laws_FnDefects.l0 k m l N D R (if (fromI l (j : Int) : Int) - (N - j) > x15 then (fromI l (j : Int) : Int) - (N - j) else x15) (wrap64 ((j : Int) + 1))) true) :
    Ev (fun k => laws_FnDefects.l1 k m l N D R x15 (j : Int) 0 l (l.length : Int) 0) true := by
  have := Ev.up0 l.length (fun q => ((l.take q).countP (fun x => decide (x ≥ (j : Int))) : Nat)) (fun k (s : Nat) q => laws_FnDefects.l1 k m l N D R x15 (j : Int) (s : Int) l (l.length : Int) q) true (fun q hq h => Ev.one h fun k => ?_) (Ev.one h fun k => ?_)
  · simpa using this
  · have hs := countP_snoc (fun x => decide (x ≥ (j : Int))) l q hq
    have hle : (l.take q).countP (fun x => decide (x ≥ (j : Int))) ≤ q := Nat.le_trans List.countP_le_length (by simp; omega)
    rw [laws_FnDefects.l1, if_pos (by omega), if_pos (by omega), if_pos (by omega), rd_nat, wrap_next (n := l.length) hq (by omega), hs]
    by_cases hn : l.getD q 0 ≥ (j : Int)
    · rw [if_pos hn, if_pos (decide_eq_true hn), wrap_id (by omega) (by omega)]
    · rw [if_neg hn, if_neg (by simpa using hn), Int.add_zero]
  · have hle : fromI l (j : Int) ≤ l.length := List.countP_le_length
    rw [laws_FnDefects.l1, if_neg (by omega), List.take_length]
    have hf : l.countP (fun x => decide (x ≥ (j : Int))) = fromI l (j : Int) := rfl
    rw [hf, wrap_id (x := N - (j : Int)) (by omega) (by omega), wrap_id (x := (fromI l (j : Int) : Int) - (N - (j : Int))) (by omega) (by omega)]
    by_cases c : (fromI l (j : Int) : Int) - (N - j) > x15
    · rw [if_pos c, if_pos c]
    · rw [if_neg c, if_neg c]
end
end Go.Proofs.Ytfclfjengfmjaaa.Pure
namespace Go.Proofs.Ytfclfjengfmjaaa.Pure
open Go.RowKit Go.Proofs.Ytfclfjengfmjaaa.G Go.Proofs.YtfclfjengfmjaaaW.PrintWords Go.Proofs.YtfclfjengfmjaaaW.PrintLast Go.Proofs.YtfclfjengfmjaaaW.PrintMore
set_option linter.unusedVariables false
set_option linter.unusedSimpArgs false
theorem fd_l0 {m l : List Int} {M : Nat} (hb : Bytes m) (hm : m.length ≤ 140737488351232) (hg : goodB l (M : Int) = true) (hM : M ≤ 12) (hl : l.length ≤ 1000) (hq : mostI l (M : Int) M = ((defI M l : Nat) : Int)) : ∀ (d q : Nat), q + d = M → Ev (fun k => laws_FnDefects.l0 k m l (M : Int) ((defI M l : Nat) : Int) (plsS M l) (mostI l (M : Int) q) (q : Int)) true := by
  have hD : dfV l (M : Int) = (((defI M l : Nat) : Int), true) := by unfold dfV; rw [if_pos hg, Int.toNat_natCast]
  intro d
  induction d with
  | zero =>
    intro q hd
    obtain rfl : q = M := by omega
    rw [hq]
    refine Ev.one (fd_l2 m l (q : Int) _ hb hm hl hg hD (plsS q l) (by rw [plsS_len]; exact hl) (by rw [plsS_m1])) fun k => ?_
    rw [laws_FnDefects.l0, if_neg (by omega)]
  | succ d ih =>
    intro q hd
    have h0 := ih (q + 1) (by omega)
    rw [mostI] at h0
    refine Ev.one (fd_l1 m l (M : Int) _ (plsS M l) hl q (by omega) (by omega) (mostI l (M : Int) q) (by rw [wrap_next (n := M) (by omega) (by omega)]; exact h0)) fun k => ?_
    rw [laws_FnDefects.l0, if_pos (by omega)]
theorem FnDefects : laws_FnDefects.Pure := by
  intro l0 l1 _ _ hw0 _ hlen hw1
  refine Ev.rounds ?_
  unfold laws_FnDefects.f
  have hb := bytes_of hw1
  have hm : l1.length ≤ 140737488351232 := by omega
  obtain ⟨r, hr⟩ := big_eq l0 l1
  simp only [hr, Option.bind_some]
  cases r with
  | true => simp only [if_true]; exact Ev.now _
  | false =>
    simp only [Bool.false_eq_true, if_false]
    obtain ⟨l, N, he, hl⟩ := DrawDefectOf_ok (bytes_of hw0)
    have hln := dsV_len l N
    refine Ev.bind he ?_
    refine Ev.bind (impl_DefectOf_ev l N) ?_
    refine Ev.bind (spec_DefectOf_ev l N (by omega)) ?_
    refine Ev.bind (impl_DriveSome_ev l N) ?_
    refine Ev.bind (spec_DriveSome_ev l N (by omega)) ?_
    simp only [bne_self_eq_false, Bool.false_eq_true, if_false, if_true]
    refine Ev.bind (jSame_ev _ (by omega)) ?_
    simp only [if_true]
    cases hg : goodB l N with
    | false =>
      have e1 : dfV l N = (0, false) := by unfold dfV; rw [hg]; rfl
      have e2 : dsV l N = ([], false) := by unfold dsV; rw [hg]; rfl
      rw [e1, e2]
      exact Ev.one (fd_j5 hb) fun k => by rw [laws_FnDefects.j0, if_neg (by decide), if_neg (by decide)]
    | true =>
      obtain ⟨M, rfl, h1, h2, h3, h4⟩ := good_parts hg
      have e1 : dfV l (M : Int) = (((defI M l : Nat) : Int), true) := by unfold dfV; rw [if_pos hg, Int.toNat_natCast]
      have e2 : dsV l (M : Int) = (plsS M l, true) := by unfold dsV; rw [if_pos hg, Int.toNat_natCast]
      rw [e1, e2]
      refine Ev.one (fd_l0 hb hm hg h2 (by omega) (defI_most h4).symm M 0 (by omega)) fun k => ?_
      rw [laws_FnDefects.j0, if_neg (by simp), if_pos rfl]
      rfl
end Go.Proofs.Ytfclfjengfmjaaa.Pure
namespace Go.Proofs.YtfclfjengfmjaaaW.PrintWords
open Go.ChangeShapes Go.WideShapes
theorem sized_ints {H : Type} {enc : TypeId × Value → H} {P : Program} {W : World} {base : Nat} {spare : Nat → Bool} {held : Bool} {t e : TypeId} {k : IntKind} {a : Option Addr} {len cap : Nat} {d : DataW H} {ps : List MemPlace} {ts : List TypeId} {ds : List (DataW H)} {j : Nat}
    (hsz : (DataW.weightsEach P ts ds).all (· ≤ reachBytes) = true) (ht : ts[j]? = some t) (hd : ds[j]? = some d) (hu : P.underlying t = some (.slice e)) (he : P.underlying e = some (.int k)) (hc : P.cellsOf e = 1) {B : Nat} (hB : P.bytesOf e = B)
    (h : DataW.Trod enc P W base spare held t (.slice a len cap) d ps) : len * B ≤ 140737488351232 := by
  obtain ⟨fuel, hf⟩ := h
  rcases open_ints hu he hc hf with ⟨hcs, _⟩ | ⟨x, l, c, zs, hcs, _, hl, _, hz, hx, _, _⟩
  · simp [Value.cells] at hcs
    obtain ⟨rfl, rfl, rfl⟩ := hcs
    simp
  · simp [Value.cells] at hcs
    obtain ⟨rfl, rfl, rfl⟩ := hcs
    obtain ⟨hx, _⟩ := Prod.mk.inj hx
    subst hx
    have z := sized_slice hsz ht hd hu
    rw [hB] at z
    have hl2 : len ≤ zs.length := by
      rw [hz]
      split
      · exact hl
      · exact Nat.le_refl _
    have h1 : (lits (H := H) k (zs.take len)).length + (lits (H := H) k (zs.drop len)).length = zs.length := by
      simp [lits]
      omega
    rw [h1] at z
    exact Nat.le_trans (Nat.mul_le_mul_right _ hl2) z
end Go.Proofs.YtfclfjengfmjaaaW.PrintWords
namespace Go.Proofs.Ytfclfjengfmjaaa.fnDefects
open Go.ChangeShapes Go.WideShapes Go.ChangeAt Go.RowKit
open Go.ChangeMaps (open_string shut_string)
set_option linter.unusedVariables false
theorem own : ownKnob Try.prog.godebug = none := by kernel_rfl
theorem laidOut : laidOutB Try.prog = true := by kernel_rfl
def IsRow (k : IntKind) (w : World) (a : Option Addr) (len cap : Nat) (zs : List Int) : Prop :=
  (a = none ∧ len = 0 ∧ cap = 0 ∧ zs = []) ∨
  ∃ x, a = some x ∧ len ≤ cap ∧ cap ≤ maxLen ∧ zs.length = cap ∧ (∀ i, i < zs.length → w.cell? (x.add i) = some (.int k (zs.getD i 0))) ∧ ∀ n ∈ zs, (Lit.int k n).wf = true
set_option maxRecDepth 100000 in
theorem lifted (os : Os) (started : os.Started) (H : Type) (enc : TypeId × Value → H) :
    ReturnsInHanded {} Try.checked os 10 .any (Rows.fnDefectsSpec.pre6 enc Try.prog Try.f10 Rows.fnDefectsRow.domain false) (Rows.fnDefectsSpec.post enc Try.prog Try.f10 false true false false) := by
  refine returnsInHanded_of_change_sized (C := Try.checked) own started (by kernel_rfl) Try.func10
    (ChangeSpec.witness6 (enc := enc) (C := Try.checked) false ⟨#[], #[.slice none 0 0, .slice none 0 0], []⟩ 8 (by kernel_rfl) (by kernel_rfl) (by kernel_rfl) (by kernel_rfl)) ?_
  intro W base args ds gs before hval0 hW hcnd hsz0 _
  have hsz : (DataW.weightsEach Try.prog (Try.f10.params.toList ++ Rows.fnDefectsSpec.plain.varTypes Try.prog) (ds ++ gs)).all (· ≤ reachBytes) = true := hsz0
  have hval : ∀ (j : Nat) t v, Try.f10.params[j]? = some t → args[j]? = some v → Value.okWide Try.prog W .any base t v := hval0
  have hW' := hW
  obtain ⟨p, q, hA0, hV, rfl, hfz, hnd⟩ := hW
  have hA : DataW.TrodAll enc Try.prog W 0 (fun _ => true) true Try.f10.params.toList args.toList ds p := hA0
  rw [Try.params10] at hA hval hsz
  obtain ⟨v0, vs0, d0, ds0, p0, q0, hargs, rfl, rfl, h0, r0⟩ := trodAll_cons hA
  obtain ⟨v1, vs1, d1, ds1, p1, q1, rfl, rfl, rfl, h1, r1⟩ := trodAll_cons r0
  obtain ⟨rfl, rfl, rfl⟩ := trodAll_nil r1
  obtain rfl : args = #[v0, v1] := by cases args; simp_all
  obtain ⟨rfl, rfl⟩ := trodVars_none hV
  obtain ⟨a0, len0, cap0, rfl⟩ := okWide_slice Try.underlying28 (hval 0 28 v0 rfl rfl)
  have k0 := h0
  have lt0 : ∀ x ∈ p0, x.block < W.heap.size := by obtain ⟨m, hm⟩ := k0; exact DataW.trod_lt m _ _ _ hm
  obtain ⟨z0, w0⟩ : ∃ zs, IsRow .u8 W a0 len0 cap0 zs := by
    obtain ⟨fuel, hf⟩ := h0
    rcases open_ints Try.underlying28 Try.underlying5 (by kernel_rfl) hf with ⟨hcs, _⟩ | ⟨x, l, c, zs, hcs, _, hl, hm, hz, _, hcell, hwz⟩
    · simp [Value.cells] at hcs
      obtain ⟨rfl, rfl, rfl⟩ := hcs
      exact ⟨[], .inl ⟨rfl, rfl, rfl, rfl⟩⟩
    · simp [Value.cells] at hcs
      obtain ⟨rfl, rfl, rfl⟩ := hcs
      exact ⟨zs, .inr ⟨_, rfl, hl, hm, by simpa using hz, hcell, hwz⟩⟩
  have y0 : len0 * 1 ≤ 140737488351232 := Go.Proofs.YtfclfjengfmjaaaW.PrintWords.sized_ints hsz (j := 0) (t := 28) rfl rfl Try.underlying28 Try.underlying5 (by kernel_rfl) (by kernel_rfl) h0
  obtain ⟨a1, len1, cap1, rfl⟩ := okWide_slice Try.underlying28 (hval 1 28 v1 rfl rfl)
  have k1 := h1
  have lt1 : ∀ x ∈ p1, x.block < W.heap.size := by obtain ⟨m, hm⟩ := k1; exact DataW.trod_lt m _ _ _ hm
  obtain ⟨z1, w1⟩ : ∃ zs, IsRow .u8 W a1 len1 cap1 zs := by
    obtain ⟨fuel, hf⟩ := h1
    rcases open_ints Try.underlying28 Try.underlying5 (by kernel_rfl) hf with ⟨hcs, _⟩ | ⟨x, l, c, zs, hcs, _, hl, hm, hz, _, hcell, hwz⟩
    · simp [Value.cells] at hcs
      obtain ⟨rfl, rfl, rfl⟩ := hcs
      exact ⟨[], .inl ⟨rfl, rfl, rfl, rfl⟩⟩
    · simp [Value.cells] at hcs
      obtain ⟨rfl, rfl, rfl⟩ := hcs
      exact ⟨zs, .inr ⟨_, rfl, hl, hm, by simpa using hz, hcell, hwz⟩⟩
  have y1 : len1 * 1 ≤ 140737488351232 := Go.Proofs.YtfclfjengfmjaaaW.PrintWords.sized_ints hsz (j := 1) (t := 28) rfl rfl Try.underlying28 Try.underlying5 (by kernel_rfl) (by kernel_rfl) h1
  clear hA0 hval0 hsz0 hsz
  refine (G.laws_FnDefects.walk Pure.FnDefects a0 len0 cap0 z0 a1 len1 cap1 z1 W w0 y0 w1 y1).mono fun e W' ⟨he, bel⟩ => ?_
  subst he
  exact ⟨_, rfl, _, _, _, [], _, [], hW', trodAll_mk1 (shut_bool Try.underlying4 _), (trodAll_cons_mk (Below.trod laidOut (by kernel_rfl) (of_decide_eq_true (by kernel_rfl)) k0 bel lt0) (trodAll_cons_mk (Below.trod laidOut (by kernel_rfl) (of_decide_eq_true (by kernel_rfl)) k1 bel lt1) trodAll_mk0)), rfl, bel.frame _, fun h => by cases h⟩
theorem over : Rows.fnDefectsRow.holds Try.pinned (OpenSpec.ofChange Rows.fnDefectsSpec) :=
  OpenClaim.holds_of_wide 10 Try.f10 rfl rfl rfl rfl rfl rfl rfl ⟨rfl, rfl, rfl, rfl, rfl⟩ rfl rfl rfl rfl rfl (by kernel_rfl) Try.func10 (by kernel_rfl)
    (of_decide_eq_true (by kernel_rfl)) (by unfold Func.isWrapper; first | (rw [if_pos (by decide +kernel)]; kernel_rfl) | (rw [if_neg (by decide +kernel)]; exact ⟨rfl, rfl⟩))
    (fun os started H enc _ => lifted os started H enc)
theorem proved : Rows.FnDefectsSaid := over
#print axioms proved
end Go.Proofs.Ytfclfjengfmjaaa.fnDefects
namespace Go.Proofs.Ytfclfjengfmjaaa
/-- The row, under a short name, for the claim. -/
theorem fnDefects_holds : Rows.FnDefectsSaid := fnDefects.proved
end Go.Proofs.Ytfclfjengfmjaaa
