/- The law FnLongCars: part 5 of the printed functions and the facts on them that its row leans on (merged by this session's slim.py). -/
import Derived.Test.YtfclfjengfmjaaaZFnLongCars4
namespace Go.Proofs.Ytfclfjengfmjaaa.G
open Go.RowKit Go.Proofs.YtfclfjengfmjaaaW.PrintWords Go.Proofs.YtfclfjengfmjaaaW.PrintLast Go.Proofs.YtfclfjengfmjaaaW.PrintMore
set_option linter.unusedVariables false
set_option linter.unusedSimpArgs false
theorem impl_StretchList_ev (l w : List Int) (hl : l.length ≤ 4611686018427387904) (hw : w.length ≤ 4611686018427387904) : Ev (fun k => impl_StretchList.f k l w) (stretchP l w) := by
  unfold impl_StretchList.f stretchP
  refine Ev.bind (isParking_ev l) ?_
  cases h1 : parkB l with
  | false =>
    simp only [Bool.false_eq_true, if_false, Bool.false_and]
    exact Ev.end_ fun k => by rw [impl_StretchList.j0, if_pos rfl]
  | true =>
    simp only [if_true, Bool.true_and]
    refine Ev.bind (areLengths_ev w) ?_
    cases h2 : lenB w with
    | false =>
      simp only [Bool.false_eq_true, if_false, Bool.false_and]
      exact Ev.end_ fun k => by rw [impl_StretchList.j0, if_pos rfl]
    | true =>
      simp only [if_true, Bool.true_and]
      have hp := lenB_parts h2
      have hq := plcs_len l
      by_cases e : l.length = w.length
      · rw [show ((l.length : Int) != (w.length : Int)) = false by simp [e]]
        simp only [decide_eq_true e, if_true]
        refine Ev.step (fun k => by rw [impl_StretchList.j0, if_neg (by decide)]) ?_
        refine Ev.bind (drive_park h1) ?_
        have := im_str_l0 (plcs l) w l (by omega) (by omega) (by omega) hp.2.2.2.2.2 l.length 0 [] (by omega) (by simp)
        simpa using this
      · rw [show ((l.length : Int) != (w.length : Int)) = true by simp; omega]
        simp only [decide_eq_false e, Bool.false_eq_true, if_false]
        exact Ev.end_ fun k => by rw [impl_StretchList.j0, if_pos rfl]
theorem jSame_ev (a : List Int) (hn : a.length ≤ 4611686018427387904) : Ev (fun k => laws_jSame.f k a a) true := by
  unfold laws_jSame.f
  simp only [if_true]
  refine Ev.up0 a.length (fun _ => ()) (fun k _ q => laws_jSame.l0 k a a (a.length : Int) q) true (fun q hq h => Ev.one h fun k => ?_) (Ev.end_ fun k => ?_)
  · rw [laws_jSame.l0, if_pos (by omega), if_pos (by omega), if_pos (by omega), if_pos (by omega), if_pos rfl, wrap_next (n := a.length) hq hn]
  · rw [laws_jSame.l0, if_neg (by omega)]
theorem jSum_ev (l : List Int) (hl : l.length ≤ 1000) (hb : ∀ j, -1000 ≤ l.getD j 0 ∧ l.getD j 0 ≤ 1000) : Ev (fun k => laws_jSum.f k l) l.sum := by
  unfold laws_jSum.f
  have hs := take_range (l := l) (B := 1000) (by omega) hb
  have := Ev.up0 l.length (fun q => (l.take q).sum) (fun k s q => laws_jSum.l0 k s l (l.length : Int) q) l.sum (fun q hq h => Ev.one h fun k => ?_) (Ev.end_ fun k => ?_)
  · simpa using this
  · have := hs q (by omega)
    have := hb q
    rw [laws_jSum.l0, if_pos (by omega), if_pos (by omega), if_pos (by omega), rd_nat, wrap_id (x := (l.take q).sum + l.getD q 0) (by omega) (by omega), wrap_next (n := l.length) hq (by omega), take_sum' hq]
  · rw [laws_jSum.l0, if_neg (by omega), List.take_length]
theorem least_eq (a b : Int) : spec_l1Least.f a b = some (if a < b then a else b) := by
  unfold spec_l1Least.f
  split <;> rfl
theorem lengths_end {l : List Int} (hb : Bytes l) (x : List Int) (left n p s : Int) (hx : x.length ≤ 9) (h0 : 0 ≤ p) (h1 : p ≤ 10000000000000000) :
    ∃ out p' s', Ev (fun k => spec_l1Cur_lengths.j1 k x left n false l p s) (out, p', s') ∧ out.length ≤ x.length + 1 ∧ p ≤ p' ∧ p' ≤ p + 4 := by
  obtain ⟨b, p1, s1, e1, b1, b2⟩ := one_ok hb p s 15 h0 (by omega)
  cases b with
  | true =>
    obtain ⟨v, p2, s2, e2, b3, b4⟩ := among_ok hb p1 s1 [0, -1, 1, 12, 4611686018427387904] (by simp) (by omega) (by omega)
    refine ⟨x ++ [v], p2, s2, Ev.end_ fun k => ?_, by simp, by omega, by omega⟩
    rw [spec_l1Cur_lengths.j1, if_neg (by decide), e1, Option.bind_some]
    simp only [if_true]
    rw [e2, Option.bind_some, if_pos (by omega)]
  | false =>
    refine ⟨x, p1, s1, Ev.end_ fun k => ?_, by omega, by omega, by omega⟩
    rw [spec_l1Cur_lengths.j1, if_neg (by decide), e1, Option.bind_some]
    simp only [Bool.false_eq_true, if_false]
theorem lengths_l0 {l : List Int} (hb : Bytes l) : ∀ (d : Nat) (x : List Int) (left p s : Int), x.length + d ≤ 9 → 0 ≤ left → left ≤ 12 → 0 ≤ p → p + 4 * d ≤ 1000000000000000 →
    ∃ out p' s', Ev (fun k => spec_l1Cur_lengths.l0 k x left (d : Int) l p s) (out, p', s') ∧ out.length ≤ x.length + d + 1 ∧ p ≤ p' ∧ p' ≤ p + 4 * d + 4 := by
  intro d
  induction d with
  | zero =>
    intro x left p s hd hl0 hl1 h0 h1
    obtain ⟨out, p', s', he, ho, a1, a2⟩ := lengths_end hb x left 0 p s (by omega) h0 (by omega)
    exact ⟨out, p', s', Ev.one he fun k => by rw [spec_l1Cur_lengths.l0, if_neg (by omega)]; rfl, by omega, by omega, by omega⟩
  | succ d ih =>
    intro x left p s hd hl0 hl1 h0 h1
    by_cases hp : left > 0
    · obtain ⟨t, ht⟩ : ∃ t, t = (if left < 3 then left else 3) := ⟨_, rfl⟩
      have ht2 : 1 ≤ t ∧ t ≤ 3 ∧ t ≤ left := by rw [ht]; split <;> omega
      obtain ⟨r, p1, s1, e1, b1, b2, b3, b4⟩ := pick_ok hb p s t h0 (by omega)
      obtain ⟨out, p', s', he, ho, a1, a2⟩ := ih (x ++ [1 + r]) (left - (1 + r)) p1 s1 (by simp; omega) (by omega) (by omega) (by omega) (by omega)
      refine ⟨out, p', s', Ev.step (f := fun k => spec_l1Cur_lengths.j1 k x left ((d + 1 : Nat) : Int) true l p s) (fun k => by rw [spec_l1Cur_lengths.l0, if_pos (by omega), decide_eq_true hp]) (Ev.one he fun k => ?_), by simp at ho; omega, by omega, by omega⟩
      rw [spec_l1Cur_lengths.j1, if_pos rfl, least_eq, Option.bind_some, ← ht, e1, Option.bind_some]
      simp only
      rw [if_pos (by omega), wrap_id (x := 1 + r) (by omega) (by omega), wrap_id (x := left - (1 + r)) (by omega) (by omega), wrap_id (x := ((d + 1 : Nat) : Int) - 1) (by omega) (by omega), show ((d + 1 : Nat) : Int) - 1 = (d : Int) by omega]
    · obtain ⟨out, p', s', he, ho, a1, a2⟩ := lengths_end hb x left ((d + 1 : Nat) : Int) p s (by omega) h0 (by omega)
      exact ⟨out, p', s', Ev.one he fun k => by rw [spec_l1Cur_lengths.l0, if_pos (by omega), decide_eq_false hp], by omega, by omega, by omega⟩
theorem lengths_ok {l : List Int} (hb : Bytes l) (p s : Int) (a : Int) (ha : 0 ≤ a ∧ a ≤ 8) (h0 : 0 ≤ p) (h1 : p ≤ 10000000000000) : ∃ out p' s', Ev (fun k => spec_l1Cur_lengths.f k l p s a) (out, p', s') ∧ out.length ≤ 9 ∧ p ≤ p' ∧ p' ≤ p + 60 := by
  obtain ⟨r, p1, s1, e1, b1, b2, b3, b4⟩ := pick_ok hb p s (a + 1) h0 (by omega)
  obtain ⟨out, p', s', he, ho, hp1, hp2⟩ := lengths_l0 hb r.toNat [] 12 p1 s1 (by simp; omega) (by omega) (by omega) (by omega) (by omega)
  refine ⟨out, p', s', ?_, by simp at ho; omega, by omega, by omega⟩
  unfold spec_l1Cur_lengths.f
  simp only [wrap_id (x := a + 1) (by omega) (by omega), e1, Option.bind_some]
  rw [show (r.toNat : Int) = r by omega] at he
  exact he
theorem DrawDriveLong_j2 {l : List Int} (hb : Bytes l) (w : List Int) (S : Int) (x : List Int) (p s : Int) (h0 : 0 ≤ p) (h1 : p ≤ 1000000000000) : ∃ out, Ev (fun k => spec_DrawDriveLong.j2 k w S x l p s) (out, w) ∧ out.length = x.length := by
  by_cases hx : (x.length : Int) > 0
  · obtain ⟨b, p1, s1, e1, b1, b2⟩ := one_ok hb p s 15 h0 (by omega)
    cases b with
    | true =>
      obtain ⟨v, p2, s2, e2, b3, b4⟩ := among_ok hb p1 s1 [-1, S, wrap64 (S - 1)] (by simp) (by omega) (by omega)
      refine ⟨x.set 0 v, Ev.end_ fun k => ?_, by simp⟩
      rw [spec_DrawDriveLong.j2, if_pos hx, e1, Option.bind_some]
      simp only [if_true]
      rw [e2, Option.bind_some, if_pos (by omega)]
      rfl
    | false =>
      refine ⟨x, Ev.end_ fun k => ?_, rfl⟩
      rw [spec_DrawDriveLong.j2, if_pos hx, e1, Option.bind_some]
      simp only [Bool.false_eq_true, if_false]
  · refine ⟨x, Ev.end_ fun k => ?_, rfl⟩
    rw [spec_DrawDriveLong.j2, if_neg hx]
theorem DrawDriveLong_l0 {l : List Int} (hb : Bytes l) (w : List Int) (hw : w.length ≤ 9) (S : Int) : ∀ (d i : Nat) (x : List Int) (p s : Int), i + d = w.length → x.length = i → 0 ≤ p → p + 4 * d ≤ 100000000000 →
    ∃ out, Ev (fun k => spec_DrawDriveLong.l0 k w S x (w.length : Int) (i : Int) l p s) (out, w) ∧ out.length ≤ 10 := by
  intro d
  induction d with
  | zero =>
    intro i x p s hd hx h0 h1
    obtain ⟨b, p1, s1, e1, b1, b2⟩ := one_ok hb p s 15 h0 (by omega)
    cases b with
    | true =>
      obtain ⟨v, p2, s2, e2, b3, b4⟩ := among_ok hb p1 s1 [0, -1] (by simp) (by omega) (by omega)
      obtain ⟨out, he, ho⟩ := DrawDriveLong_j2 hb w S (x ++ [v]) p2 s2 (by omega) (by omega)
      refine ⟨out, Ev.one he fun k => ?_, by simp at ho; omega⟩
      rw [spec_DrawDriveLong.l0, if_neg (by omega), e1, Option.bind_some]
      simp only [if_true]
      rw [e2, Option.bind_some, if_pos (by omega)]
    | false =>
      obtain ⟨out, he, ho⟩ := DrawDriveLong_j2 hb w S x p1 s1 (by omega) (by omega)
      refine ⟨out, Ev.one he fun k => ?_, by omega⟩
      rw [spec_DrawDriveLong.l0, if_neg (by omega), e1, Option.bind_some]
      simp only [Bool.false_eq_true, if_false]
  | succ d ih =>
    intro i x p s hd hx h0 h1
    obtain ⟨r, p1, s1, e1, b1, b2, b3, b4⟩ := pick_ok hb p s S h0 (by omega)
    obtain ⟨v, p2, s2, e2, b5, b6, b7, b8⟩ := pick_ok hb p1 s1 (wrap64 (S - r)) (by omega) (by omega)
    obtain ⟨out, he, ho⟩ := ih (i + 1) (x ++ [v]) p2 s2 (by omega) (by simp; omega) (by omega) (by omega)
    refine ⟨out, Ev.one he fun k => ?_, ho⟩
    rw [spec_DrawDriveLong.l0, if_pos (by omega), e1, Option.bind_some]
    simp only
    rw [e2, Option.bind_some]
    simp only
    rw [if_pos (by omega), wrap_next (n := w.length) (by omega) (by omega)]
theorem DrawDriveLong_ok {l : List Int} (hb : Bytes l) : ∃ out w, Ev (fun k => spec_DrawDriveLong.f k l) (out, w) ∧ out.length ≤ 10 ∧ w.length ≤ 10 := by
  obtain ⟨w, p, s, he, ho, a1, a2⟩ := lengths_ok hb 0 0 5 (by omega) (by omega) (by omega)
  cases hL : lenB w with
  | true =>
    have hp := lenB_parts hL
    obtain ⟨out, h1, h2⟩ := DrawDriveLong_l0 hb w ho w.sum w.length 0 [] p s (by omega) rfl (by omega) (by omega)
    refine ⟨out, w, ?_, h2, by omega⟩
    unfold spec_DrawDriveLong.f
    refine Ev.bind he ?_
    refine Ev.bind (loLengths_ev w (by omega)) ?_
    simp only [hL, if_true]
    refine Ev.bind (paSum_ev w (by omega) hp.2.2.2.2.2) ?_
    exact Ev.one h1 fun k => by rw [spec_DrawDriveLong.j0]; rfl
  | false =>
    obtain ⟨out, h1, h2⟩ := DrawDriveLong_l0 hb w ho 1 w.length 0 [] p s (by omega) rfl (by omega) (by omega)
    refine ⟨out, w, ?_, h2, by omega⟩
    unfold spec_DrawDriveLong.f
    refine Ev.bind he ?_
    refine Ev.bind (loLengths_ev w (by omega)) ?_
    simp only [hL, Bool.false_eq_true, if_false]
    exact Ev.one h1 fun k => by rw [spec_DrawDriveLong.j0]; rfl
theorem park_ok5 {l : List Int} (hb : Bytes l) (p s : Int) (h0 : 0 ≤ p) (h1 : p ≤ 10000000000000) : ∃ out p' s', Ev (fun k => spec_l1Cur_park.f k l p s 5) (out, p', s') ∧ out.length ≤ 10 ∧ p ≤ p' ∧ p' ≤ p + 60 := by
  obtain ⟨r, p1, s1, e1, b1, b2, b3, b4⟩ := pick_ok hb p s (wrap64 (5 + 1)) h0 (by omega)
  have e9 : wrap64 (5 + 1) = 6 := wrap_id (by omega) (by omega)
  rw [e9] at b2
  obtain ⟨out, p', s', he, ho, hp1, hp2⟩ := park_l0 hb r.toNat [] p1 s1 (by simp; omega) (by omega) (by omega)
  refine ⟨out, p', s', ?_, ho, by omega, by omega⟩
  unfold spec_l1Cur_park.f
  simp only [e1, Option.bind_some]
  rw [show (r.toNat : Int) = r by omega] at he
  exact he
theorem DrawStretch_l0 (x : List Int) (hx : x.length ≤ 10) : ∀ (d : Nat) (w : List Int), w.length + d = 20 → w.length ≤ 11 → ∃ v, Ev (fun k => spec_DrawStretchList.l0 k x w) (x, v) ∧ v.length ≤ 11 := by
  intro d
  induction d with
  | zero => intro w h1 h2; omega
  | succ d ih =>
    intro w h1 h2
    by_cases c1 : (w.length : Int) < (x.length : Int)
    · by_cases c2 : (x.length : Int) ≤ 8
      · obtain ⟨v, hv, hl⟩ := ih (w ++ [1]) (by simp; omega) (by simp; omega)
        exact ⟨v, Ev.one hv fun k => by rw [spec_DrawStretchList.l0, if_pos c1, if_pos c2, if_pos (by omega)], hl⟩
      · exact ⟨w, Ev.end_ fun k => by rw [spec_DrawStretchList.l0, if_pos c1, if_neg c2], by omega⟩
    · exact ⟨w, Ev.end_ fun k => by rw [spec_DrawStretchList.l0, if_neg c1], by omega⟩
theorem DrawStretch_j0 {l : List Int} (hb : Bytes l) (x w : List Int) (hx : x.length ≤ 10) (hw : w.length ≤ 10) (p s : Int) (h0 : 0 ≤ p) (h1 : p ≤ 1000000000000) : ∃ v, Ev (fun k => spec_DrawStretchList.j0 k x w l p s) (x, v) ∧ v.length ≤ 11 := by
  obtain ⟨b, p1, s1, e1, b1, b2⟩ := one_ok hb p s 6 h0 (by omega)
  cases b with
  | true => exact ⟨w, Ev.end_ fun k => by rw [spec_DrawStretchList.j0, e1, Option.bind_some]; rfl, by omega⟩
  | false =>
    obtain ⟨v, hv, hl⟩ := DrawStretch_l0 x hx (20 - w.length) w (by omega) (by omega)
    exact ⟨v, Ev.one hv fun k => by rw [spec_DrawStretchList.j0, e1, Option.bind_some]; rfl, hl⟩
theorem DrawStretchList_ok {l : List Int} (hb : Bytes l) : ∃ x v, Ev (fun k => spec_DrawStretchList.f k l) (x, v) ∧ x.length ≤ 10 ∧ v.length ≤ 11 := by
  obtain ⟨x, p, s, he, ho, a1, a2⟩ := park_ok5 hb 0 0 (by omega) (by omega)
  obtain ⟨w, p2, s2, he2, ho2, a3, a4⟩ := lengths_ok hb p s 5 (by omega) (by omega) (by omega)
  by_cases c : (w.length : Int) > (x.length : Int)
  · obtain ⟨v, hv, hl⟩ := DrawStretch_j0 hb x (w.take x.length) ho (by simp; omega) p2 s2 (by omega) (by omega)
    refine ⟨x, v, ?_, ho, hl⟩
    unfold spec_DrawStretchList.f
    refine Ev.bind he (Ev.bind he2 ?_)
    simp only [c, show (0 : Int) ≤ (x.length : Int) by omega, show (x.length : Int) ≤ (w.length : Int) by omega, if_true, Int.toNat_natCast]
    exact hv
  · obtain ⟨v, hv, hl⟩ := DrawStretch_j0 hb x w ho (by omega) p2 s2 (by omega) (by omega)
    refine ⟨x, v, ?_, ho, hl⟩
    unfold spec_DrawStretchList.f
    refine Ev.bind he (Ev.bind he2 ?_)
    simp only [c, if_false]
    exact hv
def isP (l w : List Int) : Bool × Bool := if taskB l w = true then (decide ((longs l w).length = l.length), true) else (false, false)
def blP (l w : List Int) : Int × Bool := if taskB l w = true then (if (longs l w).length = l.length then (0, false) else ((longs l w).length, true)) else (0, false)
theorem beq_len (a b : Nat) : ((a : Int) == (b : Int)) = decide (a = b) := by
  rw [Bool.eq_iff_iff]; simp; omega
theorem impl_IsLong_ev (l w : List Int) : Ev (fun k => impl_IsLongParking.f k l w) (isP l w) := by
  unfold impl_IsLongParking.f isP
  refine Ev.bind (areLong_ev l w) ?_
  cases h : taskB l w with
  | true => simp only [if_true]; refine Ev.bind (driveLong_ev h) ?_; rw [beq_len]; exact Ev.now _
  | false => simp only [Bool.false_eq_true, if_false]; exact Ev.now _
theorem spec_IsLong_ev (l w : List Int) (hl : l.length ≤ 4611686018427387904) (hw : w.length ≤ 4611686018427387904) : Ev (fun k => spec_IsLongParking.f k l w) (isP l w) := by
  unfold spec_IsLongParking.f isP
  refine Ev.bind (loTask_ev l w hl hw) ?_
  cases h : taskB l w with
  | true => simp only [if_true]; refine Ev.bind (loDrive_ev h) ?_; rw [beq_len]; exact Ev.now _
  | false => simp only [Bool.false_eq_true, if_false]; exact Ev.now _
theorem impl_Blocked_ev (l w : List Int) : Ev (fun k => impl_BlockedCar.f k l w) (blP l w) := by
  unfold impl_BlockedCar.f blP
  refine Ev.bind (areLong_ev l w) ?_
  cases h : taskB l w with
  | true =>
    simp only [if_true]; refine Ev.bind (driveLong_ev h) ?_
    by_cases e : (longs l w).length = l.length
    · simp only [e, if_true]; exact Ev.now _
    · simp only [show ¬ ((longs l w).length : Int) = (l.length : Int) from by omega, e, if_false]; exact Ev.now _
  | false => simp only [Bool.false_eq_true, if_false]; exact Ev.now _
theorem spec_Blocked_ev (l w : List Int) (hl : l.length ≤ 4611686018427387904) (hw : w.length ≤ 4611686018427387904) : Ev (fun k => spec_BlockedCar.f k l w) (blP l w) := by
  unfold spec_BlockedCar.f blP
  refine Ev.bind (loTask_ev l w hl hw) ?_
  cases h : taskB l w with
  | true =>
    simp only [if_true]; refine Ev.bind (loDrive_ev h) ?_
    by_cases e : (longs l w).length = l.length
    · simp only [e, if_true]; exact Ev.now _
    · simp only [show ¬ ((longs l w).length : Int) = (l.length : Int) from by omega, e, if_false]; exact Ev.now _
  | false => simp only [Bool.false_eq_true, if_false]; exact Ev.now _
theorem fav_ok {l w : List Int} (h : taskB l w = true) : impl_AreFavourites.f l w.sum = some true := by
  obtain ⟨h1, h2, h3⟩ := taskB_parts h
  have hp := lenB_parts h1
  unfold taskB at h
  simp only [Bool.and_eq_true] at h
  unfold impl_AreFavourites.f
  simp only [between_eq, areBetween_eq, Option.bind_some]
  rw [decide_eq_true (show 1 ≤ w.sum ∧ w.sum ≤ 12 from ⟨hp.2.2.2.1, hp.2.2.2.2.1⟩)]
  simp only [if_true]
  rw [if_pos (by omega), wrap_id (x := w.sum - 1) (by omega) (by omega), h.2]
theorem DriveCars_ev {l w : List Int} (h : taskB l w = true) (ha : allP w.sum.toNat (fun _ => false) (natL l) = true) : Ev (fun k => impl_DriveCars.f k l w.sum) (outP' w.sum.toNat (fun _ => false) (natL l), true) := by
  obtain ⟨h1, h2, h3⟩ := taskB_parts h
  have hp := lenB_parts h1
  unfold impl_DriveCars.f
  simp only [fav_ok h, Option.bind_some, if_true]
  have := drive_ev l w.sum.toNat (by omega) (by omega) (fun j hj => (h3 j hj).1)
  rw [if_pos ha, show ((w.sum.toNat : Nat) : Int) = w.sum by omega] at this
  exact Ev.bind this (Ev.now _)
/-- Cars of length one park as short ones do. -/
theorem upF_fwd (T : List Bool) : ∀ (d a : Nat), ParkT.fwdF (taken T) d a = if upF T d a < a + d then some (upF T d a) else none
  | 0, a => by simp [ParkT.fwdF, upF]
  | d + 1, a => by
    rw [ParkT.fwdF, upF]
    have e : taken T a = tk T a := rfl
    cases ht : tk T a with
    | true =>
      rw [e, ht, if_neg (by decide), if_pos rfl, upF_fwd T d (a + 1), show a + 1 + d = a + (d + 1) by omega]
    | false =>
      rw [e, ht, if_pos rfl]
      simp
theorem short_run (l w : List Int) (S : Nat) (hok : CarOk l w S) (hs : ∀ j, j < l.length → w.getD j 0 = 1) : ∀ (d i : Nat) (T : List Bool) (out : List Int), i + d = l.length → T.length = S → (longV l w d i T out).length = out.length + d →
    allP S (taken T) (natL (l.drop i)) = true ∧ longV l w d i T out = out ++ outP' S (taken T) (natL (l.drop i)) := by
  obtain ⟨h1, h2, h3, h4⟩ := hok
  intro d
  induction d with
  | zero =>
    intro i T out hd hT hl
    rw [List.drop_of_length_le (by omega), longV]
    simp [natL, allP, outP']
  | succ d ih =>
    intro i T out hd hT hl
    obtain ⟨⟨a, ha, haS⟩, W, hW, hW1, hW2⟩ := h4 i (by omega)
    have hw1 := hs i (by omega)
    obtain rfl : W = 1 := by omega
    have e0 : natL (l.drop i) = a :: natL (l.drop (i + 1)) := by
      rw [drop_getD (by omega), ha]
      show (a : Int).toNat :: natL (l.drop (i + 1)) = _
      rw [Int.toNat_natCast]
    rw [longV, ha, hW, Int.toNat_natCast, Int.toNat_natCast] at hl ⊢
    have hup := upF_le T (T.length - a) a
    have hf := upF_fwd T (S - a) a
    rw [e0, allP, outP']
    rw [hT] at hl hup ⊢
    generalize hx : upF T (S - a) a = x at hl hup hf ⊢
    cases hfr : freeW T x 1 with
    | false =>
      rw [hfr, if_neg (by decide)] at hl
      omega
    | true =>
      have hxT := freeW_le 1 x hfr (by omega)
      rw [hfr, if_pos rfl] at hl
      rw [if_pos (by omega)] at hf
      rw [hf, if_pos rfl]
      have hfill : fill T x 1 = T.set x true := rfl
      rw [hfill] at hl ⊢
      have := ih (i + 1) (T.set x true) (out ++ [(x : Int)]) (by omega) (by simpa using hT) (by rw [hl]; simp; omega)
      rw [taken_set (by omega)] at this
      refine ⟨this.1, ?_⟩
      rw [this.2]
      simp
theorem taken_none (S : Nat) : taken (List.replicate S false) = fun _ => false := by
  funext q
  unfold taken
  rw [List.getD_eq_getElem?_getD, List.getElem?_replicate]
  split <;> rfl
theorem longV_out (l w : List Int) : ∀ (d i : Nat) (T : List Bool) (out : List Int), ∃ r, longV l w d i T out = out ++ r
  | 0, _, _, out => ⟨[], by rw [longV]; simp⟩
  | d + 1, i, T, out => by
    rw [longV]
    split
    · obtain ⟨r, hr⟩ := longV_out l w d (i + 1) (fill T (upF T (T.length - (l.getD i 0).toNat) (l.getD i 0).toNat) (w.getD i 0).toNat) (out ++ [((upF T (T.length - (l.getD i 0).toNat) (l.getD i 0).toNat : Nat) : Int)])
      exact ⟨_, by rw [hr, List.append_assoc]⟩
    · exact ⟨[], by simp⟩
theorem freeW_set (T : List Bool) (p : Nat) : ∀ (W x : Nat), p < x → freeW (T.set p true) x W = freeW T x W
  | 0, _, _ => rfl
  | W + 1, x, h => by
    rw [freeW, freeW, freeW_set T p W (x + 1) (by omega)]
    have : tk (T.set p true) x = tk T x := by
      unfold tk
      rw [List.getD_eq_getElem?_getD, List.getD_eq_getElem?_getD, List.getElem?_set_ne (by omega)]
    rw [this, List.length_set]
end Go.Proofs.Ytfclfjengfmjaaa.G
namespace Go.Proofs.Ytfclfjengfmjaaa.Pure
open Go.RowKit Go.Proofs.Ytfclfjengfmjaaa.G Go.Proofs.YtfclfjengfmjaaaW.PrintWords Go.Proofs.YtfclfjengfmjaaaW.PrintLast Go.Proofs.YtfclfjengfmjaaaW.PrintMore
set_option linter.unusedVariables false
set_option linter.unusedSimpArgs false
theorem lc_j4 {m : List Int} (hb : Bytes m) : Ev (fun k => laws_FnLongCars.j4 k m) true := by
  obtain ⟨x, v, he, hx, hv⟩ := DrawStretchList_ok hb
  have hl := stretchP_len x v
  refine Ev.step (fun k => by rw [laws_FnLongCars.j4]) ?_
  refine Ev.bind he ?_
  refine Ev.bind (impl_StretchList_ev x v (by omega) (by omega)) ?_
  refine Ev.bind (spec_StretchList_ev x v (by omega) (by omega)) ?_
  simp only [beq_self_eq_true, if_true]
  exact Ev.bind (jSame_ev _ (by omega)) (Ev.now _)
end Go.Proofs.Ytfclfjengfmjaaa.Pure
namespace Go.Proofs.Ytfclfjengfmjaaa.Pure
open Go.RowKit Go.Proofs.Ytfclfjengfmjaaa.G Go.Proofs.YtfclfjengfmjaaaW.PrintWords Go.Proofs.YtfclfjengfmjaaaW.PrintLast Go.Proofs.YtfclfjengfmjaaaW.PrintMore
set_option linter.unusedVariables false
set_option linter.unusedSimpArgs false
section
variable (m l w R : List Int) (S : Int)
theorem lc_l1 (short : Bool) (i : Nat) (hi : i < w.length) (hi2 : i < l.length) (x : Nat) (hx : x ≤ 1000) (W : Nat) (hW : w.getD i 0 = W) (hW2 : W ≤ 1000) (hfx : ¬ (x : Int) < l.getD i 0) :
    ∀ (d q : Nat) (T : List Bool), q + d = x + W → T.length ≤ 1000 → freeW T q d = true → Ev (fun k => laws_FnLongCars.l0 k m l w R S (fill T q d) short R (R.length : Int) (wrap64 ((i : Int) + 1))) true → Ev (fun k => laws_FnLongCars.l1 k m l w R S T short (i : Int) (x : Int) (q : Int) R (R.length : Int) (i : Int)) true := by
  intro d
  induction d with
  | zero =>
    intro q T hd hT hf h
    refine Ev.one h fun k => ?_
    rw [laws_FnLongCars.l1, if_pos (by omega), if_pos (by omega), rd_nat, rd_nat, hW, wrap_id (x := (x : Int) + (W : Int)) (by omega) (by omega), if_neg (by omega), if_pos (by omega), if_neg hfx]
    rfl
  | succ d ih =>
    intro q T hd hT hf h
    rw [freeW] at hf
    simp only [Bool.and_eq_true, decide_eq_true_eq, Bool.not_eq_true'] at hf
    obtain ⟨⟨hq, ht⟩, hf⟩ := hf
    refine Ev.one (ih (q + 1) (T.set q true) (by omega) (by simpa using hT) (by rw [freeW_set T q d (q + 1) (by omega)]; exact hf) h) fun k => ?_
    rw [laws_FnLongCars.l1, if_pos (by omega), if_pos (by omega), rd_nat, hW, wrap_id (x := (x : Int) + (W : Int)) (by omega) (by omega), if_pos (by omega), if_pos (by omega), if_pos (by omega), rdOf_tk, ht, if_neg (by decide), Int.toNat_natCast, wrap_next (n := T.length) hq (by omega)]
theorem lc_l0 (hm : Bytes m) (ht : taskB l w = true) (hS : S = w.sum) (hR0 : longs l w = R) (hRl : R.length = l.length) : ∀ (d i : Nat) (T : List Bool) (out : List Int) (short : Bool), i + d = l.length → T.length = S.toNat → out.length = i → longV l w d i T out = R → (short = true → ∀ j, j < i → w.getD j 0 = 1) → Ev (fun k => laws_FnLongCars.l0 k m l w R S T short R (R.length : Int) (i : Int)) true := by
  have hok := taskB_ok ht
  rw [← hS] at hok
  obtain ⟨h1, h2, h3, h4⟩ := hok
  intro d
  induction d with
  | zero =>
    intro i T out short hd hT ho hV hs
    cases short with
    | true =>
      have hall : ∀ j, j < l.length → w.getD j 0 = 1 := fun j hj => hs rfl j (by omega)
      have hrun := short_run l w S.toNat ⟨h1, h2, h3, h4⟩ hall l.length 0 (List.replicate S.toNat false) [] (by omega) (by simp) (by
        have : longV l w l.length 0 (List.replicate S.toNat false) [] = R := by rw [← hR0, hS]; rfl
        rw [this, hRl]; simp)
      rw [taken_none, List.drop_zero] at hrun
      have hR : R = outP' S.toNat (fun _ => false) (natL l) := by
        have e : longV l w l.length 0 (List.replicate S.toNat false) [] = R := by rw [← hR0, hS]; rfl
        rw [← e, hrun.2]; simp
      refine Ev.step (f := fun k => (impl_DriveCars.f k l S).bind fun bt806 => (if bt806.2 = true then ((laws_jSame.f k bt806.1 R).bind fun t810 => (if t810 = true then (laws_FnLongCars.j4 k m) else (some false))) else (some false))) (fun k => by rw [laws_FnLongCars.l0, if_neg (by omega), if_pos rfl]) ?_
      have hd := DriveCars_ev ht (by rw [← hS]; exact hrun.1)
      rw [← hS, ← hR] at hd
      refine Ev.bind hd ?_
      simp only [if_true]
      refine Ev.bind (jSame_ev R (by omega)) ?_
      simp only [if_true]
      exact lc_j4 hm
    | false =>
      refine Ev.one (lc_j4 hm) fun k => ?_
      rw [laws_FnLongCars.l0, if_neg (by omega), if_neg (by decide)]
  | succ d ih =>
    intro i T out short hd hT ho hV hs
    obtain ⟨⟨a, ha, haS⟩, W, hW, hW1, hW2⟩ := h4 i (by omega)
    rw [longV, ha, hW, Int.toNat_natCast, Int.toNat_natCast] at hV
    have hup := upF_le T (T.length - a) a
    generalize hx : upF T (T.length - a) a = x at hup hV
    cases hf : freeW T x W with
    | false =>
      rw [hf, if_neg (by decide)] at hV
      rw [← hV, ho] at hRl
      omega
    | true =>
      rw [hf, if_pos rfl] at hV
      have hRi : R.getD i 0 = x := by
        obtain ⟨r, hr⟩ := longV_out l w d (i + 1) (fill T x W) (out ++ [(x : Int)])
        rw [← hV, hr, List.getD_eq_getElem?_getD, List.append_assoc, List.getElem?_append_right (by omega), ho]
        simp
      have key : ∀ sh : Bool, (sh = true → ∀ j, j < i + 1 → w.getD j 0 = 1) → Ev (fun k => laws_FnLongCars.j2 k m l w R S T sh (i : Int) (x : Int) R (R.length : Int) (i : Int)) true := by
        intro sh hsh
        have h0 := ih (i + 1) (fill T x W) (out ++ [(x : Int)]) sh (by omega) (by rw [fill_len]; exact hT) (by simp; omega) hV hsh
        refine Ev.one (lc_l1 m l w R S sh i (by omega) (by omega) x (by omega) W hW hW2 (by omega) W x T rfl (by omega) hf (by rw [wrap_next (n := l.length) (by omega) (by omega)]; exact h0)) fun k => ?_
        rw [laws_FnLongCars.j2]
      cases short with
      | true =>
        refine Ev.one (key ((w.getD i 0) == 1) ?_) fun k => ?_
        · intro h1 j hj
          by_cases e : j = i
          · subst e; simpa using h1
          · exact hs rfl j (by omega)
        · rw [laws_FnLongCars.l0, if_pos (by omega), if_pos (by omega), if_pos (by omega), if_pos rfl, if_pos (by omega), rd_nat, rd_nat, hRi]
      | false =>
        refine Ev.one (key false (fun h => by cases h)) fun k => ?_
        rw [laws_FnLongCars.l0, if_pos (by omega), if_pos (by omega), if_pos (by omega), if_neg (by decide), rd_nat, hRi]
end
end Go.Proofs.Ytfclfjengfmjaaa.Pure
namespace Go.Proofs.Ytfclfjengfmjaaa.Pure
open Go.RowKit Go.Proofs.Ytfclfjengfmjaaa.G Go.Proofs.YtfclfjengfmjaaaW.PrintWords Go.Proofs.YtfclfjengfmjaaaW.PrintLast Go.Proofs.YtfclfjengfmjaaaW.PrintMore
set_option linter.unusedVariables false
set_option linter.unusedSimpArgs false
theorem lc_j0 {m l w : List Int} (hm : Bytes m) : Ev (fun k => laws_FnLongCars.j0 k m l w (longP l w).1 (longP l w).2 false) true := by
  unfold longP
  cases ht : taskB l w with
  | false =>
    simp only [Bool.false_eq_true, if_false]
    refine Ev.one (lc_j4 hm) fun k => ?_
    rw [laws_FnLongCars.j0, if_neg (by decide), if_neg (by decide)]
  | true =>
    simp only [if_true]
    by_cases hh : (longs l w).length < l.length
    · simp only [hh, if_true]
      refine Ev.one (lc_j4 hm) fun k => ?_
      rw [laws_FnLongCars.j0, if_neg (by decide), if_neg (by decide)]
    · simp only [hh, if_false]
      have hl := longs_len l w
      have hp := lenB_parts (taskB_parts ht).1
      have h0 := lc_l0 m l w (longs l w) w.sum hm ht rfl rfl (by omega) l.length 0 (List.replicate w.sum.toNat false) [] true (by omega) (by simp) rfl rfl (fun _ j hj => by omega)
      refine Ev.step (f := fun k => (laws_jSum.f k w).bind fun t796 => (if 0 ≤ t796 then (if (t796 : Int).toNat ≤ 281474976710656 then (laws_FnLongCars.l0 k m l w (longs l w) t796 (List.replicate (t796 : Int).toNat false) true (longs l w) ((longs l w).length : Int) 0) else (none)) else (none))) (fun k => by rw [laws_FnLongCars.j0, if_neg (by decide), if_pos rfl]) ?_
      refine Ev.bind (jSum_ev w (by omega) hp.2.2.2.2.2) ?_
      simp only [show (0 : Int) ≤ w.sum by omega, show w.sum.toNat ≤ 281474976710656 by omega, if_true]
      exact h0
theorem FnLongCars : laws_FnLongCars.Pure := by
  intro l0 l1 _ _ hw0 _ _ hw1
  refine Ev.rounds ?_
  unfold laws_FnLongCars.f
  obtain ⟨r, hr⟩ := big_eq l0 l1
  simp only [hr, Option.bind_some]
  cases r with
  | true => simp only [if_true]; exact Ev.now _
  | false =>
    simp only [Bool.false_eq_true, if_false]
    obtain ⟨l, w, he, hl, hw⟩ := DrawDriveLong_ok (bytes_of hw0)
    have hP := longP_len l w
    refine Ev.bind he ?_
    refine Ev.bind (impl_DriveLong_ev l w) ?_
    refine Ev.bind (spec_DriveLong_ev l w (by omega) (by omega)) ?_
    refine Ev.bind (impl_IsLong_ev l w) ?_
    refine Ev.bind (spec_IsLong_ev l w (by omega) (by omega)) ?_
    refine Ev.bind (impl_Blocked_ev l w) ?_
    refine Ev.bind (spec_Blocked_ev l w (by omega) (by omega)) ?_
    simp only [bne_self_eq_false, Bool.false_eq_true, if_false]
    refine Ev.bind (jSame_ev _ (by omega)) ?_
    simp only [if_true]
    have e1 : ((longP l w).2 != (isP l w).1) = false := by
      unfold longP isP
      have := longs_len l w
      cases taskB l w with
      | false => simp
      | true =>
        simp only [if_true]
        by_cases hh : (longs l w).length < l.length
        · rw [if_pos hh, decide_eq_false (by omega)]; rfl
        · rw [if_neg hh, decide_eq_true (by omega)]; rfl
    have e2 : (isP l w).2 = true → ((blP l w).2 != (!(isP l w).1)) = false := by
      unfold isP blP
      cases taskB l w with
      | false => simp
      | true =>
        simp only [if_true]
        by_cases hh : (longs l w).length = l.length
        · simp [hh]
        · simp [hh]
    have e3 : (isP l w).2 = false → ((blP l w).2 != false) = false := by
      unfold isP blP
      cases taskB l w with
      | false => simp
      | true => simp
    rw [e1]
    simp only [Bool.false_eq_true, if_false]
    cases h : (isP l w).2 with
    | true => simp only [if_true]; rw [e2 h]; exact lc_j0 (bytes_of hw1)
    | false => simp only [Bool.false_eq_true, if_false]; rw [e3 h]; exact lc_j0 (bytes_of hw1)
end Go.Proofs.Ytfclfjengfmjaaa.Pure
namespace Go.Proofs.YtfclfjengfmjaaaW.PrintWords
open Go.ChangeShapes Go.WideShapes
theorem sized_ints {H : Type} {enc : TypeId × Value → H} {P : Program} {W : World} {base : Nat} {spare : Nat → Bool} {held : Bool} {t e : TypeId} {k : IntKind} {a : Option Addr} {len cap : Nat} {d : DataW H} {ps : List MemPlace} {ts : List TypeId} {ds : List (DataW H)} {j : Nat}
    (hsz : (DataW.weightsEach P ts ds).all (· ≤ reachBytes) = true) (ht : ts[j]? = some t) (hd : ds[j]? = some d) (hu : P.underlying t = some (.slice e)) (he : P.underlying e = some (.int k)) (hc : P.cellsOf e = 1) {B : Nat} (hB : P.bytesOf e = B)
    (h : DataW.Trod enc P W base spare held t (.slice a len cap) d ps) : len * B ≤ 140737488351232 := by
  obtain ⟨fuel, hf⟩ := h
  rcases open_ints hu he hc hf with ⟨hcs, _⟩ | ⟨x, l, c, zs, hcs, _, hl, _, hz, hx, _, _⟩
  · simp [Value.cells] at hcs
    obtain ⟨rfl, rfl, rfl⟩ := hcs
    simp
  · simp [Value.cells] at hcs
    obtain ⟨rfl, rfl, rfl⟩ := hcs
    obtain ⟨hx, _⟩ := Prod.mk.inj hx
    subst hx
    have z := sized_slice hsz ht hd hu
    rw [hB] at z
    have hl2 : len ≤ zs.length := by
      rw [hz]
      split
      · exact hl
      · exact Nat.le_refl _
    have h1 : (lits (H := H) k (zs.take len)).length + (lits (H := H) k (zs.drop len)).length = zs.length := by
      simp [lits]
      omega
    rw [h1] at z
    exact Nat.le_trans (Nat.mul_le_mul_right _ hl2) z
end Go.Proofs.YtfclfjengfmjaaaW.PrintWords
namespace Go.Proofs.Ytfclfjengfmjaaa.fnLongCars
open Go.ChangeShapes Go.WideShapes Go.ChangeAt Go.RowKit
open Go.ChangeMaps (open_string shut_string)
set_option linter.unusedVariables false
theorem own : ownKnob Try.prog.godebug = none := by kernel_rfl
theorem laidOut : laidOutB Try.prog = true := by kernel_rfl
def IsRow (k : IntKind) (w : World) (a : Option Addr) (len cap : Nat) (zs : List Int) : Prop :=
  (a = none ∧ len = 0 ∧ cap = 0 ∧ zs = []) ∨
  ∃ x, a = some x ∧ len ≤ cap ∧ cap ≤ maxLen ∧ zs.length = cap ∧ (∀ i, i < zs.length → w.cell? (x.add i) = some (.int k (zs.getD i 0))) ∧ ∀ n ∈ zs, (Lit.int k n).wf = true
set_option maxRecDepth 100000 in
theorem lifted (os : Os) (started : os.Started) (H : Type) (enc : TypeId × Value → H) :
    ReturnsInHanded {} Try.checked os 9 .any (Rows.fnLongCarsSpec.pre6 enc Try.prog Try.f9 Rows.fnLongCarsRow.domain false) (Rows.fnLongCarsSpec.post enc Try.prog Try.f9 false true false false) := by
  refine returnsInHanded_of_change_sized (C := Try.checked) own started (by kernel_rfl) Try.func9
    (ChangeSpec.witness6 (enc := enc) (C := Try.checked) false ⟨#[], #[.slice none 0 0, .slice none 0 0], []⟩ 8 (by kernel_rfl) (by kernel_rfl) (by kernel_rfl) (by kernel_rfl)) ?_
  intro W base args ds gs before hval0 hW hcnd hsz0 _
  have hsz : (DataW.weightsEach Try.prog (Try.f9.params.toList ++ Rows.fnLongCarsSpec.plain.varTypes Try.prog) (ds ++ gs)).all (· ≤ reachBytes) = true := hsz0
  have hval : ∀ (j : Nat) t v, Try.f9.params[j]? = some t → args[j]? = some v → Value.okWide Try.prog W .any base t v := hval0
  have hW' := hW
  obtain ⟨p, q, hA0, hV, rfl, hfz, hnd⟩ := hW
  have hA : DataW.TrodAll enc Try.prog W 0 (fun _ => true) true Try.f9.params.toList args.toList ds p := hA0
  rw [Try.params9] at hA hval hsz
  obtain ⟨v0, vs0, d0, ds0, p0, q0, hargs, rfl, rfl, h0, r0⟩ := trodAll_cons hA
  obtain ⟨v1, vs1, d1, ds1, p1, q1, rfl, rfl, rfl, h1, r1⟩ := trodAll_cons r0
  obtain ⟨rfl, rfl, rfl⟩ := trodAll_nil r1
  obtain rfl : args = #[v0, v1] := by cases args; simp_all
  obtain ⟨rfl, rfl⟩ := trodVars_none hV
  obtain ⟨a0, len0, cap0, rfl⟩ := okWide_slice Try.underlying28 (hval 0 28 v0 rfl rfl)
  have k0 := h0
  have lt0 : ∀ x ∈ p0, x.block < W.heap.size := by obtain ⟨m, hm⟩ := k0; exact DataW.trod_lt m _ _ _ hm
  obtain ⟨z0, w0⟩ : ∃ zs, IsRow .u8 W a0 len0 cap0 zs := by
    obtain ⟨fuel, hf⟩ := h0
    rcases open_ints Try.underlying28 Try.underlying5 (by kernel_rfl) hf with ⟨hcs, _⟩ | ⟨x, l, c, zs, hcs, _, hl, hm, hz, _, hcell, hwz⟩
    · simp [Value.cells] at hcs
      obtain ⟨rfl, rfl, rfl⟩ := hcs
      exact ⟨[], .inl ⟨rfl, rfl, rfl, rfl⟩⟩
    · simp [Value.cells] at hcs
      obtain ⟨rfl, rfl, rfl⟩ := hcs
      exact ⟨zs, .inr ⟨_, rfl, hl, hm, by simpa using hz, hcell, hwz⟩⟩
  have y0 : len0 * 1 ≤ 140737488351232 := Go.Proofs.YtfclfjengfmjaaaW.PrintWords.sized_ints hsz (j := 0) (t := 28) rfl rfl Try.underlying28 Try.underlying5 (by kernel_rfl) (by kernel_rfl) h0
  obtain ⟨a1, len1, cap1, rfl⟩ := okWide_slice Try.underlying28 (hval 1 28 v1 rfl rfl)
  have k1 := h1
  have lt1 : ∀ x ∈ p1, x.block < W.heap.size := by obtain ⟨m, hm⟩ := k1; exact DataW.trod_lt m _ _ _ hm
  obtain ⟨z1, w1⟩ : ∃ zs, IsRow .u8 W a1 len1 cap1 zs := by
    obtain ⟨fuel, hf⟩ := h1
    rcases open_ints Try.underlying28 Try.underlying5 (by kernel_rfl) hf with ⟨hcs, _⟩ | ⟨x, l, c, zs, hcs, _, hl, hm, hz, _, hcell, hwz⟩
    · simp [Value.cells] at hcs
      obtain ⟨rfl, rfl, rfl⟩ := hcs
      exact ⟨[], .inl ⟨rfl, rfl, rfl, rfl⟩⟩
    · simp [Value.cells] at hcs
      obtain ⟨rfl, rfl, rfl⟩ := hcs
      exact ⟨zs, .inr ⟨_, rfl, hl, hm, by simpa using hz, hcell, hwz⟩⟩
  have y1 : len1 * 1 ≤ 140737488351232 := Go.Proofs.YtfclfjengfmjaaaW.PrintWords.sized_ints hsz (j := 1) (t := 28) rfl rfl Try.underlying28 Try.underlying5 (by kernel_rfl) (by kernel_rfl) h1
  clear hA0 hval0 hsz0 hsz
  refine (G.laws_FnLongCars.walk Pure.FnLongCars a0 len0 cap0 z0 a1 len1 cap1 z1 W w0 y0 w1 y1).mono fun e W' ⟨he, bel⟩ => ?_
  subst he
  exact ⟨_, rfl, _, _, _, [], _, [], hW', trodAll_mk1 (shut_bool Try.underlying4 _), (trodAll_cons_mk (Below.trod laidOut (by kernel_rfl) (of_decide_eq_true (by kernel_rfl)) k0 bel lt0) (trodAll_cons_mk (Below.trod laidOut (by kernel_rfl) (of_decide_eq_true (by kernel_rfl)) k1 bel lt1) trodAll_mk0)), rfl, bel.frame _, fun h => by cases h⟩
theorem over : Rows.fnLongCarsRow.holds Try.pinned (OpenSpec.ofChange Rows.fnLongCarsSpec) :=
  OpenClaim.holds_of_wide 9 Try.f9 rfl rfl rfl rfl rfl rfl rfl ⟨rfl, rfl, rfl, rfl, rfl⟩ rfl rfl rfl rfl rfl (by kernel_rfl) Try.func9 (by kernel_rfl)
    (of_decide_eq_true (by kernel_rfl)) (by unfold Func.isWrapper; first | (rw [if_pos (by decide +kernel)]; kernel_rfl) | (rw [if_neg (by decide +kernel)]; exact ⟨rfl, rfl⟩))
    (fun os started H enc _ => lifted os started H enc)
theorem proved : Rows.FnLongCarsSaid := over
#print axioms proved
end Go.Proofs.Ytfclfjengfmjaaa.fnLongCars
namespace Go.Proofs.Ytfclfjengfmjaaa
/-- The row, under a short name, for the claim. -/
theorem fnLongCars_holds : Rows.FnLongCarsSaid := fnLongCars.proved
end Go.Proofs.Ytfclfjengfmjaaa
