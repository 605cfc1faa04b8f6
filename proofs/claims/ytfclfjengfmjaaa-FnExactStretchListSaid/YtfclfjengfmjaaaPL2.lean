/- Pure facts on printed functions: the list for long cars out of a parking function. -/
import Derived.Test.YtfclfjengfmjaaaGx12
import Derived.Test.YtfclfjengfmjaaaGx13
import Derived.Test.YtfclfjengfmjaaaGx14
import Derived.Test.YtfclfjengfmjaaaGx15
import Derived.Test.YtfclfjengfmjaaaPP
import Derived.Test.YtfclfjengfmjaaaPL1
namespace Go.Proofs.Ytfclfjengfmjaaa.G
open Go.RowKit Go.Proofs.YtfclfjengfmjaaaW.PrintWords Go.Proofs.YtfclfjengfmjaaaW.PrintLast Go.Proofs.YtfclfjengfmjaaaW.PrintMore
set_option linter.unusedVariables false
set_option linter.unusedSimpArgs false

theorem paDrive_ev (l : List Int) (N : Nat) (hN : N ≤ 1000) (hl : l.length ≤ 900) (hr : ∀ j, j < l.length → 0 ≤ l.getD j 0 ∧ l.getD j 0 ≤ N) : Ev (fun k => spec_paDrive.f k l (N : Int)) ((ParkT.driveS N (fun _ => false) (natL l)).map valP) := by
  unfold spec_paDrive.f
  have := paDrive_l0 l N hN hl hr l.length 0 [] (by omega) (by simp)
  have eo : occ [] = fun _ => false := by funext q; simp [occ]
  rw [eo] at this
  simpa using this
theorem drive_ev (l : List Int) (N : Nat) (hN : N ≤ 1000) (hl : l.length ≤ 900) (hr : ∀ j, j < l.length → 0 ≤ l.getD j 0) : Ev (fun k => impl_drive.f k l (N : Int)) (if allP N (fun _ => false) (natL l) = true then (outP' N (fun _ => false) (natL l), true) else ([], false)) := by
  unfold impl_drive.f
  simp only [show (0 : Int) ≤ (N : Int) by omega, Int.toNat_natCast, show N ≤ 281474976710656 by omega, if_true]
  have := drive_l0 l N hN hl hr l.length 0 (List.replicate N false) [] (by omega) (by simp) (by simp)
  have et : taken (List.replicate N false) = fun _ => false := by
    funext q
    unfold taken
    rw [List.getD_eq_getElem?_getD, List.getElem?_replicate]
    split <;> rfl
  rw [et] at this
  simpa using this
theorem out_eq {N : Nat} : ∀ (l : List Nat) (S : Nat → Bool), allP N S l = true → (ParkT.driveS N S l).map valP = outP' N S l
  | [], S, _ => rfl
  | a :: l, S, h => by
    rw [allP] at h
    rw [ParkT.driveS, outP']
    cases e : ParkT.fwdF S (N - a) a with
    | none => rw [e] at h; cases h
    | some p =>
      rw [e] at h
      simp only [List.map_cons, out_eq l _ h]
      rfl
theorem outP'_len {N : Nat} : ∀ (l : List Nat) (S : Nat → Bool), (outP' N S l).length ≤ l.length
  | [], S => by simp [outP']
  | a :: l, S => by
    rw [outP']
    cases e : ParkT.fwdF S (N - a) a with
    | none => simp
    | some p => simp only [List.length_cons]; have := outP'_len l (ParkT.put S p) (N := N); omega
theorem parkB_in {l : List Int} (h : parkB l = true) : l.length ≤ 8 ∧ (∀ j, j < l.length → 0 ≤ l.getD j 0 ∧ l.getD j 0 ≤ l.length) ∧ allP l.length (fun _ => false) (natL l) = true := by
  unfold parkB at h
  simp only [Bool.and_eq_true, decide_eq_true_eq] at h
  obtain ⟨⟨h1, h2⟩, h3⟩ := h
  exact ⟨h1, fun j hj => by have := all_get h2 hj; omega, h3⟩
/-- The places of a parking function. -/
def plcs (l : List Int) : List Int := outP' l.length (fun _ => false) (natL l)
theorem plcs_len (l : List Int) : (plcs l).length ≤ l.length := by
  have := outP'_len (N := l.length) (natL l) (fun _ => false)
  unfold plcs; simpa [natL] using this
theorem paDrive_park {l : List Int} (h : parkB l = true) : Ev (fun k => spec_paDrive.f k l (l.length : Int)) (plcs l) := by
  obtain ⟨h1, h2, h3⟩ := parkB_in h
  have := paDrive_ev l l.length (by omega) (by omega) h2
  rw [out_eq _ _ h3] at this
  exact this
theorem drive_park {l : List Int} (h : parkB l = true) : Ev (fun k => impl_drive.f k l (l.length : Int)) (plcs l, true) := by
  obtain ⟨h1, h2, h3⟩ := parkB_in h
  have := drive_ev l l.length (by omega) (by omega) (fun j hj => (h2 j hj).1)
  rw [if_pos h3] at this
  exact this
def sumLt (R w : List Int) (x : Int) : Nat → Int
  | 0 => 0
  | q + 1 => sumLt R w x q + if R.getD q 0 < x then w.getD q 0 else 0
theorem sumLt_range (R w : List Int) (x : Int) (hw : ∀ j, -1000 ≤ w.getD j 0 ∧ w.getD j 0 ≤ 1000) : ∀ q : Nat, -(1000 * (q : Int)) ≤ sumLt R w x q ∧ sumLt R w x q ≤ 1000 * (q : Int)
  | 0 => by simp [sumLt]
  | q + 1 => by
    have := sumLt_range R w x hw q
    have := hw q
    rw [sumLt]
    split <;> (push_cast; omega)
def stretch (R w l : List Int) : List Int := l.map fun x => sumLt R w x R.length
def stretchP (l w : List Int) : List Int × Bool := if (parkB l && lenB w && decide (l.length = w.length)) = true then (stretch (plcs l) w l, true) else ([], false)
theorem stretchP_len (l w : List Int) : (stretchP l w).1.length ≤ l.length := by
  unfold stretchP
  split <;> simp [stretch]
theorem sp_str_l1 (R w l out : List Int) (x : Int) (i : Int) (ho : out.length ≤ 1000) (hR : R.length ≤ w.length) (hR2 : R.length ≤ 1000) (hw : ∀ j, -1000 ≤ w.getD j 0 ∧ w.getD j 0 ≤ 1000) (r : List Int × Bool)
    (h : Ev (fun k => spec_StretchList.l0 k w R (out ++ [sumLt R w x R.length]) l (l.length : Int) (wrap64 (i + 1))) r) : Ev (fun k => spec_StretchList.l1 k w R out x 0 l (l.length : Int) i R (R.length : Int) 0) r := by
  refine Ev.up0 R.length (fun q => sumLt R w x q) (fun k s q => spec_StretchList.l1 k w R out x s l (l.length : Int) i R (R.length : Int) q) r (fun q hq h => Ev.one h fun k => ?_) (Ev.one h fun k => ?_)
  · have hs := sumLt_range R w x hw q
    have hwq := hw q
    rw [spec_StretchList.l1, if_pos (by omega), if_pos (by omega), if_pos (by omega), rd_nat, rd_nat, wrap_next (n := R.length) hq (by omega), sumLt]
    by_cases hlt : R.getD q 0 < x
    · rw [if_pos hlt, if_pos (by omega), if_pos hlt, wrap_id (x := sumLt R w x q + w.getD q 0) (by omega) (by omega)]
    · rw [if_neg hlt, if_neg hlt, Int.add_zero]
  · rw [spec_StretchList.l1, if_neg (by omega), if_pos (by omega)]
theorem sp_str_l0 (R w l : List Int) (hl : l.length ≤ 1000) (hR : R.length ≤ w.length) (hR2 : R.length ≤ 1000) (hw : ∀ j, -1000 ≤ w.getD j 0 ∧ w.getD j 0 ≤ 1000) : ∀ (d i : Nat) (out : List Int), i + d = l.length → out.length ≤ i → Ev (fun k => spec_StretchList.l0 k w R out l (l.length : Int) (i : Int)) (out ++ stretch R w (l.drop i), true) := by
  intro d
  induction d with
  | zero =>
    intro i out hd ho
    refine Ev.end_ fun k => ?_
    rw [spec_StretchList.l0, if_neg (by omega), List.drop_of_length_le (by omega)]
    simp [stretch]
  | succ d ih =>
    intro i out hd ho
    have hi : i < l.length := by omega
    have h2 := ih (i + 1) (out ++ [sumLt R w (l.getD i 0) R.length]) (by omega) (by simp; omega)
    rw [show (out ++ [sumLt R w (l.getD i 0) R.length]) ++ stretch R w (l.drop (i + 1)) = out ++ stretch R w (l.drop i) by rw [drop_getD hi]; simp [stretch]] at h2
    refine Ev.one (sp_str_l1 R w l out (l.getD i 0) (i : Int) (by omega) hR hR2 hw _ (by rw [wrap_next (n := l.length) hi (by omega)]; exact h2)) fun k => ?_
    rw [spec_StretchList.l0, if_pos (by omega), if_pos (by omega), if_pos (by omega), rd_nat]
theorem im_str_l1 (R w l out : List Int) (x : Int) (i : Int) (ho : out.length ≤ 1000) (hR : R.length ≤ w.length) (hR2 : R.length ≤ 1000) (hw : ∀ j, -1000 ≤ w.getD j 0 ∧ w.getD j 0 ≤ 1000) (r : List Int × Bool)
    (h : Ev (fun k => impl_StretchList.l0 k w R (out ++ [sumLt R w x R.length]) l (l.length : Int) (wrap64 (i + 1))) r) : Ev (fun k => impl_StretchList.l1 k w R out x 0 l (l.length : Int) i R (R.length : Int) 0) r := by
  refine Ev.up0 R.length (fun q => sumLt R w x q) (fun k s q => impl_StretchList.l1 k w R out x s l (l.length : Int) i R (R.length : Int) q) r (fun q hq h => Ev.one h fun k => ?_) (Ev.one h fun k => ?_)
  · have hs := sumLt_range R w x hw q
    have hwq := hw q
    rw [impl_StretchList.l1, if_pos (by omega), if_pos (by omega), if_pos (by omega), rd_nat, rd_nat, wrap_next (n := R.length) hq (by omega), sumLt]
    by_cases hlt : R.getD q 0 < x
    · rw [if_pos hlt, if_pos (by omega), if_pos hlt, wrap_id (x := sumLt R w x q + w.getD q 0) (by omega) (by omega)]
    · rw [if_neg hlt, if_neg hlt, Int.add_zero]
  · rw [impl_StretchList.l1, if_neg (by omega), if_pos (by omega)]
theorem im_str_l0 (R w l : List Int) (hl : l.length ≤ 1000) (hR : R.length ≤ w.length) (hR2 : R.length ≤ 1000) (hw : ∀ j, -1000 ≤ w.getD j 0 ∧ w.getD j 0 ≤ 1000) : ∀ (d i : Nat) (out : List Int), i + d = l.length → out.length ≤ i → Ev (fun k => impl_StretchList.l0 k w R out l (l.length : Int) (i : Int)) (out ++ stretch R w (l.drop i), true) := by
  intro d
  induction d with
  | zero =>
    intro i out hd ho
    refine Ev.end_ fun k => ?_
    rw [impl_StretchList.l0, if_neg (by omega), List.drop_of_length_le (by omega)]
    simp [stretch]
  | succ d ih =>
    intro i out hd ho
    have hi : i < l.length := by omega
    have h2 := ih (i + 1) (out ++ [sumLt R w (l.getD i 0) R.length]) (by omega) (by simp; omega)
    rw [show (out ++ [sumLt R w (l.getD i 0) R.length]) ++ stretch R w (l.drop (i + 1)) = out ++ stretch R w (l.drop i) by rw [drop_getD hi]; simp [stretch]] at h2
    refine Ev.one (im_str_l1 R w l out (l.getD i 0) (i : Int) (by omega) hR hR2 hw _ (by rw [wrap_next (n := l.length) hi (by omega)]; exact h2)) fun k => ?_
    rw [impl_StretchList.l0, if_pos (by omega), if_pos (by omega), if_pos (by omega), rd_nat]
theorem spec_StretchList_ev (l w : List Int) (hl : l.length ≤ 4611686018427387904) (hw : w.length ≤ 4611686018427387904) : Ev (fun k => spec_StretchList.f k l w) (stretchP l w) := by
  unfold spec_StretchList.f stretchP
  refine Ev.bind (paParking_ev l hl) ?_
  cases h1 : parkB l with
  | false =>
    simp only [Bool.false_eq_true, if_false, Bool.false_and]
    exact Ev.end_ fun k => by rw [spec_StretchList.j0, if_pos rfl]
  | true =>
    simp only [if_true, Bool.true_and]
    refine Ev.bind (loLengths_ev w hw) ?_
    cases h2 : lenB w with
    | false =>
      simp only [Bool.false_eq_true, if_false, Bool.false_and]
      exact Ev.end_ fun k => by rw [spec_StretchList.j0, if_pos rfl]
    | true =>
      simp only [if_true, Bool.true_and]
      have hp := lenB_parts h2
      have hq := plcs_len l
      by_cases e : l.length = w.length
      · rw [show ((w.length : Int) != (l.length : Int)) = false by simp [e]]
        simp only [decide_eq_true e, if_true]
        refine Ev.step (fun k => by rw [spec_StretchList.j0, if_neg (by decide)]) ?_
        refine Ev.bind (paDrive_park h1) ?_
        have := sp_str_l0 (plcs l) w l (by omega) (by omega) (by omega) hp.2.2.2.2.2 l.length 0 [] (by omega) (by simp)
        simpa using this
      · rw [show ((w.length : Int) != (l.length : Int)) = true by simp; omega]
        simp only [decide_eq_false e, Bool.false_eq_true, if_false]
        exact Ev.end_ fun k => by rw [spec_StretchList.j0, if_pos rfl]
theorem impl_StretchList_ev (l w : List Int) (hl : l.length ≤ 4611686018427387904) (hw : w.length ≤ 4611686018427387904) : Ev (fun k => impl_StretchList.f k l w) (stretchP l w) := by
  unfold impl_StretchList.f stretchP
  refine Ev.bind (isParking_ev l) ?_
  cases h1 : parkB l with
  | false =>
    simp only [Bool.false_eq_true, if_false, Bool.false_and]
    exact Ev.end_ fun k => by rw [impl_StretchList.j0, if_pos rfl]
  | true =>
    simp only [if_true, Bool.true_and]
    refine Ev.bind (areLengths_ev w) ?_
    cases h2 : lenB w with
    | false =>
      simp only [Bool.false_eq_true, if_false, Bool.false_and]
      exact Ev.end_ fun k => by rw [impl_StretchList.j0, if_pos rfl]
    | true =>
      simp only [if_true, Bool.true_and]
      have hp := lenB_parts h2
      have hq := plcs_len l
      by_cases e : l.length = w.length
      · rw [show ((l.length : Int) != (w.length : Int)) = false by simp [e]]
        simp only [decide_eq_true e, if_true]
        refine Ev.step (fun k => by rw [impl_StretchList.j0, if_neg (by decide)]) ?_
        refine Ev.bind (drive_park h1) ?_
        have := im_str_l0 (plcs l) w l (by omega) (by omega) (by omega) hp.2.2.2.2.2 l.length 0 [] (by omega) (by simp)
        simpa using this
      · rw [show ((l.length : Int) != (w.length : Int)) = true by simp; omega]
        simp only [decide_eq_false e, Bool.false_eq_true, if_false]
        exact Ev.end_ fun k => by rw [impl_StretchList.j0, if_pos rfl]

end Go.Proofs.Ytfclfjengfmjaaa.G
