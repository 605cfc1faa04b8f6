/- Pure facts on printed functions: parking lists. -/
import Derived.Test.YtfclfjengfmjaaaGx12
import Derived.Test.YtfclfjengfmjaaaGx14
import Derived.Test.YtfclfjengfmjaaaPA
import Derived.Test.YtfclfjengfmjaaaGwA
import Derived.Test.YtfclfjengfmjaaaMPark
namespace Go.Proofs.Ytfclfjengfmjaaa.G
open Go.RowKit Go.Proofs.YtfclfjengfmjaaaW.PrintWords Go.Proofs.YtfclfjengfmjaaaW.PrintLast Go.Proofs.YtfclfjengfmjaaaW.PrintMore
set_option linter.unusedVariables false
set_option linter.unusedSimpArgs false

/-- Every car finds a place. -/
def allP (N : Nat) : (Nat → Bool) → List Nat → Bool
  | _, [] => true
  | S, a :: l => match ParkT.fwdF S (N - a) a with
    | none => false
    | some p => allP N (ParkT.put S p) l
theorem allP_lt {N : Nat} : ∀ (l : List Nat) (S : Nat → Bool), allP N S l = true → ∀ a ∈ l, a < N
  | [], _, _, a, h => by simp at h
  | b :: l, S, h, a, ha => by
    rw [allP] at h
    cases e : ParkT.fwdF S (N - b) b with
    | none => rw [e] at h; cases h
    | some p =>
      rw [e] at h
      have hb := ParkT.fwdF_some e
      rcases List.mem_cons.1 ha with rfl | ha
      · omega
      · exact allP_lt l _ h a ha
def valP : Option Nat → Int
  | none => -1
  | some p => p
theorem allP_iff {N : Nat} : ∀ (l : List Nat) (S : Nat → Bool), allP N S l = !decide ((-1 : Int) ∈ (ParkT.driveS N S l).map valP)
  | [], _ => by simp [allP, ParkT.driveS]
  | a :: l, S => by
    rw [allP, ParkT.driveS]
    cases e : ParkT.fwdF S (N - a) a with
    | none => simp [valP]
    | some p =>
      simp only [List.map_cons, List.mem_cons, valP, allP_iff l]
      congr 1
      have : ¬ ((-1 : Int) = (p : Int)) := by omega
      simp [this]
def occ (x : List Int) (q : Nat) : Bool := decide ((q : Int) ∈ x)
theorem occ_none (x : List Int) : occ (x ++ [-1]) = occ x := by
  funext q
  unfold occ
  have : ¬ ((q : Int) = -1) := by omega
  simp [this]
theorem occ_some (x : List Int) (p : Nat) : occ (x ++ [(p : Int)]) = ParkT.put (occ x) p := by
  funext q
  unfold occ ParkT.put
  have : ((q : Int) = (p : Int)) ↔ q = p := by omega
  simp [this, Bool.or_comm]
theorem l1Has_l0 (x : List Int) (a : Int) (hn : x.length ≤ 4611686018427387904) : ∀ (d i : Nat), i + d = x.length → Ev (fun k => spec_l1Has.l0 k a x (x.length : Int) i) (decide (a ∈ x.drop i)) := by
  intro d
  induction d with
  | zero =>
    intro i hd
    refine Ev.end_ fun k => ?_
    rw [spec_l1Has.l0, if_neg (by omega), List.drop_eq_nil_of_le (by omega)]
    simp
  | succ d ih =>
    intro i hd
    have e1 := drop_getD (l := x) (i := i) (by omega)
    by_cases h : x.getD i 0 = a
    · refine Ev.end_ fun k => ?_
      rw [spec_l1Has.l0, if_pos (by omega), if_pos (by omega), if_pos (by omega), rd_nat, if_pos h, e1, h, decide_eq_true (List.mem_cons_self)]
    · refine Ev.one (f := fun k => spec_l1Has.l0 k a x (x.length : Int) ((i + 1 : Nat) : Int)) ?_ fun k => ?_
      · have := ih (i + 1) (by omega)
        have e : decide (a ∈ x.drop i) = decide (a ∈ x.drop (i + 1)) := by
          rw [e1]
          have : ¬ a = x.getD i 0 := fun e => h e.symm
          simp only [List.mem_cons, this, false_or]
        rw [e]; exact this
      · rw [spec_l1Has.l0, if_pos (by omega), if_pos (by omega), if_pos (by omega), rd_nat, if_neg h, wrap_next (n := x.length) (by omega) hn]
theorem l1Has_ev (x : List Int) (a : Int) (hn : x.length ≤ 4611686018427387904) : Ev (fun k => spec_l1Has.f k x a) (decide (a ∈ x)) := by
  unfold spec_l1Has.f
  have := l1Has_l0 x a hn x.length 0 (by omega)
  simpa using this
theorem paDrive_l1 (N : Nat) (hN : N ≤ 1000) (x l : List Int) (hx : x.length ≤ 1000) (len : Int) (i : Int) (r : List Int) : ∀ (d a : Nat), a + d = N → Ev (fun k => spec_paDrive.l0 k (N : Int) (x ++ [valP (ParkT.fwdF (occ x) d a)]) l len (wrap64 (i + 1))) r → Ev (fun k => spec_paDrive.l1 k (N : Int) x (a : Int) l len i) r := by
  intro d
  induction d with
  | zero =>
    intro a ha h
    refine Ev.one h fun k => ?_
    rw [spec_paDrive.l1, if_neg (by omega), if_pos (by omega), if_pos (by omega)]
    rfl
  | succ d ih =>
    intro a ha h
    rw [ParkT.fwdF] at h
    refine Ev.step (f := fun k => (spec_l1Has.f k x (a : Int)).bind fun t369 => (if t369 = true then (spec_paDrive.l1 k (N : Int) x ((a + 1 : Nat) : Int) l len i) else (spec_paDrive.l0 k (N : Int) (x ++ [(a : Int)]) l len (wrap64 (i + 1))))) (fun k => by rw [spec_paDrive.l1, if_pos (by omega), wrap_next (n := N) (by omega) (by omega), if_neg (show ¬ ((a : Int) ≥ (N : Int)) by omega), if_pos (by omega)]) ?_
    refine Ev.bind (l1Has_ev x _ (by omega)) ?_
    by_cases hh : occ x a = true
    · rw [if_neg (by rw [hh]; simp)] at h
      have e : decide ((a : Int) ∈ x) = true := hh
      simp only [e, if_true]
      exact ih (a + 1) (by omega) h
    · rw [if_pos (by simpa using hh)] at h
      have e : decide ((a : Int) ∈ x) = false := by simpa [occ] using hh
      simp only [e, Bool.false_eq_true, if_false]
      exact h
def natL (l : List Int) : List Nat := l.map Int.toNat
theorem paDrive_l0 (l : List Int) (N : Nat) (hN : N ≤ 1000) (hl : l.length ≤ 900) (hr : ∀ j, j < l.length → 0 ≤ l.getD j 0 ∧ l.getD j 0 ≤ N) : ∀ (d i : Nat) (x : List Int), i + d = l.length → x.length ≤ i → Ev (fun k => spec_paDrive.l0 k (N : Int) x l (l.length : Int) i) (x ++ (ParkT.driveS N (occ x) (natL (l.drop i))).map valP) := by
  intro d
  induction d with
  | zero =>
    intro i x hd hx
    refine Ev.end_ fun k => ?_
    rw [spec_paDrive.l0, if_neg (by omega), List.drop_eq_nil_of_le (by omega)]
    simp [natL, ParkT.driveS]
  | succ d ih =>
    intro i x hd hx
    have hi : i < l.length := by omega
    have hri := hr i hi
    obtain ⟨a, ha⟩ : ∃ a : Nat, l.getD i 0 = a := ⟨(l.getD i 0).toNat, by omega⟩
    refine Ev.one (f := fun k => spec_paDrive.l1 k (N : Int) x (a : Int) l (l.length : Int) (i : Int)) ?_ fun k => by rw [spec_paDrive.l0, if_pos (by omega), if_pos (by omega), if_pos (by omega), rd_nat, ha]
    refine paDrive_l1 N hN x l (by omega) _ _ _ (N - a) a (by omega) ?_
    rw [wrap_next (n := l.length) hi (by omega)]
    have := ih (i + 1) (x ++ [valP (ParkT.fwdF (occ x) (N - a) a)]) (by omega) (by simp; omega)
    have e : x ++ (ParkT.driveS N (occ x) (natL (l.drop i))).map valP = x ++ [valP (ParkT.fwdF (occ x) (N - a) a)] ++ (ParkT.driveS N (occ (x ++ [valP (ParkT.fwdF (occ x) (N - a) a)])) (natL (l.drop (i + 1)))).map valP := by
      rw [drop_getD hi, ha]
      show x ++ (ParkT.driveS N (occ x) ((a : Int).toNat :: natL (l.drop (i + 1)))).map valP = _
      rw [Int.toNat_natCast, ParkT.driveS]
      cases hf : ParkT.fwdF (occ x) (N - a) a with
      | none => simp [valP, occ_none]
      | some p => simp [valP, occ_some]
    rw [e]
    exact this
def parkB (l : List Int) : Bool := decide (l.length ≤ 8) && (l.all fun x => decide (0 ≤ x ∧ x ≤ (l.length : Int) - 1)) && allP l.length (fun _ => false) (natL l)
theorem all_get {l : List Int} {lo hi : Int} (h : (l.all fun x => decide (lo ≤ x ∧ x ≤ hi)) = true) {j : Nat} (hj : j < l.length) : lo ≤ l.getD j 0 ∧ l.getD j 0 ≤ hi := by
  rw [List.all_eq_true] at h
  have := h l[j] (List.getElem_mem hj)
  rw [List.getD_eq_getElem?_getD, List.getElem?_eq_getElem hj]
  simpa using this
theorem paParking_ev (l : List Int) (hn : l.length ≤ 4611686018427387904) : Ev (fun k => spec_paParking.f k l) (parkB l) := by
  unfold spec_paParking.f parkB
  by_cases h8 : l.length ≤ 8
  · simp only [show ((l.length : Int) ≤ 8) from by omega, if_true]
    rw [decide_eq_true h8, Bool.true_and, wrap_id (x := (l.length : Int) - 1) (by omega) (by omega)]
    refine Ev.bind (l1All_ev l _ _ hn) ?_
    cases ha : (l.all fun x => decide (0 ≤ x ∧ x ≤ (l.length : Int) - 1)) with
    | false => simp only [Bool.false_eq_true, if_false, Bool.false_and]; exact Ev.now _
    | true =>
      simp only [if_true, Bool.true_and]
      unfold spec_paAll.f
      have hd : Ev (fun k => spec_paDrive.f k l (l.length : Int)) ((ParkT.driveS l.length (fun _ => false) (natL l)).map valP) := by
        unfold spec_paDrive.f
        have := paDrive_l0 l l.length (by omega) (by omega) (fun j hj => by have := all_get ha hj; omega) l.length 0 [] (by omega) (by simp)
        have eo : occ [] = fun _ => false := by funext q; simp [occ]
        rw [eo] at this
        simpa using this
      have hlen : ∀ (l : List Nat) (N : Nat) (S : Nat → Bool), (ParkT.driveS N S l).length = l.length := by
        intro l
        induction l with
        | nil => intro N S; rfl
        | cons a l ih =>
          intro N S
          rw [ParkT.driveS]
          cases ParkT.fwdF S (N - a) a <;> simp [ih]
      refine Ev.bind ?_ (Ev.now _)
      refine Ev.bind hd ?_
      refine Ev.bind (l1Has_ev _ _ (by rw [List.length_map, hlen]; simp [natL]; omega)) ?_
      rw [allP_iff]
      exact Ev.now _
  · simp only [show ¬ ((l.length : Int) ≤ 8) from by omega, if_false]
    rw [decide_eq_false h8, Bool.false_and, Bool.false_and]
    exact Ev.now _

/-! ### The program's drive -/
def taken (x : List Bool) (q : Nat) : Bool := x.getD q false
theorem drive_l1 (N : Nat) (hN : N ≤ 1000) (x : List Bool) (hx : x.length = N) (o l : List Int) (ho : o.length ≤ 1000) (len i : Int) (r : List Int × Bool) :
    ∀ (d a : Nat), a + d = N → (match ParkT.fwdF (taken x) d a with | none => r = ([], false) | some p => Ev (fun k => impl_drive.l0 k (N : Int) (x.set p true) (o ++ [(p : Int)]) l len (wrap64 (i + 1))) r) → Ev (fun k => impl_drive.l1 k (N : Int) x o (a : Int) l len i) r := by
  intro d
  induction d with
  | zero =>
    intro a ha h
    rw [ParkT.fwdF] at h
    subst h
    exact Ev.end_ fun k => by rw [impl_drive.l1, if_neg (by omega), if_pos (by omega)]
  | succ d ih =>
    intro a ha h
    rw [ParkT.fwdF] at h
    have hrd : rdOf false x (a : Int) = taken x a := by simp [rdOf, taken]
    by_cases hh : taken x a = true
    · rw [if_neg (by rw [hh]; simp)] at h
      refine Ev.one (ih (a + 1) (by omega) h) fun k => ?_
      rw [impl_drive.l1, if_pos (by omega), if_pos (by omega), if_pos (by omega), if_pos (by rw [hrd]; exact hh), wrap_next (n := N) (by omega) (by omega)]
    · rw [if_pos (by simpa using hh)] at h
      simp only at h
      refine Ev.one h fun k => ?_
      rw [impl_drive.l1, if_pos (by omega), if_pos (by omega), if_pos (by omega), if_neg (by rw [hrd]; exact hh), if_neg (by omega), if_pos (by omega), Int.toNat_natCast]
theorem drive_past (N : Nat) (x : List Bool) (o l : List Int) (len i a : Int) (ha : (N : Int) ≤ a) : Ev (fun k => impl_drive.l1 k (N : Int) x o a l len i) (([] : List Int), false) :=
  Ev.end_ fun k => by rw [impl_drive.l1, if_neg (by omega), if_pos (by omega)]
theorem taken_set {x : List Bool} {p : Nat} (hp : p < x.length) : taken (x.set p true) = ParkT.put (taken x) p := by
  funext q
  show (x.set p true).getD q false = (decide (q = p) || x.getD q false)
  rw [List.getD_eq_getElem?_getD, List.getD_eq_getElem?_getD, List.getElem?_set]
  by_cases e : p = q
  · subst e; simp [hp]
  · have : ¬ q = p := fun h => e h.symm
    simp [e, this]
/-- The places, where every car finds one. -/
def outP' (N : Nat) : (Nat → Bool) → List Nat → List Int
  | _, [] => []
  | S, a :: l => match ParkT.fwdF S (N - a) a with
    | none => []
    | some p => (p : Int) :: outP' N (ParkT.put S p) l
theorem drive_l0 (l : List Int) (N : Nat) (hN : N ≤ 1000) (hl : l.length ≤ 900) (hr : ∀ j, j < l.length → 0 ≤ l.getD j 0) : ∀ (d i : Nat) (x : List Bool) (o : List Int), i + d = l.length → x.length = N → o.length ≤ i → Ev (fun k => impl_drive.l0 k (N : Int) x o l (l.length : Int) i) (if allP N (taken x) (natL (l.drop i)) = true then (o ++ outP' N (taken x) (natL (l.drop i)), true) else ([], false)) := by
  intro d
  induction d with
  | zero =>
    intro i x o hd hx ho
    refine Ev.end_ fun k => ?_
    rw [impl_drive.l0, if_neg (by omega), List.drop_eq_nil_of_le (by omega)]
    simp [natL, allP, outP']
  | succ d ih =>
    intro i x o hd hx ho
    have hi : i < l.length := by omega
    have hri := hr i hi
    obtain ⟨a, ha⟩ : ∃ a : Nat, l.getD i 0 = a := ⟨(l.getD i 0).toNat, by omega⟩
    refine Ev.one (f := fun k => impl_drive.l1 k (N : Int) x o (a : Int) l (l.length : Int) (i : Int)) ?_ fun k => by rw [impl_drive.l0, if_pos (by omega), if_pos (by omega), if_pos (by omega), rd_nat, ha]
    have e0 : natL (l.drop i) = a :: natL (l.drop (i + 1)) := by
      rw [drop_getD hi, ha]
      show (a : Int).toNat :: natL (l.drop (i + 1)) = _
      rw [Int.toNat_natCast]
    rw [e0, allP, outP']
    by_cases hlt : a < N
    · refine drive_l1 N hN x hx o l (by omega) _ _ _ (N - a) a (by omega) ?_
      cases hf : ParkT.fwdF (taken x) (N - a) a with
      | none => simp
      | some p =>
        have hp := ParkT.fwdF_some hf
        simp only
        rw [wrap_next (n := l.length) hi (by omega)]
        have := ih (i + 1) (x.set p true) (o ++ [(p : Int)]) (by omega) (by simpa using hx) (by simp; omega)
        rw [taken_set (by omega)] at this
        simpa using this
    · have e1 : N - a = 0 := by omega
      rw [e1, ParkT.fwdF]
      simp only [Bool.false_eq_true, if_false]
      exact drive_past N x o l _ _ _ (by omega)
theorem isParking_ev (l : List Int) : Ev (fun k => impl_isParking.f k l) (parkB l) := by
  unfold impl_isParking.f impl_areCars.f
  by_cases h8 : l.length ≤ 8
  · simp only [show ((l.length : Int) ≤ 8) from by omega, if_true, impl_areBetween.f, Option.bind_some]
    cases hb : (l.all fun x => decide (0 ≤ x) && decide (x ≤ 99)) with
    | false =>
      simp only [Bool.false_eq_true, if_false]
      have : parkB l = false := by
        unfold parkB
        rw [decide_eq_true h8, Bool.true_and]
        have h1 : (l.all fun x => decide (0 ≤ x ∧ x ≤ (l.length : Int) - 1)) = false := by
          rw [List.all_eq_false] at hb ⊢
          obtain ⟨x, hx, hn⟩ := hb
          refine ⟨x, hx, ?_⟩
          simp at hn ⊢
          omega
        rw [h1, Bool.false_and]
      rw [this]
      exact Ev.now _
    | true =>
      simp only [if_true]
      have hr : ∀ j, j < l.length → 0 ≤ l.getD j 0 := by
        intro j hj
        rw [List.all_eq_true] at hb
        have := hb l[j] (List.getElem_mem hj)
        rw [List.getD_eq_getElem?_getD, List.getElem?_eq_getElem hj]
        simp at this ⊢
        exact this.1
      have hd : Ev (fun k => impl_drive.f k l (l.length : Int)) (if allP l.length (fun _ => false) (natL l) = true then (outP' l.length (fun _ => false) (natL l), true) else ([], false)) := by
        unfold impl_drive.f
        simp only [show (0 : Int) ≤ (l.length : Int) by omega, Int.toNat_natCast, show l.length ≤ 281474976710656 by omega, if_true]
        have := drive_l0 l l.length (by omega) (by omega) hr l.length 0 (List.replicate l.length false) [] (by omega) (by simp) (by simp)
        have et : taken (List.replicate l.length false) = fun _ => false := by
          funext q
          unfold taken
          rw [List.getD_eq_getElem?_getD, List.getElem?_replicate]
          split <;> rfl
        rw [et] at this
        simpa using this
      refine Ev.bind hd ?_
      have e : parkB l = allP l.length (fun _ => false) (natL l) := by
        unfold parkB
        rw [decide_eq_true h8, Bool.true_and]
        cases ha : allP l.length (fun _ => false) (natL l) with
        | false => rw [Bool.and_false]
        | true =>
          rw [Bool.and_true, List.all_eq_true]
          intro x hx
          have h1 := allP_lt _ _ ha x.toNat (List.mem_map.2 ⟨x, hx, rfl⟩)
          obtain ⟨j, hj, rfl⟩ := List.getElem_of_mem hx
          have h2 := hr j hj
          rw [List.getD_eq_getElem?_getD, List.getElem?_eq_getElem hj] at h2
          simp at h2
          exact decide_eq_true (by omega)
      rw [e]
      cases allP l.length (fun _ => false) (natL l) with
      | true => simp only [if_true]; exact Ev.now _
      | false => simp only [Bool.false_eq_true, if_false]; exact Ev.now _
  · simp only [show ¬ ((l.length : Int) ≤ 8) from by omega, if_false, Option.bind_some, Bool.false_eq_true]
    unfold parkB
    rw [decide_eq_false h8, Bool.false_and, Bool.false_and]
    exact Ev.now _
theorem parkB_get {l : List Int} (h : parkB l = true) : l.length ≤ 8 ∧ ∀ j, -1000000 ≤ l.getD j 0 ∧ l.getD j 0 ≤ 1000000 := by
  unfold parkB at h
  simp only [Bool.and_eq_true, decide_eq_true_eq] at h
  obtain ⟨⟨h1, h2⟩, _⟩ := h
  refine ⟨h1, fun j => ?_⟩
  rcases Nat.lt_or_ge j l.length with hj | hj
  · have := all_get h2 hj; omega
  · rw [List.getD_eq_getElem?_getD, List.getElem?_eq_none hj]; simp

end Go.Proofs.Ytfclfjengfmjaaa.G
