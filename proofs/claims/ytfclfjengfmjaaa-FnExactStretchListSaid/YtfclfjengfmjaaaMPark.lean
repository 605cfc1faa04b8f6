/- Cars that look back: who looks farther back parks where others do. Cars that fail: the defect. Plain Lean. -/
namespace ParkT
/-- The first free place among a, a - 1, .., k places back at most. -/
def backF (S : Nat → Bool) : Nat → Nat → Option Nat
  | k, a => if S a = false then some a else match k, a with
    | k + 1, a + 1 => backF S k a
    | _, _ => none
/-- The first free place from a on, of d places. -/
def fwdF (S : Nat → Bool) : Nat → Nat → Option Nat
  | 0, _ => none
  | d + 1, a => if S a = false then some a else fwdF S d (a + 1)
def bplace (N : Nat) (S : Nat → Bool) (k a : Nat) : Option Nat := match backF S k a with
  | some p => some p
  | none => fwdF S (N - a) a
theorem backF_some {S : Nat → Bool} : ∀ {k a p : Nat}, backF S k a = some p → p ≤ a ∧ a ≤ p + k ∧ S p = false ∧ ∀ q, p < q → q ≤ a → S q = true
  | 0, a, p, h => by
    unfold backF at h
    split at h
    · obtain rfl := Option.some.inj h
      exact ⟨Nat.le_refl _, by omega, ‹_›, fun q h1 h2 => by omega⟩
    · simp at h
  | k + 1, 0, p, h => by
    unfold backF at h
    split at h
    · obtain rfl := Option.some.inj h
      exact ⟨Nat.le_refl _, by omega, ‹_›, fun q h1 h2 => by omega⟩
    · simp at h
  | k + 1, a + 1, p, h => by
    unfold backF at h
    split at h
    · obtain rfl := Option.some.inj h
      exact ⟨Nat.le_refl _, by omega, ‹_›, fun q h1 h2 => by omega⟩
    · rename_i hs
      obtain ⟨h1, h2, h3, h4⟩ := backF_some h
      refine ⟨by omega, by omega, h3, fun q hq1 hq2 => ?_⟩
      rcases Nat.lt_or_ge q (a + 1) with h5 | h5
      · exact h4 q hq1 (by omega)
      · have : q = a + 1 := by omega
        rw [this]; simpa using hs
theorem backF_none {S : Nat → Bool} : ∀ {k a : Nat}, backF S k a = none → ∀ q, q ≤ a → a ≤ q + k → S q = true
  | 0, a, h, q, h1, h2 => by
    unfold backF at h
    split at h
    · cases h
    · have : q = a := by omega
      rw [this]; simp_all
  | k + 1, 0, h, q, h1, h2 => by
    unfold backF at h
    split at h
    · cases h
    · have : q = 0 := by omega
      rw [this]; simp_all
  | k + 1, a + 1, h, q, h1, h2 => by
    unfold backF at h
    split at h
    · cases h
    · rename_i hs
      rcases Nat.lt_or_ge q (a + 1) with h5 | h5
      · exact backF_none h q (by omega) (by omega)
      · have : q = a + 1 := by omega
        rw [this]; simpa using hs
theorem fwdF_some {S : Nat → Bool} : ∀ {d a p : Nat}, fwdF S d a = some p → a ≤ p ∧ p < a + d ∧ S p = false ∧ ∀ q, a ≤ q → q < p → S q = true
  | 0, a, p, h => by simp [fwdF] at h
  | d + 1, a, p, h => by
    unfold fwdF at h
    split at h
    · obtain rfl := Option.some.inj h
      exact ⟨Nat.le_refl _, by omega, ‹_›, fun q h1 h2 => by omega⟩
    · rename_i hs
      obtain ⟨h1, h2, h3, h4⟩ := fwdF_some h
      refine ⟨by omega, by omega, h3, fun q hq1 hq2 => ?_⟩
      rcases Nat.lt_or_ge a q with h5 | h5
      · exact h4 q (by omega) hq2
      · have : q = a := by omega
        rw [this]; simpa using hs
theorem fwdF_none {S : Nat → Bool} : ∀ {d a : Nat}, fwdF S d a = none → ∀ q, a ≤ q → q < a + d → S q = true
  | 0, a, _, q, h1, h2 => by omega
  | d + 1, a, h, q, h1, h2 => by
    unfold fwdF at h
    split at h
    · cases h
    · rename_i hs
      rcases Nat.lt_or_ge a q with h5 | h5
      · exact fwdF_none h q (by omega) (by omega)
      · have : q = a := by omega
        rw [this]; simpa using hs
/-- How many of the places a, .., a + d - 1 are taken. -/
def cnt (S : Nat → Bool) : Nat → Nat → Nat
  | 0, _ => 0
  | d + 1, a => (if S a = true then 1 else 0) + cnt S d (a + 1)
theorem cnt_le (S : Nat → Bool) : ∀ (d a : Nat), cnt S d a ≤ d
  | 0, _ => Nat.le_refl _
  | d + 1, a => by have := cnt_le S d (a + 1); unfold cnt; split <;> omega
theorem cnt_full {S : Nat → Bool} : ∀ (d a : Nat), (∀ q, a ≤ q → q < a + d → S q = true) → cnt S d a = d
  | 0, _, _ => rfl
  | d + 1, a, h => by
    have := cnt_full d (a + 1) (fun q h1 h2 => h q (by omega) (by omega))
    unfold cnt
    rw [if_pos (h a (Nat.le_refl _) (by omega))]; omega
theorem full_of_cnt {S : Nat → Bool} : ∀ (d a : Nat), cnt S d a = d → ∀ q, a ≤ q → q < a + d → S q = true
  | 0, _, _, q, h1, h2 => by omega
  | d + 1, a, h, q, h1, h2 => by
    unfold cnt at h
    have hle := cnt_le S d (a + 1)
    by_cases hs : S a = true
    · rw [if_pos hs] at h
      rcases Nat.lt_or_ge a q with h5 | h5
      · exact full_of_cnt d (a + 1) (by omega) q (by omega) (by omega)
      · have : q = a := by omega
        rw [this]; exact hs
    · rw [if_neg hs] at h; omega
theorem cnt_add (S : Nat → Bool) : ∀ (d e a : Nat), cnt S (d + e) a = cnt S d a + cnt S e (a + d)
  | 0, e, a => by simp [cnt]
  | d + 1, e, a => by
    have := cnt_add S d e (a + 1)
    rw [show d + 1 + e = (d + e) + 1 by omega, cnt, cnt, this, show a + 1 + d = a + (d + 1) by omega]; omega
theorem cnt_lt {S : Nat → Bool} (d a q : Nat) (h1 : a ≤ q) (h2 : q < a + d) (hs : S q = false) : cnt S d a < d := by
  rcases Nat.lt_or_ge (cnt S d a) d with h | h
  · exact h
  · have hle := cnt_le S d a
    have := full_of_cnt (S := S) d a (by omega) q h1 h2
    rw [hs] at this; cases this
def put (S : Nat → Bool) (p : Nat) : Nat → Bool := fun q => decide (q = p) || S q
theorem cnt_put {S : Nat → Bool} {p : Nat} (hp : S p = false) : ∀ (d a : Nat), cnt (put S p) d a = cnt S d a + if a ≤ p ∧ p < a + d then 1 else 0
  | 0, a => by
    rw [if_neg (by omega)]; rfl
  | d + 1, a => by
    have ih := cnt_put hp d (a + 1)
    unfold cnt
    rw [ih]
    by_cases e : a = p
    · subst e
      have : ¬ (a + 1 ≤ a ∧ a < a + 1 + d) := by omega
      rw [if_neg this, if_pos (show a ≤ a ∧ a < a + (d + 1) by omega)]
      simp [put, hp]; omega
    · have hq : put S p a = S a := by simp [put, e]
      rw [hq]
      by_cases hr : a + 1 ≤ p ∧ p < a + 1 + d
      · rw [if_pos hr, if_pos (show a ≤ p ∧ p < a + (d + 1) by omega)]; omega
      · rw [if_neg hr, if_neg (show ¬ (a ≤ p ∧ p < a + (d + 1)) by omega)]; omega
/-- No more places are taken from any place on. -/
def Dom (N : Nat) (S' S : Nat → Bool) : Prop := ∀ j, j ≤ N → cnt S' (N - j) j ≤ cnt S (N - j) j
theorem Dom.refl (N : Nat) (S : Nat → Bool) : Dom N S S := fun _ _ => Nat.le_refl _
theorem bplace_some {N : Nat} {S : Nat → Bool} {k a p : Nat} (ha : a < N) (h : bplace N S k a = some p) : p < N ∧ S p = false ∧ a ≤ p + k ∧ ((p ≤ a ∧ ∀ q, p < q → q ≤ a → S q = true) ∨ (a < p ∧ (∀ q, q ≤ a → a ≤ q + k → S q = true) ∧ ∀ q, a ≤ q → q < p → S q = true)) := by
  unfold bplace at h
  split at h
  · rename_i p' hb
    obtain rfl := Option.some.inj h
    obtain ⟨h1, h2, h3, h4⟩ := backF_some hb
    exact ⟨by omega, h3, by omega, .inl ⟨h1, h4⟩⟩
  · rename_i hb
    have hn := backF_none hb
    obtain ⟨h1, h2, h3, h4⟩ := fwdF_some h
    refine ⟨by omega, h3, by omega, .inr ⟨?_, hn, h4⟩⟩
    rcases Nat.lt_or_ge a p with h5 | h5
    · exact h5
    · have : p = a := by omega
      rw [this, hn a (Nat.le_refl _) (by omega)] at h3; cases h3
theorem bplace_none {N : Nat} {S : Nat → Bool} {k a : Nat} (ha : a < N) (h : bplace N S k a = none) : ∀ q, a ≤ q + k → q < N → S q = true := by
  unfold bplace at h
  split at h
  · cases h
  · rename_i hb
    intro q h1 h2
    rcases Nat.lt_or_ge a q with h5 | h5
    · exact fwdF_none h q (by omega) (by omega)
    · exact backF_none hb q h5 h1
/-- ONE CAR: who looks farther back parks, and leaves no less room on the right. -/
theorem back_step {N : Nat} {S' S : Nat → Bool} {k a p : Nat} (hD : Dom N S' S) (ha : a < N) (h : bplace N S k a = some p) : ∃ p', bplace N S' (k + 1) a = some p' ∧ Dom N (put S' p') (put S p) := by
  obtain ⟨p1, p2, p3, p4⟩ := bplace_some ha h
  have split2 : ∀ (T : Nat → Bool) (i j : Nat), i ≤ j → j ≤ N → cnt T (N - i) i = cnt T (j - i) i + cnt T (N - j) j := by
    intro T i j h1 h2
    have := cnt_add T (j - i) (N - j) i
    rwa [show j - i + (N - j) = N - i by omega, show i + (j - i) = j by omega] at this
  cases h' : bplace N S' (k + 1) a with
  | none =>
    exfalso
    have hf := bplace_none ha h'
    -- all from a - k - 1 on are taken, so they are in S
    have e1 : cnt S' (N - (a - (k + 1))) (a - (k + 1)) = N - (a - (k + 1)) := cnt_full _ _ (fun q h1 h2 => hf q (by omega) (by omega))
    have e2 := hD (a - (k + 1)) (by omega)
    have e3 := cnt_lt (S := S) (N - (a - (k + 1))) (a - (k + 1)) p (by omega) (by omega) p2
    omega
  | some p' =>
    refine ⟨p', rfl, ?_⟩
    obtain ⟨q1, q2, q3, q4⟩ := bplace_some ha h'
    intro j hj
    rw [cnt_put q2, cnt_put p2]
    have hDj := hD j hj
    by_cases hc : j ≤ p' ∧ p' < j + (N - j)
    · rw [if_pos hc]
      by_cases hc2 : j ≤ p ∧ p < j + (N - j)
      · rw [if_pos hc2]; omega
      · rw [if_neg hc2]
        -- p < j ≤ p'
        have hpj : p < j := by omega
        have strict : cnt S' (N - j) j < cnt S (N - j) j := by
          rcases q4 with ⟨r1, r2⟩ | ⟨r1, r2, r3⟩
          · -- p' ≤ a: so p < a: in S all of (p, a] is taken
            rcases p4 with ⟨t1, t2⟩ | ⟨t1, t2, t3⟩
            · have s1 := split2 S j (a + 1) (by omega) (by omega)
              have s2 := split2 S' j (a + 1) (by omega) (by omega)
              have s3 := cnt_full (S := S) (a + 1 - j) j (fun q h1 h2 => t2 q (by omega) (by omega))
              have s4 := cnt_lt (S := S') (a + 1 - j) j p' (by omega) (by omega) q2
              have s5 := hD (a + 1) (by omega)
              omega
            · omega
          · -- p' > a: in S' all from a - k - 1 to p' is taken; p is free in S
            have lo : a - (k + 1) ≤ p := by omega
            have s1 := split2 S (a - (k + 1)) j (by omega) hj
            have s2 := split2 S' (a - (k + 1)) j (by omega) hj
            have s3 := cnt_full (S := S') (j - (a - (k + 1))) (a - (k + 1)) (fun q h1 h2 => by
              rcases Nat.lt_or_ge a q with h5 | h5
              · exact r3 q (by omega) (by omega)
              · exact r2 q h5 (by omega))
            have s4 := cnt_lt (S := S) (j - (a - (k + 1))) (a - (k + 1)) p lo (by omega) p2
            have s5 := hD (a - (k + 1)) (by omega)
            omega
        omega
    · rw [if_neg hc]; omega
/-- All cars, one behind the other; none where one fails. -/
def driveB (N k : Nat) : (Nat → Bool) → List Nat → Option (List Nat)
  | _, [] => some []
  | S, a :: l => match bplace N S k a with
    | none => none
    | some p => (driveB N k (put S p) l).map (p :: ·)
theorem back_mono {N k : Nat} : ∀ (l : List Nat) (S' S : Nat → Bool), Dom N S' S → (∀ a ∈ l, a < N) → (driveB N k S l).isSome = true → (driveB N (k + 1) S' l).isSome = true
  | [], _, _, _, _, _ => rfl
  | a :: l, S', S, hD, hl, h => by
    unfold driveB at h
    cases hb : bplace N S k a with
    | none => rw [hb] at h; simp at h
    | some p =>
      rw [hb] at h
      simp at h
      obtain ⟨p', hb', hD'⟩ := back_step hD (hl a (by simp)) hb
      unfold driveB
      rw [hb']
      simp
      exact back_mono l _ _ hD' (fun x hx => hl x (by simp [hx])) h

/-! ### Cars that fail -/
def driveS (N : Nat) : (Nat → Bool) → List Nat → List (Option Nat)
  | _, [] => []
  | S, a :: l => match fwdF S (N - a) a with
    | none => none :: driveS N S l
    | some p => some p :: driveS N (put S p) l
/-- What is taken in the end. -/
def endS (N : Nat) : (Nat → Bool) → List Nat → (Nat → Bool)
  | S, [] => S
  | S, a :: l => match fwdF S (N - a) a with
    | none => endS N S l
    | some p => endS N (put S p) l
def fails (l : List (Option Nat)) : Nat := (l.filter fun x => x.isNone).length
def from_ (j : Nat) (l : List Nat) : Nat := (l.filter fun x => decide (j ≤ x)).length
theorem endS_keeps (N : Nat) : ∀ (l : List Nat) (S : Nat → Bool) (q : Nat), S q = true → endS N S l q = true
  | [], _, _, h => h
  | a :: l, S, q, h => by
    cases hf : fwdF S (N - a) a with
    | none => simp only [endS, hf]; exact endS_keeps N l S q h
    | some p => simp only [endS, hf]; exact endS_keeps N l _ q (by simp [put, h])
theorem fails_cons_none (l : List (Option Nat)) : fails (none :: l) = fails l + 1 := by simp [fails]
theorem fails_cons_some (p : Nat) (l : List (Option Nat)) : fails (some p :: l) = fails l := by simp [fails]
theorem from_cons (j a : Nat) (l : List Nat) : from_ j (a :: l) = from_ j l + if j ≤ a then 1 else 0 := by
  unfold from_
  rw [List.filter_cons]
  by_cases h : j ≤ a <;> simp [h]
theorem from_le {N : Nat} (j : Nat) (hj : j ≤ N) : ∀ (l : List Nat) (S : Nat → Bool), from_ j l + cnt S (N - j) j ≤ fails (driveS N S l) + cnt (endS N S l) (N - j) j
  | [], S => by simp [from_, driveS, endS, fails]
  | a :: l, S => by
    rw [from_cons]
    cases hp : fwdF S (N - a) a with
    | none =>
      simp only [driveS, endS, hp]
      have := from_le j hj l S
      rw [fails_cons_none]
      split <;> omega
    | some p =>
      simp only [driveS, endS, hp]
      have := from_le j hj l (put S p)
      obtain ⟨h1, h2, h3, h4⟩ := fwdF_some hp
      rw [fails_cons_some]
      rw [cnt_put h3] at this
      by_cases ha : j ≤ a
      · rw [if_pos ha]
        rw [if_pos (by omega)] at this
        omega
      · rw [if_neg ha]
        split at this <;> omega
theorem from_eq {N : Nat} (j : Nat) (hj : j ≤ N) : ∀ (l : List Nat) (S : Nat → Bool), (∀ a ∈ l, a < N) → (j = 0 ∨ endS N S l (j - 1) = false) → from_ j l + cnt S (N - j) j = fails (driveS N S l) + cnt (endS N S l) (N - j) j
  | [], S, _, _ => by simp [from_, driveS, endS, fails]
  | a :: l, S, hl, h0 => by
    have haN := hl a (by simp)
    rw [from_cons]
    cases hf : fwdF S (N - a) a with
    | none =>
      simp only [endS, hf] at h0
      have ih := from_eq j hj l S (fun x hx => hl x (by simp [hx])) h0
      simp only [driveS, endS, hf]
      rw [fails_cons_none]
      have hn := fwdF_none hf
      have : j ≤ a := by
        rcases Nat.lt_or_ge a j with h | h
        · exfalso
          rcases h0 with h1 | h1
          · omega
          · rw [endS_keeps N l S (j - 1) (hn (j - 1) (by omega) (by omega))] at h1; cases h1
        · exact h
      rw [if_pos this]; omega
    | some p =>
      simp only [endS, hf] at h0
      have ih := from_eq j hj l (put S p) (fun x hx => hl x (by simp [hx])) h0
      obtain ⟨h1, h2, h3, h4⟩ := fwdF_some hf
      simp only [driveS, endS, hf]
      rw [fails_cons_some]
      rw [cnt_put h3] at ih
      by_cases ha : j ≤ a
      · rw [if_pos ha]
        rw [if_pos (by omega)] at ih
        omega
      · rw [if_neg ha]
        have : ¬ (j ≤ p) := by
          intro hjp
          rcases h0 with h5 | h5
          · omega
          · have := endS_keeps N l (put S p) (j - 1) (by simp [put, h4 (j - 1) (by omega) (by omega)])
            rw [this] at h5; cases h5
        rw [if_neg (by omega)] at ih
        omega
theorem driveS_fail {N : Nat} : ∀ (l : List Nat) (S : Nat → Bool), (∀ a ∈ l, a < N) → 0 < fails (driveS N S l) → endS N S l (N - 1) = true
  | [], S, _, h => by simp [driveS, fails] at h
  | a :: l, S, hl, h => by
    have haN := hl a (by simp)
    cases hf : fwdF S (N - a) a with
    | none => simp only [endS, hf]; exact endS_keeps N l S _ (fwdF_none hf (N - 1) (by omega) (by omega))
    | some p =>
      simp only [driveS, hf, fails_cons_some] at h
      simp only [endS, hf]
      exact driveS_fail l _ (fun x hx => hl x (by simp [hx])) h
/-- THE DEFECT: as told by the place that is asked for too often. -/
theorem defect_le {N : Nat} (l : List Nat) (j : Nat) (hj : j ≤ N) : from_ j l ≤ fails (driveS N (fun _ => false) l) + (N - j) := by
  have h1 := from_le j hj l (fun _ => false)
  have h2 := cnt_le (endS N (fun _ => false) l) (N - j) j
  omega
theorem defect_at {N : Nat} (l : List Nat) (hl : ∀ a ∈ l, a < N) (h : 0 < fails (driveS N (fun _ => false) l)) : ∃ j, j < N ∧ from_ j l = fails (driveS N (fun _ => false) l) + (N - j) := by
  have hN : 0 < N := by
    cases l with
    | nil => simp [driveS, fails] at h
    | cons a l => have := hl a (by simp); omega
  have hlast := driveS_fail l _ hl h
  generalize hE : endS N (fun _ => false) l = E at hlast
  have ex : ∀ d, d < N → (∀ q, N - 1 - d < q → q < N → E q = true) → ∃ j, j < N ∧ (∀ q, j ≤ q → q < N → E q = true) ∧ (j = 0 ∨ E (j - 1) = false) := by
    intro d hd
    -- go down from N - 1 - d
    have : ∀ (f : Nat) (hf : f < N), (∀ q, f < q → q < N → E q = true) → E f = true → ∃ j, j < N ∧ (∀ q, j ≤ q → q < N → E q = true) ∧ (j = 0 ∨ E (j - 1) = false) := by
      intro f
      induction f with
      | zero => intro hf h1 h2; exact ⟨0, hf, (fun q _ h4 => by
          rcases Nat.eq_zero_or_pos q with h5 | h5
          · rw [h5]; exact h2
          · exact h1 q h5 h4), .inl rfl⟩
      | succ f ih =>
        intro hf h1 h2
        cases hq : E f with
        | true => exact ih (by omega) (fun q h3 h4 => by
            rcases Nat.lt_or_ge (f + 1) q with h5 | h5
            · exact h1 q h5 h4
            · have : q = f + 1 := by omega
              rw [this]; exact h2) hq
        | false => exact ⟨f + 1, hf, (fun q h3 h4 => by
            rcases Nat.lt_or_ge (f + 1) q with h5 | h5
            · exact h1 q h5 h4
            · have : q = f + 1 := by omega
              rw [this]; exact h2), .inr hq⟩
    intro _
    exact this (N - 1) (by omega) (fun q h1 h2 => by omega) hlast
  obtain ⟨j, h1, h2, h3⟩ := ex 0 hN (fun q h1 h2 => by omega)
  refine ⟨j, h1, ?_⟩
  have := from_eq (N := N) j (by omega) l (fun _ => false) hl (by rw [hE]; exact h3)
  rw [hE, cnt_full (S := E) (N - j) j (fun q h4 h5 => h2 q h4 (by omega))] at this
  have hz : cnt (fun _ => false) (N - j) j = 0 := by
    have : ∀ d a, cnt (fun _ => false) d a = 0 := by
      intro d
      induction d with
      | zero => intro a; rfl
      | succ d ih => intro a; unfold cnt; rw [ih]; simp
    exact this _ _
  omega
end ParkT
