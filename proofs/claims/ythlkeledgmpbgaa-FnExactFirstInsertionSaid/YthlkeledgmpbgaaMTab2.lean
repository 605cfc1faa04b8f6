
/- Plain theory on tables, second part: insertion keeps a table valid; the lengths of the clusters are as many as the keys. No program in sight. -/

import Derived.Test.YthlkeledgmpbgaaMTab

namespace TabT

set_option linter.unusedVariables false

set_option linter.unusedSimpArgs false

theorem Valid.ins {t : List Int} (hV : Valid t) {k : Int} (hk : 0 ≤ k) (hn : k ∉ keys t) (hm : many t + 1 < t.length) : Valid (ins t k) := by
  have hF := hV.free
  have hp := pos_lt hF k
  have hpf := pos_free hF k
  have hlen : (TabT.ins t k).length = t.length := by simp [TabT.ins]
  have hg : ∀ i, (TabT.ins t k).getD i (-1) = if i = pos t k then k else t.getD i (-1) := fun i => getD_set _ _ _ _ _ hp
  have hu : ∀ i, us (TabT.ins t k) i = (decide (i = pos t k) || us t i) := fun i => us_set _ _ _ _ hp hk
  refine ⟨?_, ?_, ?_, ?_⟩
  · exact free_of_many _ (by rw [many_ins hF hk, hlen]; exact hm)
  · intro i hi
    rw [hg]; split
    · omega
    · exact hV.ge i (by rw [← hlen]; exact hi)
  · intro i j hi hj e
    rw [hu, Bool.or_eq_true, decide_eq_true_eq] at hi hj
    rw [hg, hg] at e
    by_cases c1 : i = pos t k <;> by_cases c2 : j = pos t k
    · omega
    · rw [if_pos c1, if_neg c2] at e
      exact absurd (mem_keys.2 ⟨j, hj.resolve_left c2, e.symm⟩) hn
    · rw [if_neg c1, if_pos c2] at e
      exact absurd (mem_keys.2 ⟨i, hi.resolve_left c1, e⟩) hn
    · rw [if_neg c1, if_neg c2] at e
      exact hV.nodup i j (hi.resolve_left c1) (hj.resolve_left c2) e
  · intro i hi m hm'
    rw [hu, Bool.or_eq_true, decide_eq_true_eq] at hi
    rw [hlen, hg] at hm'
    rw [hlen, hg, hu, Bool.or_eq_true, decide_eq_true_eq]
    right
    by_cases c : i = pos t k
    · rw [if_pos c] at hm' ⊢
      have s := ff_spec hF (own_lt (n := t.length) (by omega) k)
      have hc : cost t.length (pos t k) k = ff t (own t.length k) := cost_own s.1 k
      rw [c, hc] at hm'
      exact s.2.2 m hm'
    · rw [if_neg c] at hm' ⊢
      exact hV.path i (hi.resolve_left c) m hm'

theorem insAll_valid : ∀ (ks t : List Int), Valid t → (∀ k ∈ ks, 0 ≤ k) → ks.Nodup → (∀ k ∈ ks, k ∉ keys t) → many t + ks.length < t.length → Valid (insAll t ks) ∧ (keys (insAll t ks)).Perm (ks ++ keys t)
  | [], t, hV, _, _, _, _ => ⟨hV, .refl _⟩
  | k :: ks, t, hV, h0, hn, hd, hm => by
    have hF := hV.free
    have hk0 := h0 k (by simp)
    have hkn := hd k (by simp)
    simp only [List.length_cons] at hm
    have V1 := hV.ins hk0 hkn (by omega)
    have P1 : (keys (TabT.ins t k)).Perm (k :: keys t) := keys_set t (pos t k) k (pos_lt hF k) (pos_free hF k) hk0
    have := insAll_valid ks (TabT.ins t k) V1 (fun x hx => h0 x (by simp [hx])) (List.nodup_cons.1 hn).2 (fun x hx e => by
      rcases List.mem_cons.1 (P1.mem_iff.1 e) with e | e
      · subst e; exact (List.nodup_cons.1 hn).1 hx
      · exact hd x (by simp [hx]) e) (by rw [many_ins hF hk0]; simp only [TabT.ins, List.length_set]; omega)
    refine ⟨this.1, this.2.trans ?_⟩
    exact ((List.Perm.refl ks).append P1).trans List.perm_middle

theorem insAll_len : ∀ (ks t : List Int), (insAll t ks).length = t.length
  | [], t => rfl
  | k :: ks, t => by
    have := insAll_len ks (TabT.ins t k)
    simp only [TabT.ins, List.length_set] at this
    exact this
/-- The table of keys, out of an empty one: valid, with these keys. -/
theorem table_valid {n : Nat} {ks : List Int} (h0 : ∀ k ∈ ks, 0 ≤ k) (hn : ks.Nodup) (hl : ks.length < n) : Valid (insAll (empty n) ks) ∧ (keys (insAll (empty n) ks)).Perm ks ∧ (insAll (empty n) ks).length = n := by
  have hm : many (empty n) = 0 := by rw [many_keys, keys_empty]; rfl
  have := insAll_valid ks (empty n) (Valid.empty (by omega)) h0 hn (fun k _ => by rw [keys_empty]; simp) (by rw [hm]; simp [TabT.empty]; exact hl)
  rw [keys_empty, List.append_nil] at this
  exact ⟨this.1, this.2, by rw [insAll_len]; simp [TabT.empty]⟩

/-! ### Clusters: the lengths of the runs behind a free cell are as many as the used cells -/

def sm (F : Nat → Nat) (k : Nat) : Nat → Nat
  | 0 => 0
  | d + 1 => sm F k d + F (k + d)
theorem sm_front (F : Nat → Nat) : ∀ d k, sm F k (d + 1) = F k + sm F (k + 1) d
  | 0, k => by simp [sm]
  | d + 1, k => by rw [sm, sm_front F d k, sm, show k + (d + 1) = k + 1 + d by omega]; omega
theorem sm_turn (F : Nat → Nat) (n : Nat) (hp : ∀ i, F (i + n) = F i) : ∀ k, sm F k n = sm F 0 n
  | 0 => rfl
  | k + 1 => by
    have a := sm_front F n k
    rw [sm, hp] at a
    have := sm_turn F n hp k
    omega
theorem sm_ext {F G : Nat → Nat} (k : Nat) : ∀ d, (∀ i, i < d → F (k + i) = G (k + i)) → sm F k d = sm G k d
  | 0, _ => rfl
  | d + 1, h => by rw [sm, sm, sm_ext k d (fun i hi => h i (by omega)), h d (by omega)]
def rn (u : Nat → Bool) : Nat → Nat → Nat
  | 0, _ => 0
  | d + 1, i => if u i = true then 1 + rn u d (i + 1) else 0
theorem rn_stop (u : Nat → Bool) : ∀ (d i e : Nat), u (i + d) = false → d ≤ e → rn u e i = rn u d i
  | 0, i, e, h, _ => by
    cases e with
    | zero => rfl
    | succ e => rw [rn, rn, if_neg (by rw [show u i = false by simpa using h]; decide)]
  | d + 1, i, e, h, he => by
    cases e with
    | zero => omega
    | succ e => rw [rn, rn, rn_stop u d (i + 1) e (by rw [← h]; congr 1; omega) (by omega)]
section

variable (u : Nat → Bool) (n : Nat) (hp : ∀ i, u (i + n) = u i)

def cF (i : Nat) : Nat := if u i = true then 1 else 0
def sF (i : Nat) : Nat := if u i = true ∧ u (i + n - 1) = false then rn u n i else 0
include hp
theorem rn_turn : ∀ d i, rn u d (i + n) = rn u d i
  | 0, i => rfl
  | d + 1, i => by rw [rn, rn, hp, show i + n + 1 = i + 1 + n by omega, rn_turn d (i + 1)]
theorem clusters_from (g : Nat) (hg : u g = false) : ∀ (d e : Nat), e + d = n → 1 ≤ e → sm (sF u n) (g + e) d + (if u (g + e - 1) = true ∧ u (g + e) = true then rn u n (g + e) else 0) = sm (cF u) (g + e) d
  | 0, e, he, h1 => by
    have : u (g + e) = false := by rw [show e = n by omega, hp, hg]
    simp [sm, this]
  | d + 1, e, he, h1 => by
    have ih := clusters_from g hg d (e + 1) (by omega) (by omega)
    rw [sm_front, sm_front, show g + e + 1 = g + (e + 1) by omega]
    rw [show g + (e + 1) - 1 = g + e by omega] at ih
    have hprev : u (g + e + n - 1) = u (g + e - 1) := by rw [show g + e + n - 1 = g + e - 1 + n by omega, hp]
    have hend : u (g + n) = false := by rw [hp, hg]
    cases c : u (g + e) with
    | false =>
      rw [c] at ih
      simp only [sF, cF, c, Bool.false_eq_true, false_and, and_false, if_false] at ih ⊢
      omega
    | true =>
      have hr : rn u n (g + e) = 1 + (if u (g + (e + 1)) = true then rn u n (g + (e + 1)) else 0) := by
        rw [rn_stop u (n - e) (g + e) n (by rw [show g + e + (n - e) = g + n by omega]; exact hend) (by omega), show n - e = (n - (e + 1)) + 1 by omega, rn, if_pos c]
        congr 1
        rw [show g + e + 1 = g + (e + 1) by omega]
        cases c2 : u (g + (e + 1)) with
        | true =>
          rw [if_pos rfl]
          exact (rn_stop u (n - (e + 1)) (g + (e + 1)) n (by rw [show g + (e + 1) + (n - (e + 1)) = g + n by omega]; exact hend) (by omega)).symm
        | false =>
          rw [if_neg (by decide)]
          cases n - (e + 1) with
          | zero => rfl
          | succ k => rw [rn, if_neg (by rw [c2]; decide)]
      rw [c] at ih
      simp only [true_and] at ih
      cases c0 : u (g + e - 1) with
      | true =>
        simp only [sF, cF, c, hprev, c0, Bool.true_eq_false, and_false, if_false, true_and, if_true, and_self]
        have ih2 : sm (sF u n) (g + (e + 1)) d + (if u (g + (e + 1)) = true then rn u n (g + (e + 1)) else 0) = sm (cF u) (g + (e + 1)) d := ih
        omega
      | false =>
        simp only [sF, cF, c, hprev, c0, and_self, if_true, Bool.false_eq_true, false_and, if_false]
        omega
theorem clusters_sum (g : Nat) (hn : 1 ≤ n) (hg : u g = false) : sm (sF u n) 0 n = sm (cF u) 0 n := by
  have h := clusters_from u n hp g hg (n - 1) 1 (by omega) (by omega)
  rw [show g + 1 - 1 = g by omega, hg] at h
  simp only [Bool.false_eq_true, false_and, if_false, Nat.add_zero] at h
  have t1 : sm (sF u n) (g + 1) n = sm (sF u n) (g + 1) (n - 1) := by
    conv => lhs; rw [show n = n - 1 + 1 by omega, sm]
    rw [show n - 1 + 1 = n by omega, show g + 1 + (n - 1) = g + n by omega, sF, if_neg (by rw [hp, hg]; simp)]
    rfl
  have t2 : sm (cF u) (g + 1) n = sm (cF u) (g + 1) (n - 1) := by
    conv => lhs; rw [show n = n - 1 + 1 by omega, sm]
    rw [show g + 1 + (n - 1) = g + n by omega, cF, if_neg (by rw [hp, hg]; simp)]
    rfl
  rw [← sm_turn (sF u n) n (fun i => by unfold sF; rw [hp, rn_turn u n hp]; congr 2; rw [show i + n + n - 1 = i + n - 1 + n by omega, hp]) (g + 1), t1, h, ← t2]
  exact sm_turn (cF u) n (fun i => by unfold cF; rw [hp]) (g + 1)
end

theorem sm_count (p : Int → Bool) (l : List Int) : ∀ q, q ≤ l.length → sm (fun j => if p (l.getD j 0) = true then 1 else 0) 0 q = ((l.take q).filter p).length
  | 0, _ => by simp [sm]
  | q + 1, h => by
    have e : l.take (q + 1) = l.take q ++ [l.getD q 0] := by
      rw [List.take_add_one, List.getElem?_eq_getElem (by omega), Option.toList_some, List.getD_eq_getElem?_getD, List.getElem?_eq_getElem (by omega)]
      rfl
    rw [sm, sm_count p l q (by omega), e, List.filter_append, List.length_append, Nat.zero_add]
    cases c : p (l.getD q 0) with
    | true => rw [List.filter_cons_of_pos c]; simp
    | false => rw [List.filter_cons_of_neg (by rw [c]; decide)]; simp
end TabT
