
/- Pure facts on printed functions: keys that are exchanged on their way, in the reference and in the program. -/



import Derived.Test.YthlkeledgmpbgaaPT5

namespace Go.Proofs.Ythlkeledgmpbgaa.G

open Go.RowKit Go.Proofs.YthlkeledgmpbgaaW.PrintWords Go.Proofs.YthlkeledgmpbgaaW.PrintLast Go.Proofs.YthlkeledgmpbgaaW.PrintMore

set_option linter.unusedVariables false

set_option linter.unusedSimpArgs false

set_option linter.unusedSectionVars false

theorem costN_cost {n key a : Nat} (ha : a < n) : costN n key a = TabT.cost n a (key : Int) := by
  have hm := Nat.mod_lt key (show 0 < n by omega)
  have ho : TabT.own n (key : Int) = key % n := by
    unfold TabT.own
    rw [show ((key : Int) % (n : Int)) = ((key % n : Nat) : Int) from rfl, Int.toNat_natCast]
  unfold costN TabT.cost
  rw [ho, TabT.cy_mod (by omega)]
theorem robGo_len : ∀ (d : Nat) (t : List Int) (h : Int) (a : Nat), (TabT.robGo d t h a).length = t.length
  | 0, t, h, a => by simp [TabT.robGo]
  | d + 1, t, h, a => by
    rw [TabT.robGo]
    split
    · rw [robGo_len, List.length_set]
    · rw [robGo_len]
theorem robGo_cells : ∀ (d : Nat) (t : List Int) (h : Int) (a : Nat), Cells t → a < t.length → 0 ≤ h → h ≤ 999 → d < t.length → (∀ m, m < d → TabT.us t (TabT.cy t.length (a + m)) = true) → Cells (TabT.robGo d t h a)
  | 0, t, h, a, hc, ha, h0, h9, _, _ => hc.set ha h0 h9
  | d + 1, t, h, a, hc, ha, h0, h9, hd, hu => by
    have hua := hu 0 (by omega)
    rw [cy_self ha] at hua
    have ho := us_val hua
    have ho9 := hc a ha
    have hlt := TabT.cy_lt (n := t.length) (i := a + 1) (by omega)
    rw [TabT.robGo]
    split
    · refine robGo_cells d _ _ _ (hc.set ha h0 h9) (by rw [List.length_set]; exact hlt) (by rw [t_g0 ha]; exact ho) (by rw [t_g0 ha]; exact ho9.2) (by rw [List.length_set]; omega) (fun m hm => ?_)
      rw [List.length_set, TabT.us_same hua h0, cy_shift ha hd (by omega)]
      exact hu (m + 1) (by omega)
    · refine robGo_cells d _ _ _ hc hlt h0 h9 (by omega) (fun m hm => ?_)
      rw [cy_shift ha hd (by omega)]
      exact hu (m + 1) (by omega)
section

variable (n : Nat) (h2 : 2 ≤ n) (h12 : n ≤ 12) (ks : List Int) (q : Nat)
include h2 h12
end

/-! ### Keys put in one after the other -/

def robAll (t : List Int) (ks : List Int) : List Int := ks.foldl TabT.rob t
theorem robAll_snoc (t : List Int) (ks : List Int) (k : Int) : robAll t (ks ++ [k]) = TabT.rob (robAll t ks) k := by
  simp [robAll, List.foldl_append]
structure RFilled (n : Nat) (t : List Int) (ks : List Int) : Prop where
  len_ : t.length = n
  cells : Cells t
  robin : TabT.Robin t
  keys_ : (TabT.keys t).Perm ks
theorem RFilled.many_ {n : Nat} {t ks : List Int} (h : RFilled n t ks) : TabT.many t = ks.length := by
  rw [TabT.many_keys]; exact h.keys_.length_eq
theorem RFilled.hand {n : Nat} {t ks : List Int} (h : RFilled n t ks) (h2 : 2 ≤ n) {k : Int} (h0 : 0 ≤ k) (hn : k ∉ ks) : TabT.Hand t k (TabT.own n k) := by
  have := h.robin.hand (by rw [h.len_]; exact h2) h0 (fun e => hn (h.keys_.mem_iff.mp e))
  rwa [h.len_] at this
theorem rfilled {n : Nat} (h2 : 2 ≤ n) (ks : List Int) (hl : ks.length < n) (hk : ∀ x ∈ ks, 0 ≤ x ∧ x ≤ 999) (hnd : ks.Nodup) : ∀ q, q ≤ ks.length → RFilled n (robAll (TabT.empty n) (ks.take q)) (ks.take q) := by
  intro q
  induction q with
  | zero =>
    intro _
    refine ⟨by simp [robAll, TabT.empty], Cells.empty n, TabT.Robin.empty (by omega), ?_⟩
    show (TabT.keys (TabT.empty n)).Perm []
    rw [TabT.keys_empty]
  | succ q ih =>
    intro hq
    have F := ih (by omega)
    have hm := hk (ks.getD q 0) (by rw [List.getD_eq_getElem?_getD, List.getElem?_eq_getElem (by omega : q < ks.length)]; exact List.getElem_mem _)
    have hnew : ks.getD q 0 ∉ ks.take q := by
      intro hmem
      obtain ⟨i, hi, e⟩ := List.mem_take_iff_getElem.mp hmem
      unfold List.Nodup at hnd
      rw [List.pairwise_iff_getElem] at hnd
      rw [List.getD_eq_getElem?_getD, List.getElem?_eq_getElem (by omega : q < ks.length)] at e
      exact hnd i q (by omega) (by omega) (by omega) e
    have hmany : TabT.many (robAll (TabT.empty n) (ks.take q)) = q := by rw [F.many_, List.length_take]; omega
    have hF := F.robin.valid.free
    have s := TabT.ff_spec hF (TabT.own_lt (n := (robAll (TabT.empty n) (ks.take q)).length) (by rw [F.len_]; omega) (ks.getD q 0))
    have R := TabT.rob_spec F.robin (by rw [F.len_]; exact h2) hm.1 (fun e => hnew (F.keys_.mem_iff.mp e)) (by rw [hmany, F.len_]; omega)
    rw [take_succ_getD (by omega), robAll_snoc]
    refine ⟨by rw [R.2.2, F.len_], ?_, R.1, ?_⟩
    · exact robGo_cells _ _ _ _ F.cells (TabT.own_lt (by rw [F.len_]; omega) _) hm.1 hm.2 s.1 s.2.2
    · exact R.2.1.trans ((F.keys_.cons _).trans (List.perm_append_comm (l₁ := [ks.getD q 0])))
section

variable (n : Nat) (ks : List Int) (h2 : 2 ≤ n) (h12 : n ≤ 12) (hl : ks.length < n) (hk : ∀ x ∈ ks, 0 ≤ x ∧ x ≤ 999) (hnd : ks.Nodup)
include h2 h12 hl hk hnd
end

end Go.Proofs.Ythlkeledgmpbgaa.G
