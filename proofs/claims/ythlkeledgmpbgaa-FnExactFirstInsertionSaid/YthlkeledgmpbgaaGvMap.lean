
/- A map from whole numbers to truth values that a call makes: what it holds, looked up, written (no law of the kit's looks up a truth value). -/

import Derived.Maps.OwnOps

import Derived.Maps.OwnSet

import Derived.Below

namespace Go.Proofs.Ythlkeledgmpbgaa.G

open Go Go.Maps Go.RowKit

set_option linter.unusedVariables false

set_option linter.unusedSimpArgs false

/-- Block b is a map of at most n entries in which the numbers of S are told true. -/
def MapIs (P : Program) (K E : TypeId) (W : World) (b n : Nat) (S : List Int) : Prop :=
  ∃ D : DataW Unit, W.ownsMap P K (plainElem P E) b n D ∧ ∀ key : Int, D.atKey (.int .i64 key) (.lit (.bool false)) = .lit (.bool (decide (key ∈ S)))
section

variable {P : Program} {T K E : TypeId} (hT : P.underlying T = some (.map K E)) (hK : P.underlying K = some (.int .i64)) (hE : P.underlying E = some .bool)

theorem MapIs.made (W : World) : MapIs P K E (W.alloc (.map #[] 0)) W.heap.size 0 [] :=
  ⟨.map [], World.ownsMap_made W P K _, fun key => by simp [DataW.atKey]⟩
theorem MapIs.lt {W : World} {b n : Nat} {S : List Int} (h : MapIs P K E W b n S) : b < W.heap.size := by
  obtain ⟨D, h1, _⟩ := h
  exact h1.lt
theorem MapIs.kept {W W' : World} {row : Option Nat} {b n : Nat} {S : List Int} (h : MapIs P K E W b n S) (hg : W.grownBy W' row) (hne : some b ≠ row) : MapIs P K E W' b n S := by
  obtain ⟨D, h1, h2⟩ := h
  exact ⟨D, h1.kept hg hne, h2⟩
theorem MapIs.below {W W' : World} {B b n : Nat} {S : List Int} (h : MapIs P K E W b n S) (hb : b < B) (hB : Below B W W') : MapIs P K E W' b n S := by
  obtain ⟨D, ⟨es, clock, h0, F, hs, hD⟩, h2⟩ := h
  exact ⟨D, ⟨es, clock, (hB.block b hb).trans h0, F, hs, hD⟩, h2⟩
include hT hK hE in
theorem MapIs.look {W : World} {b n : Nat} {S : List Int} (h : MapIs P K E W b n S) (hz : (zeroValue E).run P W = .ok (.bool false) W) {key : Int} (hk : (Lit.int .i64 key).wf = true) :
    (Instr.lookup T (.map (some b)) (.int .i64 key) false).run P W = .ok (.bool (decide (key ∈ S))) W := by
  obtain ⟨D, hown, hat⟩ := h
  obtain ⟨v, ps, hrun, hv⟩ := hown.lookup (int_keyed hK) hT hz (plainElem_bool hE false) (keyOf_int_mk hK hk)
  rw [hat key] at hv
  have e : v = .bool (decide (key ∈ S)) := by
    unfold plainElem at hv
    rw [hE] at hv
    cases v <;> simp at hv
    rw [hv.1]
  rw [hrun, e]
include hT hK hE in
theorem MapIs.put {W : World} {b n : Nat} {S : List Int} (h : MapIs P K E W b n S) (hn : n < maxLen) {key : Int} (hk : (Lit.int .i64 key).wf = true) :
    ∃ W', (Instr.mapUpdate T (.map (some b)) (.int .i64 key) (.bool true)).run P W = .ok () W' ∧ MapIs P K E W' b (n + 1) (S ++ [key]) ∧ W.grownBy W' (some b) := by
  obtain ⟨D, hown, hat⟩ := h
  obtain ⟨W', hrun, hown', hg⟩ := hown.update (int_keyed hK) hT hn (keyOf_int_mk hK hk) (plainElem_bool hE true)
  refine ⟨W', hrun, ⟨_, hown', fun key' => ?_⟩, hg⟩
  by_cases c : key' = key
  · subst c
    rw [atKey_put_same hown.isMap (by first | exact trivial | decide | simp [WideAt.IsKeyLit])]
    simp
  · rw [atKey_put_other (by simpa using c), hat key']
    simp [c]
end

end Go.Proofs.Ythlkeledgmpbgaa.G
