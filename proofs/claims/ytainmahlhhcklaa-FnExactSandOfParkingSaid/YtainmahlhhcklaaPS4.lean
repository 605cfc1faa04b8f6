/- Pure facts on printed functions: turned lists, repeated elements. -/
import Derived.Test.YtainmahlhhcklaaGx16
import Derived.Test.YtainmahlhhcklaaPS3
import Derived.Test.YtainmahlhhcklaaGvR
namespace Go.Proofs.Ytainmahlhhcklaa.G
open Go.RowKit Go.Proofs.YtainmahlhhcklaaW.PrintWords Go.Proofs.YtainmahlhhcklaaW.PrintLast Go.Proofs.YtainmahlhhcklaaW.PrintMore
set_option linter.unusedVariables false
set_option linter.unusedSimpArgs false

def turned (l : List Int) : List Int := l.map fun x => (l.length : Int) - 1 - x
theorem turned_len (l : List Int) : (turned l).length = l.length := by simp [turned]
theorem turned_get (l : List Int) {q : Nat} (hq : q < l.length) : (turned l).getD q 0 = (l.length : Int) - 1 - l.getD q 0 := by
  simp [turned, List.getD_eq_getElem?_getD, List.getElem?_eq_getElem hq]
theorem reTurned_ev (l : List Int) (hl : l.length ≤ 1000) (hb : ∀ j, -1000000 ≤ l.getD j 0 ∧ l.getD j 0 ≤ 1000000) : Ev (fun k => spec_reTurned.f k l) (turned l) := by
  unfold spec_reTurned.f
  have := Ev.up0 l.length (fun q => (turned l).take q) (fun k s q => spec_reTurned.l0 k l s l (l.length : Int) q) (turned l) (fun q hq h' => Ev.one h' fun k => ?_) (Ev.end_ fun k => ?_)
  · exact this
  · have hlt : ((turned l).take q).length < 17592186044416 := by rw [List.length_take]; omega
    have hbq := hb q
    rw [spec_reTurned.l0, if_pos (by omega), if_pos (by omega), if_pos (by omega), if_pos hlt, rd_nat, wrap_id (x := (l.length : Int) - 1) (by omega) (by omega), wrap_id (x := (l.length : Int) - 1 - l.getD q 0) (by omega) (by omega), take_snoc (by simpa [turned_len] using hq) (turned_get l hq), wrap_next (n := l.length) hq (by omega)]
  · rw [spec_reTurned.l0, if_neg (by omega), List.take_of_length_le (by simp [turned_len])]
theorem Repeat_eq (x : Int) (n : Nat) (hn : n ≤ 1000000) : slices_Repeat_int_int.f [x] (n : Int) = some (List.replicate n x) := by
  unfold slices_Repeat_int_int.f
  rw [if_pos ⟨rfl, by omega, by omega⟩]
  simp [rd]

theorem get_repl (n : Nat) (x : Int) {j : Nat} (hj : j < n) : (List.replicate n x).getD j 0 = x := by simp [List.getD_eq_getElem?_getD, hj]
theorem get_repl_range (n : Nat) (x : Int) (hx : 0 ≤ x) (j : Nat) : 0 ≤ (List.replicate n x).getD j 0 ∧ (List.replicate n x).getD j 0 ≤ x := by
  rcases Nat.lt_or_ge j n with h | h
  · rw [get_repl n x h]; omega
  · rw [List.getD_eq_getElem?_getD, List.getElem?_eq_none (by simpa using h)]; simpa using hx
theorem mild_of {c : List Int} (hl : c.length ≤ 1000) (h : ∀ j, 0 ≤ c.getD j 0 ∧ c.getD j 0 ≤ 1000) : Mild c := by
  refine ⟨fun j => (h j).1, hl, ?_⟩
  have := sum_le (c := c) (B := 1000) (fun j => (h j).2) (by omega)
  omega

end Go.Proofs.Ytainmahlhhcklaa.G
