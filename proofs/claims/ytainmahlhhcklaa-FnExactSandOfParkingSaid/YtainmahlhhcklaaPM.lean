/- Pure facts on printed functions: mirrored lists. -/
import Derived.Test.YtainmahlhhcklaaGx18
import Derived.Test.YtainmahlhhcklaaPS4
namespace Go.Proofs.Ytainmahlhhcklaa.G
open Go.RowKit Go.Proofs.YtainmahlhhcklaaW.PrintWords Go.Proofs.YtainmahlhhcklaaW.PrintLast Go.Proofs.YtainmahlhhcklaaW.PrintMore
set_option linter.unusedVariables false
set_option linter.unusedSimpArgs false

theorem mirrored_ev (l : List Int) (hl : l.length ≤ 1000) (hb : ∀ j, -1000000 ≤ l.getD j 0 ∧ l.getD j 0 ≤ 1000000) : Ev (fun k => impl_mirrored.f k l) (turned l) := by
  unfold impl_mirrored.f
  have := Ev.up0 l.length (fun q => (turned l).take q) (fun k s q => impl_mirrored.l0 k l s l (l.length : Int) q) (turned l) (fun q hq h' => Ev.one h' fun k => ?_) (Ev.end_ fun k => ?_)
  · exact this
  · have hlt : ((turned l).take q).length < 17592186044416 := by rw [List.length_take]; omega
    have hbq := hb q
    rw [impl_mirrored.l0, if_pos (by omega), if_pos (by omega), if_pos (by omega), if_pos hlt, rd_nat, wrap_id (x := (l.length : Int) - 1) (by omega) (by omega), wrap_id (x := (l.length : Int) - 1 - l.getD q 0) (by omega) (by omega), take_snoc (by simpa [turned_len] using hq) (turned_get l hq), wrap_next (n := l.length) hq (by omega)]
  · rw [impl_mirrored.l0, if_neg (by omega), List.take_of_length_le (by simp [turned_len])]

end Go.Proofs.Ytainmahlhhcklaa.G
