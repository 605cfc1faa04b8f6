
/- The contract of slices.Clone over ints. -/

import Derived.Test.YthlkeledgmpbgaaGwA

import Derived.Lib.SliceRun

import Derived.Lib.Walk

namespace Go.Proofs.Ythlkeledgmpbgaa.G

open Go.RowKit Go.Proofs.YthlkeledgmpbgaaW.PrintWords Go.Proofs.YthlkeledgmpbgaaW.PrintLast Go.Proofs.YthlkeledgmpbgaaW.PrintMore

set_option linter.unusedVariables false

set_option linter.unusedSimpArgs false

/-! ### slices.Clone -/

theorem gv_info3 : (Try.prog.info? 3).map (fun i => (i.zero, i.size, i.bytes)) = some (some (.int .i64 0), 1, 8) := by kernel_rfl
def slices_Clone_int_int.f (l0 : List Int) : Option (List Int) := if l0.length ≤ 17592186044415 then some l0 else none

theorem eq_nil_run (w : World) (a : Option Addr) (n c : Nat) : (binOp .eql 22 (.slice a n c) (.slice none 0 0)).run Try.prog w = .ok (.bool a.isNone) w := Lib.run_eql_slice_nil w _ 3 a n c 0 0 Try.underlying22
theorem nums_cells {w : World} {ad : Addr} {l : List Int} (hr : Kd.C (Kd.int .i64) w (some ad) l.length l) : ∀ (j : Nat) (u : Value), (nums .i64 l)[j]? = some u → w.cell? (ad.add j) = some u := by
  intro j u hj
  simp only [nums, List.getElem?_map] at hj
  cases hx : l[j]? with
  | none => rw [hx] at hj; simp at hj
  | some x =>
    rw [hx] at hj
    simp only [Option.map_some, Option.some.injEq] at hj
    subst hj
    have hlt := (List.getElem?_eq_some_iff.1 hx).1
    obtain ⟨ad', e, hc⟩ := Kd.at_int hr (j : Int) (by omega) (by omega)
    cases e
    rw [Int.toNat_natCast] at hc
    rw [hc, rd, Int.toNat_natCast, List.getD_eq_getElem?_getD, hx]; rfl
theorem R_of_nums {e : Nat} {w : World} {base : Nat} {ok : Nat → Prop} {v : Value} {l : List Int} {n : Nat} (hn : n = l.length) (ho : w.ownsRow base e 1 v n (nums .i64 l)) (hok : ∀ k, v.ownBlock = some k → ok k) : Kd.R (Kd.int .i64) e w base ok v l := by
  subst hn
  exact Kd.R_of_own (enc := Value.int .i64) (h1 := fun _ => rfl) ho hok
end Go.Proofs.Ythlkeledgmpbgaa.G
