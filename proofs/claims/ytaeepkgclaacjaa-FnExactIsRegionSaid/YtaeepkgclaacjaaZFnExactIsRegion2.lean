/- The law FnExactIsRegion: part 2 of the printed functions and the facts on them that its row leans on (merged by this session's slim.py). -/
import Derived.Test.YtaeepkgclaacjaaZFnExactIsRegion1
namespace Go.Proofs.Ytaeepkgclaacjaa.G
open Go.RowKit Go.Proofs.YtaeepkgclaacjaaW.PrintWords Go.Proofs.YtaeepkgclaacjaaW.PrintLast Go.Proofs.YtaeepkgclaacjaaW.PrintMore
set_option linter.unusedVariables false
set_option linter.unusedSimpArgs false
section
variable (o f : List Int) (hl : f.length = o.length) (h8 : o.length ≤ 8)
include hl h8
theorem isRegion_l0 : ∀ (d p : Nat) (b : Int), p + d = f.length → 0 ≤ b → b ≤ (p : Int) → Ev (fun k => impl_isRegion.l0 k b f (f.length : Int) (p : Int) o f) (regF o f d p b) := by
  intro d
  induction d with
  | zero =>
    intro p b hd h0 h1
    exact Ev.end_ fun k => by rw [impl_isRegion.l0, if_neg (by omega)]; rfl
  | succ d ih =>
    intro p b hd h0 h1
    obtain ⟨x, hx⟩ : ∃ x, x = f.getD p 0 := ⟨_, rfl⟩
    rw [regF, ← hx]
    by_cases q1 : x < b
    · rw [if_neg (by omega)]
      refine Ev.end_ fun k => ?_
      rw [impl_isRegion.l0, if_pos (by omega), if_pos (by omega), if_pos (by omega), rd_nat, ← hx, if_pos q1]
    by_cases q2 : x > (p : Int)
    · rw [if_neg (by omega)]
      refine Ev.end_ fun k => ?_
      rw [impl_isRegion.l0, if_pos (by omega), if_pos (by omega), if_pos (by omega), rd_nat, ← hx, if_neg q1, if_pos q2]
    have c : b ≤ x ∧ x ≤ (p : Int) := by omega
    rw [if_pos c]
    by_cases c2 : x > b
    · rw [if_pos c2]
      have hw : wrap64 (x - 1) = x - 1 := wrap_id (by omega) (by omega)
      by_cases c3 : o.getD (x - 1).toNat 0 > o.getD p 0
      · rw [if_pos c3]
        refine Ev.end_ fun k => ?_
        rw [impl_isRegion.l0, if_pos (by omega), if_pos (by omega), if_pos (by omega), rd_nat, ← hx, if_neg q1, if_neg q2, if_pos c2, hw, if_pos (by omega), if_pos (by omega), if_pos (by omega), rd_nat]
        rw [show rd o (x - 1) = o.getD (x - 1).toNat 0 from rfl, if_pos c3]
      · rw [if_neg c3]
        refine Ev.one (ih (p + 1) x (by omega) (by omega) (by omega)) fun k => ?_
        rw [impl_isRegion.l0, if_pos (by omega), if_pos (by omega), if_pos (by omega), rd_nat, ← hx, if_neg q1, if_neg q2, if_pos c2, hw, if_pos (by omega), if_pos (by omega), if_pos (by omega), rd_nat]
        rw [show rd o (x - 1) = o.getD (x - 1).toNat 0 from rfl, if_neg c3, wrap_next (n := f.length) (by omega) (by omega)]
    · rw [if_neg c2]
      refine Ev.one (ih (p + 1) x (by omega) (by omega) (by omega)) fun k => ?_
      rw [impl_isRegion.l0, if_pos (by omega), if_pos (by omega), if_pos (by omega), rd_nat, ← hx, if_neg q1, if_neg q2, if_neg c2, wrap_next (n := f.length) (by omega) (by omega)]
end
end Go.Proofs.Ytaeepkgclaacjaa.G
namespace Go.Proofs.Ytaeepkgclaacjaa.G
open Go.RowKit Go.Proofs.YtaeepkgclaacjaaW.PrintWords Go.Proofs.YtaeepkgclaacjaaW.PrintLast Go.Proofs.YtaeepkgclaacjaaW.PrintMore
set_option linter.unusedVariables false
set_option linter.unusedSimpArgs false
theorem beq_lens (f o : List Int) : ((f.length : Int) != (o.length : Int)) = !decide (f.length = o.length) := by
  by_cases h : f.length = o.length
  · rw [h]; simp
  · rw [decide_eq_false h, bne_iff_ne.2 (by omega)]; rfl
theorem reGood_ev (o f : List Int) (hn : o.length ≤ 1048576) : Ev (fun k => spec_reGood.f k o f) (regB o f) := by
  unfold spec_reGood.f regB
  have stop : Ev (fun k => spec_reGood.j0 k true o f) false := Ev.end_ fun k => by rw [spec_reGood.j0, if_pos rfl]
  refine Ev.bind (reOrder_ev o hn) ?_
  by_cases ho : OrdP o
  · simp only [ho, decide_true, if_true, Bool.true_and, beq_lens]
    by_cases hl : f.length = o.length
    · simp only [hl, decide_true, Bool.not_true, Bool.true_and]
      refine Ev.step (f := fun k => spec_reGood.l0 k 0 f (f.length : Int) 0 o f) (fun k => by rw [spec_reGood.j0, if_neg (by decide)]) ?_
      rw [← hl]
      exact reGood_l0 o f hl ho.1 f.length 0 0 (by omega) (by omega) (by omega)
    · simp only [hl, decide_false, Bool.not_false, Bool.false_and]
      exact stop
  · simp only [ho, decide_false, Bool.false_eq_true, if_false, Bool.false_and]
    exact stop
theorem isRegion_ev (o f : List Int) (hn : o.length ≤ 1048576) : Ev (fun k => impl_isRegion.f k o f) (regB o f) := by
  unfold impl_isRegion.f regB
  have stop : Ev (fun k => impl_isRegion.j0 k true o f) false := Ev.end_ fun k => by rw [impl_isRegion.j0, if_pos rfl]
  refine Ev.bind (isOrder_ev o hn) ?_
  by_cases ho : OrdP o
  · simp only [ho, decide_true, if_true, Bool.true_and, beq_lens]
    by_cases hl : f.length = o.length
    · simp only [hl, decide_true, Bool.not_true, Bool.true_and]
      refine Ev.step (f := fun k => impl_isRegion.l0 k 0 f (f.length : Int) 0 o f) (fun k => by rw [impl_isRegion.j0, if_neg (by decide)]) ?_
      rw [← hl]
      exact isRegion_l0 o f hl ho.1 f.length 0 0 (by omega) (by omega) (by omega)
    · simp only [hl, decide_false, Bool.not_false, Bool.false_and]
      exact stop
  · simp only [ho, decide_false, Bool.false_eq_true, if_false, Bool.false_and]
    exact stop
end Go.Proofs.Ytaeepkgclaacjaa.G
namespace Go.Proofs.Ytaeepkgclaacjaa.Pure
open Go.RowKit Go.Proofs.Ytaeepkgclaacjaa.G Go.Proofs.YtaeepkgclaacjaaW.PrintWords Go.Proofs.YtaeepkgclaacjaaW.PrintLast
set_option linter.unusedVariables false
set_option linter.unusedSimpArgs false
theorem szInts_eq (l : List Int) (n : Int) (h0 : 0 ≤ n) (h1 : n ≤ 1048576) (hl : l.length ≤ 9223372036854775807 - 1048576) : laws_szIntS.f l n = some (if n < (l.length : Int) then -1 else n - (l.length : Int)) := by
  unfold laws_szIntS.f
  rw [wrap_id (by omega) (by omega)]
  by_cases c : n < (l.length : Int)
  · rw [if_pos c, if_pos (by omega)]
  · rw [if_neg c, if_neg (by omega)]
theorem spec_IsRegion_ev (o f : List Int) (hn : o.length ≤ 1048576) : Ev (fun k => spec_IsRegion.f k o f) (regB o f) := by
  unfold spec_IsRegion.f
  exact Ev.bind (reGood_ev o f hn) (Ev.now _)
theorem impl_IsRegion_ev (o f : List Int) (hn : o.length ≤ 1048576) : Ev (fun k => impl_IsRegion.f k o f) (regB o f) := by
  unfold impl_IsRegion.f
  exact Ev.bind (isRegion_ev o f hn) (Ev.now _)
theorem toRegion_ev (o f : List Int) (hn : o.length ≤ 1048576) (hf : f.length ≤ 1048576) : Ev (fun k => laws_toRegion.f k o f) (o, f) := by
  unfold laws_toRegion.f
  refine Ev.bind (toIntS_ev o (by omega)) ?_
  refine Ev.bind (toIntS_ev f (by omega)) ?_
  exact Ev.now _
theorem eqRegion_ev (o f : List Int) (hn : o.length ≤ 1048576) (hf : f.length ≤ 1048576) : Ev (fun k => laws_eqRegion.f k o f o f) true := by
  unfold laws_eqRegion.f
  refine Ev.bind (eqIntS_ev o o (by omega)) ?_
  simp only [decide_true, if_true]
  refine Ev.bind (eqIntS_ev f f (by omega)) ?_
  simp only [decide_true, if_true]
  exact Ev.now _
theorem FnExactIsRegion (l0_0 l0_1 : List Int) (hm0 : l0_0.length ≤ maxLen) (hb0 : l0_0.length * 8 ≤ 140737488351232) (hw0 : ∀ x ∈ l0_0, (Lit.int .i64 x).wf = true) (hm1 : l0_1.length ≤ maxLen) (hb1 : l0_1.length * 8 ≤ 140737488351232) (hw1 : ∀ x ∈ l0_1, (Lit.int .i64 x).wf = true) : ∃ k, laws_FnExactIsRegion.f k l0_0 l0_1 = some true := by
  refine Ev.rounds ?_
  unfold laws_FnExactIsRegion.f laws_szRegion.f
  rw [szInts_eq l0_0 1048576 (by omega) (by omega) (by omega)]
  simp only [Option.bind_some]
  by_cases h : (1048576 : Int) < (l0_0.length : Int)
  · rw [if_pos h]
    simp only [show ((-1 : Int) < 0) by decide, if_true, Option.bind_some]
    exact Ev.now _
  · rw [if_neg h]
    simp only [show ¬ ((1048576 : Int) - (l0_0.length : Int) < 0) by omega, if_false]
    rw [szInts_eq l0_1 _ (by omega) (by omega) (by omega)]
    simp only [Option.bind_some]
    by_cases h2 : (1048576 : Int) - (l0_0.length : Int) < (l0_1.length : Int)
    · rw [if_pos h2]
      simp only [show ((-1 : Int) < 0) by decide, if_true, Option.bind_some]
      exact Ev.now _
    · rw [if_neg h2]
      simp only [show ¬ ((1048576 : Int) - (l0_0.length : Int) - (l0_1.length : Int) < 0) by omega, if_false, Option.bind_some]
      have hn : l0_0.length ≤ 1048576 := by omega
      have hf : l0_1.length ≤ 1048576 := by omega
      refine Ev.bind (toRegion_ev l0_0 l0_1 hn hf) ?_
      refine Ev.bind (spec_IsRegion_ev l0_0 l0_1 hn) ?_
      refine Ev.bind (toRegion_ev l0_0 l0_1 hn hf) ?_
      refine Ev.bind (impl_IsRegion_ev l0_0 l0_1 hn) ?_
      simp only [bne_self_eq_false, Bool.false_eq_true, if_false]
      refine Ev.bind (toRegion_ev l0_0 l0_1 hn hf) ?_
      refine Ev.bind (eqRegion_ev l0_0 l0_1 hn hf) ?_
      simp only [if_true]
      exact Ev.now _
end Go.Proofs.Ytaeepkgclaacjaa.Pure
namespace Go.Proofs.YtaeepkgclaacjaaW.PrintWords
open Go.ChangeShapes Go.WideShapes
theorem sized_ints {H : Type} {enc : TypeId × Value → H} {P : Program} {W : World} {base : Nat} {spare : Nat → Bool} {held : Bool} {t e : TypeId} {k : IntKind} {a : Option Addr} {len cap : Nat} {d : DataW H} {ps : List MemPlace} {ts : List TypeId} {ds : List (DataW H)} {j : Nat}
    (hsz : (DataW.weightsEach P ts ds).all (· ≤ reachBytes) = true) (ht : ts[j]? = some t) (hd : ds[j]? = some d) (hu : P.underlying t = some (.slice e)) (he : P.underlying e = some (.int k)) (hc : P.cellsOf e = 1) {B : Nat} (hB : P.bytesOf e = B)
    (h : DataW.Trod enc P W base spare held t (.slice a len cap) d ps) : len * B ≤ 140737488351232 := by
  obtain ⟨fuel, hf⟩ := h
  rcases open_ints hu he hc hf with ⟨hcs, _⟩ | ⟨x, l, c, zs, hcs, _, hl, _, hz, hx, _, _⟩
  · simp [Value.cells] at hcs
    obtain ⟨rfl, rfl, rfl⟩ := hcs
    simp
  · simp [Value.cells] at hcs
    obtain ⟨rfl, rfl, rfl⟩ := hcs
    obtain ⟨hx, _⟩ := Prod.mk.inj hx
    subst hx
    have z := sized_slice hsz ht hd hu
    rw [hB] at z
    have hl2 : len ≤ zs.length := by
      rw [hz]
      split
      · exact hl
      · exact Nat.le_refl _
    have h1 : (lits (H := H) k (zs.take len)).length + (lits (H := H) k (zs.drop len)).length = zs.length := by
      simp [lits]
      omega
    rw [h1] at z
    exact Nat.le_trans (Nat.mul_le_mul_right _ hl2) z
end Go.Proofs.YtaeepkgclaacjaaW.PrintWords
namespace Go.Proofs.Ytaeepkgclaacjaa.fnExactIsRegion
open Go.ChangeShapes Go.WideShapes Go.ChangeAt Go.RowKit
open Go.ChangeMaps (open_string shut_string)
open Go.Proofs.YtaeepkgclaacjaaW.PrintWords Go.Proofs.YtaeepkgclaacjaaW.PrintLast Go.Proofs.YtaeepkgclaacjaaW.PrintMore
set_option linter.unusedVariables false
set_option linter.unusedSimpArgs false
theorem own : ownKnob Try.prog.godebug = none := by kernel_rfl
theorem laidOut : laidOutB Try.prog = true := by kernel_rfl
def IsRow (k : IntKind) (w : World) (a : Option Addr) (len cap : Nat) (zs : List Int) : Prop :=
  (a = none ∧ len = 0 ∧ cap = 0 ∧ zs = []) ∨
  ∃ x, a = some x ∧ len ≤ cap ∧ cap ≤ maxLen ∧ zs.length = cap ∧ (∀ i, i < zs.length → w.cell? (x.add i) = some (.int k (zs.getD i 0))) ∧ ∀ n ∈ zs, (Lit.int k n).wf = true
theorem two_of {cs : Array Value} (h : cs.size = 2) : ∃ u u', cs = #[u, u'] := by
  obtain ⟨l⟩ := cs
  match l, h with
  | [u, u'], _ => exact ⟨u, u', rfl⟩
set_option maxHeartbeats 4000000 in
set_option maxRecDepth 100000 in
theorem lifted (os : Os) (started : os.Started) (H : Type) (enc : TypeId × Value → H) :
    ReturnsInHanded {} Try.checked os 5 .any (Rows.fnExactIsRegionSpec.pre6 enc Try.prog Try.f5 Rows.fnExactIsRegionRow.domain false) (Rows.fnExactIsRegionSpec.post enc Try.prog Try.f5 false true false false) := by
  refine returnsInHanded_of_change_sized (C := Try.checked) own started (by kernel_rfl) Try.func5
    (ChangeSpec.witness6 (enc := enc) (C := Try.checked) false ⟨#[], #[.agg #[.slice none 0 0, .slice none 0 0]], []⟩ 8 (by kernel_rfl) (by kernel_rfl) (by kernel_rfl) (by kernel_rfl)) ?_
  intro W base args ds gs before hval0 hW hcnd hsz0 _
  have hsz : (DataW.weightsEach Try.prog (Try.f5.params.toList ++ Rows.fnExactIsRegionSpec.plain.varTypes Try.prog) (ds ++ gs)).all (· ≤ reachBytes) = true := hsz0
  have hval : ∀ (j : Nat) t v, Try.f5.params[j]? = some t → args[j]? = some v → Value.okWide Try.prog W .any base t v := hval0
  have hW' := hW
  obtain ⟨p, q, hA0, hV, rfl, hfz, hnd⟩ := hW
  have hA : DataW.TrodAll enc Try.prog W 0 (fun _ => true) true Try.f5.params.toList args.toList ds p := hA0
  rw [Try.params5] at hA hval hsz
  obtain ⟨v0, vs0, d0, ds0, p0, q0, hargs, rfl, rfl, h0, r0⟩ := trodAll_cons hA
  obtain ⟨rfl, rfl, rfl⟩ := trodAll_nil r0
  obtain rfl : args = #[v0] := by cases args; simp_all
  obtain ⟨rfl, rfl⟩ := trodVars_none hV
  obtain ⟨cs0, rfl, hcs0⟩ := okWide_struct Try.underlying35 (hval 0 35 v0 rfl rfl)
  have k0 := h0
  have lt0 : ∀ x ∈ p0, x.block < W.heap.size := by obtain ⟨m, hm⟩ := k0; exact DataW.trod_lt m _ _ _ hm
  obtain ⟨a0_0, len0_0, cap0_0, z0_0, a0_1, len0_1, cap0_1, z0_1, rfl, w0_0, y0_0, w0_1, y0_1⟩ : ∃ a len cap zs a' len' cap' zs', cs0 = #[.slice a len cap, .slice a' len' cap'] ∧ IsRow .i64 W a len cap zs ∧ len * 8 ≤ 140737488351232 ∧ IsRow .i64 W a' len' cap' zs' ∧ len' * 8 ≤ 140737488351232 := by
    obtain ⟨fuel, hf⟩ := h0
    obtain ⟨y, y', m, hx, _, hf0, hf0'⟩ := trod_struct2 Try.underlying35 hf
    have hsize : cs0.size = 2 := hcs0.trans (by kernel_rfl)
    obtain ⟨u, u', rfl⟩ : ∃ u u', cs0 = #[u, u'] := two_of hsize
    have hone : Try.prog.cellsOf 22 = 1 := by kernel_rfl
    have hf1 : DataW.trod enc Try.prog W 0 (fun _ => true) true m 22 [u] = some y := by simpa [Value.cells, hone] using hf0
    have hf1' : DataW.trod enc Try.prog W 0 (fun _ => true) true m 22 [u'] = some y' := by simpa [Value.cells, hone] using hf0'
    obtain ⟨rfl, rfl⟩ := Prod.mk.inj hx
    have hsz1 : (DataW.weightsEach Try.prog [22, 22] [y.1, y'.1]).all (· ≤ reachBytes) = true := by
      rw [List.all_eq_true]
      intro b hb
      refine List.all_eq_true.1 hsz b (DataW.weights_mem_each (j := 0) rfl rfl b ?_)
      rw [DataW.weights, Try.underlying35]
      exact hb
    have one : ∀ (j : Nat) (u : Value) (y : DataW H × List MemPlace) (hj : [22, 22][j]? = some 22) (hy : [y.1, y'.1][j]? = some y.1 ∨ True), DataW.trod enc Try.prog W 0 (fun _ => true) true m 22 [u] = some y →
        (∀ (x : Addr) (l c : Nat), u = .slice (some x) l c → l * 8 ≤ 140737488351232) → ∃ a len cap zs, u = .slice a len cap ∧ IsRow .i64 W a len cap zs ∧ len * 8 ≤ 140737488351232 := by
      intro j u y _ _ hf1 hb
      rcases open_ints Try.underlying22 Try.underlying3 (by kernel_rfl) hf1 with ⟨hcs, _⟩ | ⟨x, l, c, zs, hcs, _, hl, hm, hz, _, hcell, hwz⟩
      · obtain rfl : u = .slice none 0 0 := by simpa using hcs
        exact ⟨none, 0, 0, [], rfl, .inl ⟨rfl, rfl, rfl, rfl⟩, by omega⟩
      · obtain rfl : u = .slice (some x) l c := by simpa using hcs
        exact ⟨some x, l, c, zs, rfl, .inr ⟨_, rfl, hl, hm, by simpa using hz, hcell, hwz⟩, hb x l c rfl⟩
    obtain ⟨a, len, cap, zs, rfl, r1, r2⟩ := one 0 u y rfl (.inr trivial) hf1 (fun x l c hu => by
      subst hu
      exact Go.Proofs.YtaeepkgclaacjaaW.PrintWords.sized_ints hsz1 (j := 0) (t := 22) rfl rfl Try.underlying22 Try.underlying3 (by kernel_rfl) (B := 8) (by kernel_rfl) (⟨m, hf1⟩ : DataW.Trod enc Try.prog W 0 (fun _ => true) true 22 (.slice (some x) l c) y.1 y.2))
    obtain ⟨a', len', cap', zs', rfl, r3, r4⟩ := one 1 u' y' rfl (.inr trivial) hf1' (fun x l c hu => by
      subst hu
      exact Go.Proofs.YtaeepkgclaacjaaW.PrintWords.sized_ints hsz1 (j := 1) (t := 22) rfl rfl Try.underlying22 Try.underlying3 (by kernel_rfl) (B := 8) (by kernel_rfl) (⟨m, hf1'⟩ : DataW.Trod enc Try.prog W 0 (fun _ => true) true 22 (.slice (some x) l c) y'.1 y'.2))
    exact ⟨a, len, cap, zs, a', len', cap', zs', rfl, r1, r2, r3, r4⟩
  clear hA0 hval0 hsz0 hsz
  obtain ⟨l0_0, rfl, hr0_0, hm0_0, hw0_0, hc0_0⟩ := ReadsInt.ofRowC w0_0
  obtain ⟨l0_1, rfl, hr0_1, hm0_1, hw0_1, hc0_1⟩ := ReadsInt.ofRowC w0_1
  obtain ⟨k, h⟩ := Pure.FnExactIsRegion l0_0 l0_1 hm0_0 y0_0 hw0_0 hm0_1 y0_1 hw0_1
  refine (G.laws_FnExactIsRegion.calls k _ _ l0_0 _ _ l0_1 true W (Kd.C_of_reads (d := (0 : Int)) (h1 := fun _ => rfl) hr0_0) hc0_0 (Kd.C_of_reads (d := (0 : Int)) (h1 := fun _ => rfl) hr0_1) hc0_1 h).mono fun e W' hee => ?_
  obtain ⟨he, bel⟩ := hee
  subst he
  exact ⟨_, rfl, _, _, _, [], _, [], hW', trodAll_mk1 (shut_bool Try.underlying4 _), (trodAll_cons_mk (Below.trod laidOut (by kernel_rfl) (of_decide_eq_true (by kernel_rfl)) k0 bel lt0) trodAll_mk0), rfl, bel.frame _, fun h => by cases h⟩
theorem over : Rows.fnExactIsRegionRow.holds Try.pinned (OpenSpec.ofChange Rows.fnExactIsRegionSpec) :=
  OpenClaim.holds_of_wide 5 Try.f5 rfl rfl rfl rfl rfl rfl rfl ⟨rfl, rfl, rfl, rfl, rfl⟩ rfl rfl rfl rfl rfl (by kernel_rfl) Try.func5 (by kernel_rfl)
    (of_decide_eq_true (by kernel_rfl)) (by unfold Func.isWrapper; first | (rw [if_pos (by decide +kernel)]; kernel_rfl) | (rw [if_neg (by decide +kernel)]; exact ⟨rfl, rfl⟩))
    (fun os started H enc _ => lifted os started H enc)
theorem proved : Rows.FnExactIsRegionSaid := over
#print axioms proved
end Go.Proofs.Ytaeepkgclaacjaa.fnExactIsRegion
namespace Go.Proofs.Ytaeepkgclaacjaa
/-- The row, under a short name, for the claim. -/
theorem fnExactIsRegion_holds : Rows.FnExactIsRegionSaid := fnExactIsRegion.proved
end Go.Proofs.Ytaeepkgclaacjaa
