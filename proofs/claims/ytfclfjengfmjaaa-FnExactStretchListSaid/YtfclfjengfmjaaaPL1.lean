/- Pure facts on printed functions: long cars, in the reference and in the program. -/
import Derived.Test.YtfclfjengfmjaaaGx1
import Derived.Test.YtfclfjengfmjaaaGx2
import Derived.Test.YtfclfjengfmjaaaGx3
import Derived.Test.YtfclfjengfmjaaaGx4
import Derived.Test.YtfclfjengfmjaaaGx5
import Derived.Test.YtfclfjengfmjaaaGx6
import Derived.Test.YtfclfjengfmjaaaPA
import Derived.Test.YtfclfjengfmjaaaGwA
namespace Go.Proofs.Ytfclfjengfmjaaa.G
open Go.RowKit Go.Proofs.YtfclfjengfmjaaaW.PrintWords Go.Proofs.YtfclfjengfmjaaaW.PrintLast Go.Proofs.YtfclfjengfmjaaaW.PrintMore
set_option linter.unusedVariables false
set_option linter.unusedSimpArgs false

theorem take_sum' {l : List Int} {q : Nat} (hq : q < l.length) : (l.take (q + 1)).sum = (l.take q).sum + l.getD q 0 := by
  rw [take_succ_getD hq, List.sum_append]; simp
theorem take_range {l : List Int} {B : Int} (hB : 0 ≤ B) (hb : ∀ j, -B ≤ l.getD j 0 ∧ l.getD j 0 ≤ B) : ∀ q, q ≤ l.length → -((q : Int) * B) ≤ (l.take q).sum ∧ (l.take q).sum ≤ (q : Int) * B := by
  intro q
  induction q with
  | zero => intro _; simp
  | succ q ih =>
    intro hq
    have := ih (by omega)
    have := hb q
    rw [take_sum' (by omega)]
    push_cast
    rw [Int.add_mul]
    omega
theorem paSum_ev (l : List Int) (hl : l.length ≤ 1000) (hb : ∀ j, -1000 ≤ l.getD j 0 ∧ l.getD j 0 ≤ 1000) : Ev (fun k => spec_paSum.f k l) l.sum := by
  unfold spec_paSum.f
  have hs := take_range (l := l) (B := 1000) (by omega) hb
  have := Ev.up0 l.length (fun q => (l.take q).sum) (fun k s q => spec_paSum.l0 k s l (l.length : Int) q) l.sum (fun q hq h => Ev.one h fun k => ?_) (Ev.end_ fun k => ?_)
  · simpa using this
  · have := hs q (by omega)
    have := hb q
    rw [spec_paSum.l0, if_pos (by omega), if_pos (by omega), if_pos (by omega), rd_nat, wrap_id (x := (l.take q).sum + l.getD q 0) (by omega) (by omega), wrap_next (n := l.length) hq (by omega), take_sum' hq]
  · rw [spec_paSum.l0, if_neg (by omega), List.take_length]
theorem total_ev (l : List Int) (hl : l.length ≤ 1000) (hb : ∀ j, -1000 ≤ l.getD j 0 ∧ l.getD j 0 ≤ 1000) : Ev (fun k => impl_total.f k l) l.sum := by
  unfold impl_total.f
  have hs := take_range (l := l) (B := 1000) (by omega) hb
  have := Ev.up0 l.length (fun q => (l.take q).sum) (fun k s q => impl_total.l0 k s l (l.length : Int) q) l.sum (fun q hq h => Ev.one h fun k => ?_) (Ev.end_ fun k => ?_)
  · simpa using this
  · have := hs q (by omega)
    have := hb q
    rw [impl_total.l0, if_pos (by omega), if_pos (by omega), if_pos (by omega), rd_nat, wrap_id (x := (l.take q).sum + l.getD q 0) (by omega) (by omega), wrap_next (n := l.length) hq (by omega), take_sum' hq]
  · rw [impl_total.l0, if_neg (by omega), List.take_length]
theorem between_eq (a b c : Int) : impl_between.f a b c = some (decide (b ≤ a ∧ a ≤ c)) := by
  unfold impl_between.f
  by_cases h : a ≥ b
  · rw [if_pos h]; congr 1; simp; omega
  · rw [if_neg h]; congr 1; simp; omega
def inB (l : List Int) (lo hi : Int) : Bool := l.all fun x => decide (lo ≤ x ∧ x ≤ hi)
theorem areBetween_eq (l : List Int) (lo hi : Int) : impl_areBetween.f l lo hi = some (inB l lo hi) := by
  unfold impl_areBetween.f inB
  congr 2
  funext x
  rw [Bool.eq_iff_iff]; simp
theorem inB_get {l : List Int} {lo hi : Int} (h : inB l lo hi = true) {j : Nat} (hj : j < l.length) : lo ≤ l.getD j 0 ∧ l.getD j 0 ≤ hi := by
  unfold inB at h
  rw [List.all_eq_true] at h
  have := h l[j] (List.getElem_mem hj)
  rw [List.getD_eq_getElem?_getD, List.getElem?_eq_getElem hj]
  simpa using this
theorem inB_wide {l : List Int} {lo hi : Int} (h : inB l lo hi = true) (h1 : -1000 ≤ lo) (h2 : hi ≤ 1000) (j : Nat) : -1000 ≤ l.getD j 0 ∧ l.getD j 0 ≤ 1000 := by
  rcases Nat.lt_or_ge j l.length with hj | hj
  · have := inB_get h hj; omega
  · rw [List.getD_eq_getElem?_getD, List.getElem?_eq_none hj]; simp
def lenB (w : List Int) : Bool := decide (1 ≤ (w.length : Int) ∧ (w.length : Int) ≤ 8) && inB w 1 12 && decide (w.sum ≤ 12)
theorem loLengths_ev (w : List Int) (hn : w.length ≤ 4611686018427387904) : Ev (fun k => spec_loLengths.f k w) (lenB w) := by
  unfold spec_loLengths.f lenB
  simp only [l1In_eq, Option.bind_some]
  by_cases h : 1 ≤ (w.length : Int) ∧ (w.length : Int) ≤ 8
  · rw [decide_eq_true h, Bool.true_and]
    simp only [if_true]
    refine Ev.bind (l1All_ev w 1 12 hn) ?_
    show Ev (fun k => if inB w 1 12 = true then _ else _) _
    cases ha : inB w 1 12 with
    | true =>
      simp only [if_true, Bool.true_and]
      refine Ev.bind (paSum_ev w (by omega) (inB_wide ha (by omega) (by omega))) ?_
      exact Ev.now _
    | false => simp only [Bool.false_eq_true, if_false, Bool.false_and]; exact Ev.now _
  · rw [decide_eq_false h]
    simp only [Bool.false_eq_true, if_false, Bool.false_and]
    exact Ev.now _
theorem areLengths_ev (w : List Int) : Ev (fun k => impl_areLengths.f k w) (lenB w) := by
  unfold impl_areLengths.f lenB
  simp only [between_eq, areBetween_eq, Option.bind_some]
  by_cases h : 1 ≤ (w.length : Int) ∧ (w.length : Int) ≤ 8
  · rw [decide_eq_true h, Bool.true_and]
    simp only [if_true]
    cases ha : inB w 1 12 with
    | true =>
      simp only [if_true, Bool.true_and]
      refine Ev.bind (total_ev w (by omega) (inB_wide ha (by omega) (by omega))) ?_
      exact Ev.now _
    | false => simp only [Bool.false_eq_true, if_false, Bool.false_and]; exact Ev.now _
  · rw [decide_eq_false h]
    simp only [Bool.false_eq_true, if_false, Bool.false_and]
    exact Ev.now _
theorem lenB_parts {w : List Int} (h : lenB w = true) : 1 ≤ w.length ∧ w.length ≤ 8 ∧ (∀ j, j < w.length → 1 ≤ w.getD j 0 ∧ w.getD j 0 ≤ 12) ∧ 1 ≤ w.sum ∧ w.sum ≤ 12 ∧ ∀ j, -1000 ≤ w.getD j 0 ∧ w.getD j 0 ≤ 1000 := by
  unfold lenB at h
  simp only [Bool.and_eq_true, decide_eq_true_eq] at h
  obtain ⟨⟨h1, h2⟩, h3⟩ := h
  refine ⟨by omega, by omega, fun j hj => inB_get h2 hj, ?_, h3, inB_wide h2 (by omega) (by omega)⟩
  have key : ∀ q, q ≤ w.length → (q : Int) ≤ (w.take q).sum := by
    intro q
    induction q with
    | zero => intro _; simp
    | succ q ih =>
      intro hq
      have := ih (by omega)
      have := inB_get h2 (j := q) (by omega)
      rw [take_sum' (by omega)]
      push_cast
      omega
  have := key w.length (Nat.le_refl _)
  rw [List.take_length] at this
  omega
def taskB (l w : List Int) : Bool := lenB w && decide (l.length = w.length) && inB l 0 (w.sum - 1)
theorem loTask_ev (l w : List Int) (hl : l.length ≤ 4611686018427387904) (hw : w.length ≤ 4611686018427387904) : Ev (fun k => spec_loTask.f k l w) (taskB l w) := by
  unfold spec_loTask.f taskB
  refine Ev.bind (loLengths_ev w hw) ?_
  cases h : lenB w with
  | true =>
    obtain ⟨h1, h2, h3, h4, h5, h6⟩ := lenB_parts h
    simp only [if_true, Bool.true_and]
    by_cases he : l.length = w.length
    · rw [decide_eq_true he, Bool.true_and]
      simp only [show ((l.length : Int) = (w.length : Int)) from by omega, if_true]
      refine Ev.bind (paSum_ev w (by omega) h6) ?_
      rw [wrap_id (x := w.sum - 1) (by omega) (by omega)]
      exact Ev.bind (l1All_ev l 0 (w.sum - 1) hl) (Ev.now _)
    · rw [decide_eq_false he, Bool.false_and]
      simp only [show ¬ ((l.length : Int) = (w.length : Int)) from by omega, if_false]
      exact Ev.now _
  | false => simp only [Bool.false_eq_true, if_false, Bool.false_and]; exact Ev.now _
theorem areLong_ev (l w : List Int) : Ev (fun k => impl_areLong.f k l w) (taskB l w) := by
  unfold impl_areLong.f taskB
  refine Ev.bind (areLengths_ev w) ?_
  cases h : lenB w with
  | true =>
    obtain ⟨h1, h2, h3, h4, h5, h6⟩ := lenB_parts h
    simp only [if_true, Bool.true_and]
    by_cases he : l.length = w.length
    · rw [decide_eq_true he, Bool.true_and]
      simp only [show ((l.length : Int) = (w.length : Int)) from by omega, if_true]
      refine Ev.bind (total_ev w (by omega) h6) ?_
      unfold impl_AreFavourites.f
      simp only [between_eq, areBetween_eq, Option.bind_some]
      rw [decide_eq_true (show 1 ≤ w.sum ∧ w.sum ≤ 12 from ⟨h4, h5⟩)]
      simp only [if_true]
      rw [if_pos (by omega), wrap_id (x := w.sum - 1) (by omega) (by omega)]
      exact Ev.now _
    · rw [decide_eq_false he, Bool.false_and]
      simp only [show ¬ ((l.length : Int) = (w.length : Int)) from by omega, if_false]
      exact Ev.now _
  | false => simp only [Bool.false_eq_true, if_false, Bool.false_and]; exact Ev.now _

/-! ### Driving long cars -/
def tk (T : List Bool) (q : Nat) : Bool := T.getD q false
/-- The first free place from a on, of d places. -/
def upF (T : List Bool) : Nat → Nat → Nat
  | 0, a => a
  | d + 1, a => if tk T a = true then upF T d (a + 1) else a
theorem upF_le (T : List Bool) : ∀ (d a : Nat), a ≤ upF T d a ∧ upF T d a ≤ a + d
  | 0, a => by simp [upF]
  | d + 1, a => by
    rw [upF]
    split
    · have := upF_le T d (a + 1); omega
    · omega
def fill (T : List Bool) : Nat → Nat → List Bool
  | _, 0 => T
  | x, w + 1 => fill (T.set x true) (x + 1) w
theorem fill_len : ∀ (w : Nat) (T : List Bool) (x : Nat), (fill T x w).length = T.length
  | 0, _, _ => rfl
  | w + 1, T, x => by rw [fill, fill_len w]; simp
/-- w places from x on are there and free. -/
def freeW (T : List Bool) : Nat → Nat → Bool
  | _, 0 => true
  | x, w + 1 => decide (x < T.length) && !tk T x && freeW T (x + 1) w
/-- The first places, up to a car that is blocked. -/
def longV (l w : List Int) : Nat → Nat → List Bool → List Int → List Int
  | 0, _, _, out => out
  | d + 1, i, T, out =>
    let x := upF T (T.length - (l.getD i 0).toNat) (l.getD i 0).toNat
    if freeW T x (w.getD i 0).toNat = true then longV l w d (i + 1) (fill T x (w.getD i 0).toNat) (out ++ [(x : Int)]) else out
theorem freeW_le {T : List Bool} : ∀ (W x : Nat), freeW T x W = true → 1 ≤ W → x + W ≤ T.length
  | 0, _, _, h => by omega
  | 1, x, h, _ => by
    simp only [freeW, Bool.and_eq_true, decide_eq_true_eq] at h; omega
  | W + 2, x, h, _ => by
    rw [freeW] at h
    simp only [Bool.and_eq_true] at h
    have := freeW_le (W + 1) (x + 1) h.2 (by omega)
    omega
theorem rdOf_tk (T : List Bool) (q : Nat) : rdOf false T (q : Int) = tk T q := by simp [rdOf, tk]
section
variable (l w : List Int)
theorem sp_l3 (i : Nat) (hi : i < w.length) (out : List Int) (ho : out.length ≤ 1000) (x : Nat) (hx : x ≤ 1000) (W : Nat) (hW : w.getD i 0 = W) (hW2 : W ≤ 1000) (r : List Int) :
    ∀ (d q : Nat) (T : List Bool), q + d = x + W → q + d ≤ T.length → T.length ≤ 1000 → Ev (fun k => spec_loDrive.l0 k w (fill T q d) (out ++ [(x : Int)]) l (l.length : Int) (wrap64 ((i : Int) + 1))) r → Ev (fun k => spec_loDrive.l3 k w T out (i : Int) (x : Int) (q : Int) l (l.length : Int) (i : Int)) r := by
  intro d
  induction d with
  | zero =>
    intro q T hd hT hTl h
    refine Ev.one h fun k => ?_
    rw [spec_loDrive.l3, if_pos (by omega), if_pos (by omega), rd_nat, hW, wrap_id (x := (x : Int) + (W : Int)) (by omega) (by omega), if_neg (by omega), if_pos (by omega)]
    rfl
  | succ d ih =>
    intro q T hd hT hTl h
    refine Ev.one (ih (q + 1) (T.set q true) (by omega) (by simp; omega) (by simpa using hTl) h) fun k => ?_
    rw [spec_loDrive.l3, if_pos (by omega), if_pos (by omega), rd_nat, hW, wrap_id (x := (x : Int) + (W : Int)) (by omega) (by omega), if_pos (by omega), if_pos (by omega), if_pos (by omega), Int.toNat_natCast, wrap_next (n := T.length + 1) (by omega) (by omega)]
theorem sp_l2 (i : Nat) (hi : i < w.length) (out : List Int) (x : Nat) (hx : x ≤ 1000) (W : Nat) (hW : w.getD i 0 = W) (hW2 : W ≤ 1000) (T : List Bool) (hTl : T.length ≤ 1000) (r : List Int)
    (h : Ev (fun k => spec_loDrive.l3 k w T out (i : Int) (x : Int) (x : Int) l (l.length : Int) (i : Int)) r) :
    ∀ (d q : Nat), q + d = x + W → freeW T q d = true → Ev (fun k => spec_loDrive.l2 k w T out (i : Int) (x : Int) (q : Int) l (l.length : Int) (i : Int)) r := by
  intro d
  induction d with
  | zero =>
    intro q hd _
    refine Ev.one h fun k => ?_
    rw [spec_loDrive.l2, if_pos (by omega), if_pos (by omega), rd_nat, hW, wrap_id (x := (x : Int) + (W : Int)) (by omega) (by omega), if_neg (by omega)]
  | succ d ih =>
    intro q hd hf
    rw [freeW] at hf
    simp only [Bool.and_eq_true, decide_eq_true_eq, Bool.not_eq_true'] at hf
    obtain ⟨⟨hq, ht⟩, hf⟩ := hf
    refine Ev.one (ih (q + 1) (by omega) hf) fun k => ?_
    rw [spec_loDrive.l2, if_pos (by omega), if_pos (by omega), rd_nat, hW, wrap_id (x := (x : Int) + (W : Int)) (by omega) (by omega), if_pos (by omega), if_neg (by omega), if_pos (by omega), if_pos (by omega), rdOf_tk, ht, if_neg (by decide), wrap_next (n := T.length) hq (by omega)]
theorem sp_l2f (i : Nat) (hi : i < w.length) (out : List Int) (x : Nat) (hx : x ≤ 1000) (W : Nat) (hW : w.getD i 0 = W) (hW2 : W ≤ 1000) (T : List Bool) (hTl : T.length ≤ 1000) :
    ∀ (d q : Nat), q + d = x + W → freeW T q d = false → Ev (fun k => spec_loDrive.l2 k w T out (i : Int) (x : Int) (q : Int) l (l.length : Int) (i : Int)) out := by
  intro d
  induction d with
  | zero => intro q _ h; simp [freeW] at h
  | succ d ih =>
    intro q hd h
    by_cases hq : q < T.length
    · cases ht : tk T q with
      | true =>
        refine Ev.end_ fun k => ?_
        rw [spec_loDrive.l2, if_pos (by omega), if_pos (by omega), rd_nat, hW, wrap_id (x := (x : Int) + (W : Int)) (by omega) (by omega), if_pos (by omega), if_neg (by omega), if_pos (by omega), if_pos (by omega), rdOf_tk, ht, if_pos rfl]
      | false =>
        rw [freeW, ht] at h
        refine Ev.one (ih (q + 1) (by omega) (by simpa [hq] using h)) fun k => ?_
        rw [spec_loDrive.l2, if_pos (by omega), if_pos (by omega), rd_nat, hW, wrap_id (x := (x : Int) + (W : Int)) (by omega) (by omega), if_pos (by omega), if_neg (by omega), if_pos (by omega), if_pos (by omega), rdOf_tk, ht, if_neg (by decide), wrap_next (n := T.length) hq (by omega)]
    · refine Ev.end_ fun k => ?_
      rw [spec_loDrive.l2, if_pos (by omega), if_pos (by omega), rd_nat, hW, wrap_id (x := (x : Int) + (W : Int)) (by omega) (by omega), if_pos (by omega), if_pos (by omega)]
theorem sp_l1 (i : Nat) (out : List Int) (T : List Bool) (hTl : T.length ≤ 1000) (r : List Int) :
    ∀ (d a : Nat), a + d = T.length → Ev (fun k => spec_loDrive.j2 k w T out (i : Int) (upF T d a : Nat) l (l.length : Int) (i : Int)) r → Ev (fun k => spec_loDrive.l1 k w T out (i : Int) (a : Int) l (l.length : Int) (i : Int)) r := by
  intro d
  induction d with
  | zero =>
    intro a hd h
    refine Ev.one h fun k => ?_
    rw [spec_loDrive.l1, if_neg (by omega)]; rfl
  | succ d ih =>
    intro a hd h
    cases ht : tk T a with
    | true =>
      rw [upF, if_pos ht] at h
      refine Ev.one (ih (a + 1) (by omega) h) fun k => ?_
      rw [spec_loDrive.l1, if_pos (by omega), if_pos (by omega), rdOf_tk, ht, if_pos rfl, wrap_next (n := T.length) (by omega) (by omega)]
    | false =>
      rw [upF, if_neg (by rw [ht]; decide)] at h
      refine Ev.one h fun k => ?_
      rw [spec_loDrive.l1, if_pos (by omega), if_pos (by omega), rdOf_tk, ht, if_neg (by decide)]
/-- What a good task says of each car. -/
def CarOk (S : Nat) : Prop := w.length = l.length ∧ l.length ≤ 1000 ∧ S ≤ 1000 ∧ ∀ j, j < l.length → (∃ a : Nat, l.getD j 0 = a ∧ a < S) ∧ ∃ W : Nat, w.getD j 0 = W ∧ 1 ≤ W ∧ W ≤ 1000
theorem sp_l0 (S : Nat) (hok : CarOk l w S) : ∀ (d i : Nat) (T : List Bool) (out : List Int), i + d = l.length → T.length = S → out.length ≤ i → Ev (fun k => spec_loDrive.l0 k w T out l (l.length : Int) (i : Int)) (longV l w d i T out) := by
  obtain ⟨h1, h2, h3, h4⟩ := hok
  intro d
  induction d with
  | zero =>
    intro i T out hd hT ho
    rw [longV]
    refine Ev.end_ fun k => ?_
    rw [spec_loDrive.l0, if_neg (by omega)]
  | succ d ih =>
    intro i T out hd hT ho
    obtain ⟨⟨a, ha, haS⟩, W, hW, hW1, hW2⟩ := h4 i (by omega)
    rw [longV, ha, hW, Int.toNat_natCast, Int.toNat_natCast]
    have hup := upF_le T (T.length - a) a
    generalize hx : upF T (T.length - a) a = x at hup
    have hl1 : Ev (fun k => spec_loDrive.l1 k w T out (i : Int) (a : Int) l (l.length : Int) (i : Int)) (if freeW T x W = true then longV l w d (i + 1) (fill T x W) (out ++ [(x : Int)]) else out) := by
      refine sp_l1 l w i out T (by omega) _ (T.length - a) a (by omega) ?_
      rw [hx]
      cases hf : freeW T x W with
      | true =>
        rw [if_pos rfl]
        have hfT : x + W ≤ T.length := freeW_le W x hf (by omega)
        have := sp_l2 l w i (by omega) out x (by omega) W hW hW2 T (by omega) (longV l w d (i + 1) (fill T x W) (out ++ [(x : Int)])) (sp_l3 l w i (by omega) out (by omega) x (by omega) W hW hW2 _ W x T (by omega) (by omega) (by omega) (by
          rw [wrap_next (n := l.length) (by omega) (by omega)]
          exact ih (i + 1) _ _ (by omega) (by rw [fill_len]; exact hT) (by simp; omega))) W x (by omega) hf
        exact Ev.one this fun k => rfl
      | false =>
        rw [if_neg (by decide)]
        exact Ev.one (sp_l2f l w i (by omega) out x (by omega) W hW hW2 T (by omega) W x (by omega) hf) fun k => rfl
    refine Ev.one hl1 fun k => ?_
    rw [spec_loDrive.l0, if_pos (by omega), if_pos (by omega), if_pos (by omega), rd_nat, ha]
end
theorem contains_l0 (L : List Bool) (hL : L.length ≤ 1000) : ∀ (d i : Nat), i + d = L.length → ∃ r, Ev (fun k => slices_Index_bool_bool.l0 k L true (L.length : Int) (i : Int)) r ∧ decide (r ≥ 0) = (L.drop i).any id := by
  intro d
  induction d with
  | zero =>
    intro i hd
    refine ⟨-1, Ev.end_ fun k => ?_, ?_⟩
    · rw [slices_Index_bool_bool.l0, if_neg (by omega)]
    · rw [List.drop_of_length_le (by omega)]; rfl
  | succ d ih =>
    intro i hd
    have hdr : L.drop i = tk L i :: L.drop (i + 1) := by
      rw [List.drop_eq_getElem_cons (by omega), tk, List.getD_eq_getElem?_getD, List.getElem?_eq_getElem (by omega)]; rfl
    cases ht : tk L i with
    | true =>
      refine ⟨i, Ev.end_ fun k => ?_, ?_⟩
      · rw [slices_Index_bool_bool.l0, if_pos (by omega), if_pos (by omega), if_pos (by omega), rdOf_tk, ht, if_pos (by decide)]
      · rw [hdr, ht]; simp
    | false =>
      obtain ⟨r, hr, hd2⟩ := ih (i + 1) (by omega)
      refine ⟨r, Ev.one hr fun k => ?_, ?_⟩
      · rw [slices_Index_bool_bool.l0, if_pos (by omega), if_pos (by omega), if_pos (by omega), rdOf_tk, ht, if_neg (by decide), wrap_next (n := L.length) (by omega) (by omega)]
      · rw [hdr, ht, hd2]; simp
theorem contains_ev (L : List Bool) (hL : L.length ≤ 1000) : Ev (fun k => slices_Contains_bool_bool.f k L true) (L.any id) := by
  obtain ⟨r, hr, hd⟩ := contains_l0 L hL L.length 0 (by omega)
  unfold slices_Contains_bool_bool.f slices_Index_bool_bool.f
  rw [← show decide (r ≥ 0) = L.any id from hd]
  exact Ev.bind hr (Ev.now _)
theorem freeW_any (T : List Bool) : ∀ (W x : Nat), x + W ≤ T.length → freeW T x W = !((T.take (x + W)).drop x).any id := by
  intro W
  induction W with
  | zero => intro x hx; rw [freeW, List.drop_of_length_le (by simp; omega)]; rfl
  | succ W ih =>
    intro x hx
    have h1 := ih (x + 1) (by omega)
    rw [freeW, h1, decide_eq_true (show x < T.length by omega), Bool.true_and]
    have hdr : (T.take (x + (W + 1))).drop x = tk T x :: (T.take (x + 1 + W)).drop (x + 1) := by
      rw [show x + (W + 1) = x + 1 + W by omega, List.drop_eq_getElem_cons (by simp; omega), tk, List.getD_eq_getElem?_getD, List.getElem?_eq_getElem (by omega), List.getElem_take]; rfl
    rw [hdr, List.any_cons, Bool.not_or]; rfl
section
variable (l w : List Int)
theorem im_l2 (i : Nat) (out : List Int) (ho : out.length ≤ 1000) (x E : Nat) (r : List Int) :
    ∀ (d q : Nat) (T : List Bool), q + d = E → q + d ≤ T.length → T.length ≤ 1000 → Ev (fun k => impl_driveLong.l0 k w (fill T q d) (out ++ [(x : Int)]) l (l.length : Int) (wrap64 ((i : Int) + 1))) r → Ev (fun k => impl_driveLong.l2 k w T out (x : Int) (E : Int) (q : Int) l (l.length : Int) (i : Int)) r := by
  intro d
  induction d with
  | zero =>
    intro q T hd hT hTl h
    refine Ev.one h fun k => ?_
    rw [impl_driveLong.l2, if_neg (by omega), if_pos (by omega)]
    rfl
  | succ d ih =>
    intro q T hd hT hTl h
    refine Ev.one (ih (q + 1) (T.set q true) (by omega) (by simp; omega) (by simpa using hTl) h) fun k => ?_
    rw [impl_driveLong.l2, if_pos (by omega), if_pos (by omega), if_pos (by omega), Int.toNat_natCast, wrap_next (n := T.length + 1) (by omega) (by omega)]
theorem im_l1 (i : Nat) (out : List Int) (T : List Bool) (hTl : T.length ≤ 1000) (r : List Int) :
    ∀ (d a : Nat), a + d = T.length → Ev (fun k => impl_driveLong.j2 k w T out (i : Int) (upF T d a : Nat) l (l.length : Int) (i : Int)) r → Ev (fun k => impl_driveLong.l1 k w T out (i : Int) (a : Int) l (l.length : Int) (i : Int)) r := by
  intro d
  induction d with
  | zero =>
    intro a hd h
    refine Ev.one h fun k => ?_
    rw [impl_driveLong.l1, if_neg (by omega)]; rfl
  | succ d ih =>
    intro a hd h
    cases ht : tk T a with
    | true =>
      rw [upF, if_pos ht] at h
      refine Ev.one (ih (a + 1) (by omega) h) fun k => ?_
      rw [impl_driveLong.l1, if_pos (by omega), if_pos (by omega), rdOf_tk, ht, if_pos rfl, wrap_next (n := T.length) (by omega) (by omega)]
    | false =>
      rw [upF, if_neg (by rw [ht]; decide)] at h
      refine Ev.one h fun k => ?_
      rw [impl_driveLong.l1, if_pos (by omega), if_pos (by omega), rdOf_tk, ht, if_neg (by decide)]
theorem im_l0 (S : Nat) (hok : CarOk l w S) : ∀ (d i : Nat) (T : List Bool) (out : List Int), i + d = l.length → T.length = S → out.length ≤ i → Ev (fun k => impl_driveLong.l0 k w T out l (l.length : Int) (i : Int)) (longV l w d i T out) := by
  obtain ⟨h1, h2, h3, h4⟩ := hok
  intro d
  induction d with
  | zero =>
    intro i T out hd hT ho
    rw [longV]
    refine Ev.end_ fun k => ?_
    rw [impl_driveLong.l0, if_neg (by omega)]
  | succ d ih =>
    intro i T out hd hT ho
    obtain ⟨⟨a, ha, haS⟩, W, hW, hW1, hW2⟩ := h4 i (by omega)
    rw [longV, ha, hW, Int.toNat_natCast, Int.toNat_natCast]
    have hup := upF_le T (T.length - a) a
    generalize hx : upF T (T.length - a) a = x at hup
    have hl1 : Ev (fun k => impl_driveLong.l1 k w T out (i : Int) (a : Int) l (l.length : Int) (i : Int)) (if freeW T x W = true then longV l w d (i + 1) (fill T x W) (out ++ [(x : Int)]) else out) := by
      refine im_l1 l w i out T (by omega) _ (T.length - a) a (by omega) ?_
      rw [hx]
      by_cases hE : x + W ≤ T.length
      · have hany := freeW_any T W x hE
        refine Ev.one (f := fun k => (slices_Contains_bool_bool.f k ((T.take (x + W)).drop x) true).bind fun t157 => (impl_driveLong.j3 k w T out (x : Int) ((x + W : Nat) : Int) l (l.length : Int) (i : Int) t157)) ?_ fun k => ?_
        · refine Ev.bind (contains_ev _ (by simp; omega)) ?_
          rw [show ((T.take (x + W)).drop x).any id = !freeW T x W by rw [hany, Bool.not_not]]
          cases hf : freeW T x W with
          | true =>
            rw [if_pos rfl]
            refine Ev.one (im_l2 l w i out (by omega) x (x + W) (longV l w d (i + 1) (fill T x W) (out ++ [(x : Int)])) W x T rfl hE (by omega) ?_) fun k => ?_
            · rw [wrap_next (n := l.length) (by omega) (by omega)]
              exact ih (i + 1) _ _ (by omega) (by rw [fill_len]; exact hT) (by simp; omega)
            · rw [impl_driveLong.j3, if_neg (by decide)]
          | false =>
            rw [if_neg (by decide)]
            refine Ev.end_ fun k => ?_
            rw [impl_driveLong.j3, if_pos (by decide)]
        · rw [impl_driveLong.j2, if_pos (by omega), if_pos (by omega), rd_nat, hW, wrap_id (x := (x : Int) + (W : Int)) (by omega) (by omega), if_neg (by omega), if_pos (by omega), if_pos (by omega), if_pos (by omega)]
          rfl
      · have hf : freeW T x W = false := by
          cases hf : freeW T x W with
          | false => rfl
          | true => exact absurd (freeW_le W x hf (by omega)) hE
        rw [hf, if_neg (by decide)]
        refine Ev.one (f := fun k => impl_driveLong.j3 k w T out (x : Int) ((x + W : Nat) : Int) l (l.length : Int) (i : Int) true) (Ev.end_ fun k => ?_) fun k => ?_
        · rw [impl_driveLong.j3, if_pos rfl]
        · rw [impl_driveLong.j2, if_pos (by omega), if_pos (by omega), rd_nat, hW, wrap_id (x := (x : Int) + (W : Int)) (by omega) (by omega), if_pos (by omega)]
          rfl
    refine Ev.one hl1 fun k => ?_
    rw [impl_driveLong.l0, if_pos (by omega), if_pos (by omega), if_pos (by omega), rd_nat, ha]
end
theorem taskB_parts {l w : List Int} (h : taskB l w = true) : lenB w = true ∧ l.length = w.length ∧ ∀ j, j < l.length → 0 ≤ l.getD j 0 ∧ l.getD j 0 ≤ w.sum - 1 := by
  unfold taskB at h
  simp only [Bool.and_eq_true, decide_eq_true_eq] at h
  exact ⟨h.1.1, h.1.2, fun j hj => inB_get h.2 hj⟩
theorem taskB_ok {l w : List Int} (h : taskB l w = true) : CarOk l w w.sum.toNat := by
  obtain ⟨h1, h2, h3⟩ := taskB_parts h
  obtain ⟨a1, a2, a3, a4, a5, a6⟩ := lenB_parts h1
  refine ⟨by omega, by omega, by omega, fun j hj => ⟨⟨(l.getD j 0).toNat, ?_, ?_⟩, (w.getD j 0).toNat, ?_, ?_, ?_⟩⟩
  · have := h3 j hj; omega
  · have := h3 j hj; omega
  · have := a3 j (by omega); omega
  · have := a3 j (by omega); omega
  · have := a3 j (by omega); omega
/-- The first places of long cars, up to the one that is blocked. -/
def longs (l w : List Int) : List Int := longV l w l.length 0 (List.replicate w.sum.toNat false) []
theorem loDrive_ev {l w : List Int} (h : taskB l w = true) : Ev (fun k => spec_loDrive.f k l w) (longs l w) := by
  have hp := lenB_parts (taskB_parts h).1
  unfold spec_loDrive.f longs
  refine Ev.bind (paSum_ev w (by omega) hp.2.2.2.2.2) ?_
  simp only [show (0 : Int) ≤ w.sum by omega, show w.sum.toNat ≤ 281474976710656 by omega, if_true]
  exact sp_l0 l w _ (taskB_ok h) l.length 0 _ _ (by omega) (by simp) (by simp)
theorem driveLong_ev {l w : List Int} (h : taskB l w = true) : Ev (fun k => impl_driveLong.f k l w) (longs l w) := by
  have hp := lenB_parts (taskB_parts h).1
  unfold impl_driveLong.f longs
  refine Ev.bind (total_ev w (by omega) hp.2.2.2.2.2) ?_
  simp only [show (0 : Int) ≤ w.sum by omega, show w.sum.toNat ≤ 281474976710656 by omega, if_true]
  exact im_l0 l w _ (taskB_ok h) l.length 0 _ _ (by omega) (by simp) (by simp)
def longP (l w : List Int) : List Int × Bool := if taskB l w = true then (if (longs l w).length < l.length then ([], false) else (longs l w, true)) else ([], false)
theorem spec_DriveLong_ev (l w : List Int) (hl : l.length ≤ 4611686018427387904) (hw : w.length ≤ 4611686018427387904) : Ev (fun k => spec_DriveLong.f k l w) (longP l w) := by
  unfold spec_DriveLong.f longP
  refine Ev.bind (loTask_ev l w hl hw) ?_
  cases h : taskB l w with
  | true =>
    simp only [if_true]
    refine Ev.bind (loDrive_ev h) ?_
    by_cases hh : (longs l w).length < l.length
    · simp only [show ((longs l w).length : Int) < (l.length : Int) from by omega, hh, if_true]; exact Ev.now _
    · simp only [show ¬ ((longs l w).length : Int) < (l.length : Int) from by omega, hh, if_false]; exact Ev.now _
  | false => simp only [Bool.false_eq_true, if_false]; exact Ev.now _
theorem impl_DriveLong_ev (l w : List Int) : Ev (fun k => impl_DriveLong.f k l w) (longP l w) := by
  unfold impl_DriveLong.f longP
  refine Ev.bind (areLong_ev l w) ?_
  cases h : taskB l w with
  | true =>
    simp only [if_true]
    refine Ev.bind (driveLong_ev h) ?_
    by_cases hh : (longs l w).length < l.length
    · simp only [show ((longs l w).length : Int) < (l.length : Int) from by omega, hh, if_true]; exact Ev.now _
    · simp only [show ¬ ((longs l w).length : Int) < (l.length : Int) from by omega, hh, if_false]; exact Ev.now _
  | false => simp only [Bool.false_eq_true, if_false]; exact Ev.now _
theorem longV_len (l w : List Int) : ∀ (d i : Nat) (T : List Bool) (out : List Int), (longV l w d i T out).length ≤ out.length + d
  | 0, _, _, _ => by rw [longV]; omega
  | d + 1, i, T, out => by
    rw [longV]
    split
    · have := longV_len l w d (i + 1) (fill T (upF T (T.length - (l.getD i 0).toNat) (l.getD i 0).toNat) (w.getD i 0).toNat) (out ++ [((upF T (T.length - (l.getD i 0).toNat) (l.getD i 0).toNat : Nat) : Int)])
      simp only [List.length_append, List.length_cons, List.length_nil] at this
      exact Nat.le_trans this (by omega)
    · omega
theorem longs_len (l w : List Int) : (longs l w).length ≤ l.length := by
  have := longV_len l w l.length 0 (List.replicate w.sum.toNat false) []
  unfold longs; simpa using this
theorem longP_len (l w : List Int) : (longP l w).1.length ≤ l.length := by
  unfold longP
  split
  · split
    · simp
    · exact longs_len l w
  · simp

end Go.Proofs.Ytfclfjengfmjaaa.G
