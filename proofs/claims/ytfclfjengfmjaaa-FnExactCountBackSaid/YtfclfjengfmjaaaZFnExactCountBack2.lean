/- The law FnExactCountBack: part 2 of the printed functions and the facts on them that its row leans on (merged by this session's slim.py). -/
import Derived.Test.YtfclfjengfmjaaaZFnExactCountBack1
namespace Go.Proofs.Ytfclfjengfmjaaa.G
open Go.RowKit Go.Proofs.YtfclfjengfmjaaaW.PrintWords Go.Proofs.YtfclfjengfmjaaaW.PrintLast Go.Proofs.YtfclfjengfmjaaaW.PrintMore
attribute [local go_sem] max2_int min2_int max_two min_two max_three min_three max_four min_four   -- for this text's walks alone
set_option linter.unusedVariables false
set_option linter.unusedSimpArgs false
set_option maxHeartbeats 2000000 in
theorem impl_defect.calls (k : Nat) (A0 : Option Addr) (c0 : Nat) (l0 : List Int) (a1 : Int) (r : Int) (w : World) (hr0 : Kd.C (Kd.int .i64) w A0 l0.length l0) (hc0 : l0.length ≤ c0) (h : impl_defect.f k l0 a1 = some r) :
    Calls Try.prog 83 #[.slice A0 l0.length c0, .int .i64 a1] w fun e w' => e = .returned (.int .i64 r) ∧ Below w.heap.size w w' := by
  unfold impl_defect.f at h
  obtain ⟨o, ho, h⟩ := Option.bind_eq_some_iff.1 h
  obtain rfl := Option.some.inj h
  have HR := Aside0.mk hr0
  have HD := Aside0.mk ho
  clear hr0 ho h
  go_enter Try.func83, Try.ntmps83
  go_wp2_with (first | (go_at_call 95; refine (impl_driveSome.calls k _ _ l0 a1 o _ HR.out hc0 HD.out).mono ?_; rintro e w5 ⟨v7, rfl, ho, hb⟩; have HB := Aside0.mk hb; obtain ⟨Ao, co, eo⟩ := Kd.R_slice ho; subst eo; have HO := Aside0.mk ho; clear ho hb) | (go_at_call 105; refine (impl_countIf.callsP _ _ o _ _ negP _ (enters_of Try.func106 (by kernel_rfl) rfl) (defect_pred _) (Kd.R_reads' HO.out).2.2 (Kd.R_reads' HO.out).2.1).mono ?_; rintro e w' ⟨rfl, q, rfl⟩))
  go_ret
  exact ⟨rfl, (by repeat (first | (with_reducible first | exact HB.out | apply below_alloc | apply pw_below_drewN | apply below_drew1) | exact HB.out))⟩
def slices_Max_int_int.f (l0 : List Int) : Option Int := match l0 with
  | [] => none
  | a :: r => some (r.foldl max a)
def maxTo (l : List Int) : Nat → Int
  | 0 => l.getD 0 0
  | i + 1 => max (maxTo l i) (l.getD (i + 1) 0)
theorem maxTo_fold (a : Int) : ∀ (r : List Int) (b : Int) (l : List Int) (i : Nat), l.drop (i + 1) = r → maxTo l i = b → i + 1 + r.length = l.length → maxTo l (l.length - 1) = r.foldl max b
  | [], b, l, i, h, hb, hl => by
    have : l.length - 1 = i := by simp at hl; omega
    rw [this, hb]; rfl
  | x :: r, b, l, i, h, hb, hl => by
    simp only [List.length_cons] at hl
    have hx : l.getD (i + 1) 0 = x := by
      rw [List.drop_eq_getElem_cons (by omega)] at h
      injection h with h1 h2
      rw [List.getD_eq_getElem?_getD, List.getElem?_eq_getElem (by omega)]
      exact h1
    have hd : l.drop (i + 1 + 1) = r := by
      have := congrArg (List.drop 1) h
      rwa [List.drop_drop, List.drop_one, List.tail_cons] at this
    rw [List.foldl_cons]
    exact maxTo_fold a r (max b x) l (i + 1) hd (by rw [maxTo, hb, hx]) (by omega)
set_option maxHeartbeats 2000000 in
theorem slices_Max_int_int.calls (A0 : Option Addr) (c0 : Nat) (l0 : List Int) (r : Int) (w : World) (hr0 : Kd.C (Kd.int .i64) w A0 l0.length l0) (hc0 : l0.length ≤ c0) (h : slices_Max_int_int.f l0 = some r) :
    Calls Try.prog 96 #[.slice A0 l0.length c0] w fun e w' => e = .returned (.int .i64 r) ∧ Drawn0 w w' := by
  have hpos : 0 < l0.length := by
    cases l0 with
    | nil => simp [slices_Max_int_int.f] at h
    | cons a s => simp
  have hres : r = maxTo l0 (l0.length - 1) := by
    cases l0 with
    | nil => simp at hpos
    | cons a s =>
      rw [maxTo_fold a s a (a :: s) 0 (by simp) (by simp [maxTo]) (by simp; omega)]
      exact (Option.some.inj h).symm
  subst hres
  have hbig : l0.length ≤ 9223372036854775807 := hr0.2.1
  have HR := Aside0.mk hr0
  clear hr0 h
  have c0b : decide ((l0.length : Int) < 1) = false := decide_eq_false (by omega)
  have c0c : decide (l0.length < 1) = false := decide_eq_false (by omega)
  obtain ⟨ad, rfl, hx0⟩ := Kd.at_int HR.out (0 : Int) (by omega) (by omega)
  have e0 : rd l0 (0 : Int) = maxTo l0 0 := rfl
  rw [e0] at hx0
  have q0 : (0 : Int) < (l0.length : Int) := by omega
  have hx1 : w.cell? ad = some (.int .i64 (maxTo l0 0)) := by
    have e : ad.add (Int.toNat 0) = ad := by cases ad; simp [Addr.add]
    rw [e] at hx0; exact hx0
  clear hx0 e0
  go_enter Try.func96, Try.ntmps96
  go_wp2
  go_loopg [3, 4] l0.length (fun gg v3 v4 wr => ∃ i q : Nat, Aside0 (i + 1 ≤ l0.length) ∧ Aside0 (l0.length - i ≤ gg) ∧ v3 = .int .i64 (maxTo l0 i) ∧ v4 = .int .i64 ((i + 1 : Nat) : Int) ∧ wr = w.drewN q)
  case atStart => exact ⟨0, 0, ⟨by omega⟩, ⟨by omega⟩, rfl, rfl, rfl⟩
  case round =>
    obtain ⟨i, q, HI, HG, rfl, rfl, rfl⟩ := hrel
    obtain ⟨z, hz⟩ : ∃ z : Int, z = ((i + 1 : Nat) : Int) := ⟨_, rfl⟩
    rw [← hz]
    by_cases hlt : i + 1 < l0.length
    · have c1 : decide (z < (l0.length : Int)) = true := decide_eq_true (by omega)
      have p1 : 0 ≤ z := by omega
      have p2 : z < (l0.length : Int) := by omega
      obtain ⟨ad', e', hx⟩ := Kd.at_int HR.out z p1 p2
      cases e'
      obtain ⟨y, hy⟩ : ∃ y, y = rd l0 z := ⟨_, rfl⟩
      rw [← hy] at hx
      obtain ⟨m0, hm0⟩ : ∃ m0, m0 = maxTo l0 i := ⟨_, rfl⟩
      rw [← hm0]
      have HM := Aside0.mk (show max m0 y = maxTo l0 (i + 1) by rw [hm0, hy, hz, maxTo, rd, Int.toNat_natCast])
      have HZ := Aside0.mk hz
      clear hz hy hm0
      go_wp2
      all_goals (
        go_roundg (gk - 1)
        case measure => have := HG.out; have := HI.out; omega
        case rel => exact ⟨i + 1, q, ⟨by omega⟩, ⟨by have := HG.out; omega⟩, by rw [← HM.out]; congr 1; omega, by congr 1; have := HZ.out; first | omega | (unfold wrap64; omega), rfl⟩)
    · have c1 : decide (z < (l0.length : Int)) = false := decide_eq_false (by omega)
      have HZ := Aside0.mk hz
      clear hz
      go_wp2
      go_ret
      have e : l0.length - 1 = i := by have := HI.out; omega
      exact ⟨by rw [e]; rfl, q, rfl⟩
end Go.Proofs.Ytfclfjengfmjaaa.G
namespace Go.Proofs.Ytfclfjengfmjaaa.G
open Go.RowKit Go.Proofs.YtfclfjengfmjaaaW.PrintWords Go.Proofs.YtfclfjengfmjaaaW.PrintLast Go.Proofs.YtfclfjengfmjaaaW.PrintMore
set_option linter.unusedVariables false
set_option linter.unusedSimpArgs false
/-- How many of the first j lists have each defect. -/
def cntD (k n : Nat) : Nat → Option (List Int)
  | 0 => some (List.replicate n 0)
  | j + 1 => (cntD k n j).bind fun o => (impl_defect.f k (digI n n j) (n : Int)).bind fun d => if 0 ≤ d ∧ d < (n : Int) then some (o.set d.toNat (wrap64 (rd o d + 1))) else none
theorem cntD_len {k n : Nat} : ∀ {j : Nat} {o : List Int}, cntD k n j = some o → o.length = n
  | 0, o, h => by obtain rfl := Option.some.inj h; simp
  | j + 1, o, h => by
    rw [cntD] at h
    obtain ⟨o', ho, h⟩ := Option.bind_eq_some_iff.1 h
    obtain ⟨d, hd, h⟩ := Option.bind_eq_some_iff.1 h
    split at h
    · obtain rfl := Option.some.inj h
      rw [List.length_set]; exact cntD_len ho
    · cases h
theorem cntD_some {k n : Nat} : ∀ {m j : Nat} {c : List Int}, cntD k n m = some c → j ≤ m → ∃ x, cntD k n j = some x
  | 0, j, c, h, hj => by obtain rfl : j = 0 := by omega
                         exact ⟨_, h⟩
  | m + 1, j, c, h, hj => by
    by_cases e : j = m + 1
    · subst e; exact ⟨_, h⟩
    · rw [cntD] at h
      obtain ⟨x, hx, _⟩ := Option.bind_eq_some_iff.1 h
      exact cntD_some hx (by omega)
theorem cntD_mono (k n : Nat) : ∀ (m : Nat), LeO (cntD k n m) (cntD (k + 1) n m)
  | 0 => LeO.refl _
  | m + 1 => by
    rw [cntD, cntD]
    exact LeO.bind (cntD_mono k n m) (fun c => LeO.bind (impl_defect.mono _ _ k) (fun r => LeO.refl _))
def impl_CountByDefect.f (k : Nat) (a0 : Int) : Option (List Int × Bool) := (impl_isTried.f a0).bind fun t => if t = true then (cntD k a0.toNat (a0.toNat ^ a0.toNat)).bind fun c => some (c, true) else some ([], false)
theorem impl_CountByDefect.mono : ∀ a0 k, LeO (impl_CountByDefect.f k a0) (impl_CountByDefect.f (k + 1) a0) := by
  intro a0 k
  unfold impl_CountByDefect.f
  exact LeO.bind (LeO.refl _) (fun t => LeO.ite (LeO.bind (cntD_mono k _ _) (fun _ => LeO.refl _)) (LeO.refl _))
structure InvD (k n B0 B g1 g4 go cv : Nat) (w0 : World) (j : Nat) (W : World) : Prop where
  below_ : Below B0 w0 W
  c1 : W.cell? ⟨g1, 0, none⟩ = some (.int .i64 (n : Int))
  c4 : W.cell? ⟨g4, 0, none⟩ = some (.slice (some ⟨go, 0, none⟩) n cv)
  row : ∃ o, cntD k n j = some o ∧ Kd.R (Kd.int .i64) 3 W B0 (fun q => q = go) (.slice (some ⟨go, 0, none⟩) n cv) o
theorem InvD.later {k n B0 B g1 g4 go cv : Nat} {w0 : World} (h1 : g1 < B) (h4 : g4 < B) (ho : go < B) (hB : B0 ≤ B) (j : Nat) (W W' : World) (h : InvD k n B0 B g1 g4 go cv w0 j W) (hb : Below B W W') : InvD k n B0 B g1 g4 go cv w0 j W' := by
  obtain ⟨o, hx, hr⟩ := h.row
  exact ⟨h.below_.trans (hb.mono hB), cell_same h.c1 (hb.block g1 h1), cell_same h.c4 (hb.block g4 h4), ⟨o, hx, Kd.R_step hr (fun q hq _ => by rw [hq]; exact hb.block go ho)⟩⟩
set_option maxHeartbeats 4000000 in
theorem CountByDefect_cb (k n B0 B g1 g4 go cv m : Nat) (w0 : World) (r : List Int) (hn : n ^ n ≤ m) (hr : cntD k n m = some r) (h1 : B0 ≤ g1 ∧ g1 < B) (h4 : B0 ≤ g4 ∧ g4 < B) (ho : B0 ≤ go ∧ go < B) (h14 : g1 ≠ go) (h44 : g4 ≠ go) (hB0 : B0 ≤ B)
    (j : Nat) (W : World) (v : Value) (hj : j < n ^ n) (hBW : B ≤ W.heap.size) (hI : InvD k n B0 B g1 g4 go cv w0 j W) (hR : Kd.R (Kd.int .i64) 3 W B (fun _ => True) v (digI n n j)) :
    Calls Try.prog 82 (#[v] ++ #[.pointer (some ⟨g4, 0, none⟩), .pointer (some ⟨g1, 0, none⟩)]) W fun e w' => e = .returned (.tuple #[]) ∧ InvD k n B0 B g1 g4 go cv w0 (j + 1) w' ∧ Keeps B W w' := by
  obtain ⟨hbl, hc1, hc4, ⟨o, hx, hro⟩⟩ := hI
  obtain ⟨y, hy⟩ := cntD_some hr (show j + 1 ≤ m by omega)
  have hy0 := hy
  rw [cntD, hx, Option.bind_some] at hy0
  obtain ⟨d, hd, hyb⟩ := Option.bind_eq_some_iff.1 hy0
  split at hyb
  case isFalse => cases hyb
  rename_i hdr
  have hyb2 := Option.some.inj hyb
  have hol := cntD_len hx
  obtain ⟨A, c, ev⟩ := Kd.R_slice hR
  subst ev
  have hrd := Kd.R_reads' hR
  have HD := Aside0.mk hd
  have HRD := Aside0.mk hrd
  have HY := Aside0.mk hy
  have HYB := Aside0.mk hyb2
  have HBL := Aside0.mk hbl
  have HBW := Aside0.mk hBW
  have HRO := Aside0.mk hro
  have HOL := Aside0.mk hol
  have HDR := Aside0.mk hdr
  have HG := Aside0.mk (show (B0 ≤ g1 ∧ g1 < B) ∧ (B0 ≤ g4 ∧ g4 < B) ∧ (B0 ≤ go ∧ go < B) ∧ g1 ≠ go ∧ g4 ≠ go ∧ B0 ≤ B from ⟨h1, h4, ho, h14, h44, hB0⟩)
  have HC := Aside0.mk (show W.cell? ⟨g1, 0, none⟩ = some (.int .i64 (n : Int)) ∧ W.cell? ⟨g4, 0, none⟩ = some (.slice (some ⟨go, 0, none⟩) n cv) from ⟨hc1, hc4⟩)
  have p1 : 0 ≤ d := hdr.1
  have p2 : d < (n : Int) := hdr.2
  clear hbl hx hy hy0 hd hyb hyb2 hrd hR hr hn hj h1 h4 ho h14 h44 hB0 hBW hro hol hdr
  simp only [List.append_toArray, List.cons_append, List.nil_append]
  go_enter Try.func82, Try.ntmps82
  go_region_with (go_at_call 83; refine (impl_defect.calls k _ _ (digI n n j) (n : Int) d _ (Kd.C_drew HRD.out.2.2) HRD.out.2.1 HD.out).mono ?_; rintro e w5 ⟨rfl, hb⟩; have HBB := Aside0.mk (show Below W.heap.size W w5 from ⟨hb.os, hb.tape, hb.output, hb.size, hb.block⟩); have nc4 := pw_cell_below HBB.out HC.out.2; have hp0 : Kd.R (Kd.int .i64) 3 w5 B0 (fun q => q = go) (.slice (some ⟨go, 0, none⟩) o.length cv) o := (by rw [HOL.out]; exact Kd.R_below HRO.out HBB.out); have hz := Kd.R_celln 0 hp0 d p1 (by rw [HOL.out]; exact p2); have HP0 := Aside0.mk hp0; have hz1 := hz.1; have hz2 := hz.2; clear hb hp0 hz)
  all_goals (
    go_end0
    have hg := HG.out
    have hP := Kd.R_putg HP0.out d (IntKind.i64.wrap (rdOf 0 o d + 1))
    have hw : wrap64 (rd o d + 1) = IntKind.i64.wrap (rdOf 0 o d + 1) := by
      rw [show rdOf 0 o d = rd o d from rfl, IntKind.wrap_i64]; unfold wrap64; omega
    refine ⟨rfl, ⟨Below.setCell (below_then HBL.out (Nat.le_trans hg.2.2.2.2.2 HBW.out) HBB.out) hg.2.2.1.1 _, cell_same (pw_cell_below HBB.out HC.out.1) (Below.heap_setCell _ _ _ _ hg.2.2.2.1), cell_same nc4 (Below.heap_setCell _ _ _ _ hg.2.2.2.2.1), ⟨y, HY.out, ?_⟩⟩, Nat.le_trans HBB.out.size (by simp [World.setCell]), fun q hB hq => ?_⟩
    · rw [← HYB.out, hw]; rw [HOL.out] at hP; exact hP.1
    · rw [Below.heap_setCell _ _ _ _ (show q ≠ go by have := hg.2.2.1.2; omega)]; exact HBB.out.block q hq)
set_option maxHeartbeats 4000000 in
set_option maxRecDepth 100000 in
theorem impl_CountByDefect.calls (k : Nat) (a0 : Int) (r1 : List Int) (r2 : Bool) (w : World) (h : impl_CountByDefect.f k a0 = some (r1, r2)) :
    Calls Try.prog 28 #[.int .i64 a0] w fun e w' => ∃ v0_ : Value, e = .returned (.tuple #[v0_, .bool r2]) ∧ Kd.R (Kd.int .i64) 3 w' w.heap.size (fun _ => True) v0_ r1 ∧ Below w.heap.size w w' := by
  unfold impl_CountByDefect.f at h
  obtain ⟨t, ht, h⟩ := Option.bind_eq_some_iff.1 h
  have HT := Aside0.mk ht
  have HB := Aside0.mk (Below.refl w.heap.size w)
  cases t with
  | false =>
    simp only [Bool.false_eq_true, if_false, Option.some.injEq, Prod.mk.injEq] at h
    obtain ⟨rfl, rfl⟩ := h
    clear ht
    go_enter Try.func28, Try.ntmps28
    go_wp2_with (go_at_call 76; refine (impl_isTried.calls a0 false _ HT.out).mono ?_; rintro e w5 ⟨rfl, m1, rfl⟩)
    go_ret2
    exact ⟨_, rfl, Kd.R_nil _ _ _ _ _, (by repeat (first | (with_reducible first | exact HB.out | apply below_alloc | apply pw_below_drewN | apply below_drew1) | exact HB.out))⟩
  | true =>
    rw [if_pos rfl] at h
    obtain ⟨c, hc, h⟩ := Option.bind_eq_some_iff.1 h
    simp only [Option.some.injEq, Prod.mk.injEq] at h
    obtain ⟨rfl, rfl⟩ := h
    obtain ⟨h1, h5⟩ := tried_range ht
    obtain ⟨n, rfl⟩ : ∃ n : Nat, a0 = n := ⟨a0.toNat, by omega⟩
    rw [Int.toNat_natCast] at hc
    have HC := Aside0.mk hc
    have HN := Aside0.mk (show 1 ≤ n ∧ n ≤ 5 by omega)
    clear ht hc h1 h5 h
    go_enter Try.func28, Try.ntmps28
    go_wp2_with (first | (go_at_call 76; refine (impl_isTried.calls (n : Int) true _ HT.out).mono ?_; rintro e w5 ⟨rfl, m1, rfl⟩) | ((with_reducible refine gate_dst (N := 9) rfl ?_); refine Kd.R_make (Kd.int .i64) _ 3 rfl (N := 9) rfl 22 _ _ rfl (n : Int) rfl rfl Try.underlying22 (.int .i64 0) 8 gv_info3 rfl (by decide) (by omega) 0 (ok := fun _ => True) (okp := fun _ => True) rfl (fun _ hk => hk) trivial (Int.natCast_nonneg _) (by rw [Int.toNat_natCast]; have := HN.out.2; omega) (Below.refl _ _) (Nat.le_refl _) ?_; intro v9 w5 ho hb hg_ hnew_; clear hg_ hnew_; rw [Int.toNat_natCast] at ho; have hc1 := pw_cell_below hb (show World.cell? _ ⟨w.heap.size, 0, none⟩ = some (.int .i64 (n : Int)) from by simp [go_sem]); obtain ⟨go, cv, ev, gb_, gt_, cc_⟩ := Kd.R_form ho (by rw [List.length_replicate]; exact HN.out.1); rw [List.length_replicate] at ev; subst ev; have hc2 : (w5.alloc (.cells #[.slice (some ⟨go, 0, none⟩) n cv] 22)).cell? ⟨w.heap.size, 0, none⟩ = some (.int .i64 (n : Int)) := Lib.cell?_alloc_some _ hc1; have HM := Aside0.mk ho; have HK := Aside0.mk (show w.heap.size + 1 ≤ w5.heap.size ∧ w.heap.size + 1 ≤ go ∧ go < w5.heap.size from (by have h_ := hb.size; simp at h_ gb_; exact ⟨h_, gb_, gt_⟩)); clear gb_ gt_ cc_; have nB_ := Aside0.mk (below_step (by repeat (first | (with_reducible first | exact HB.out | apply below_alloc | apply pw_below_drewN | apply below_drew1) | exact HB.out)) hb); clear HB ho hb; have HB := nB_; clear nB_) | (go_at_call 78; refine (impl_allLists.callsG n HN.out.1 (by have := HN.out.2; omega) (w5.heap.size + 1) 82 _ (InvD k n w.heap.size (w5.heap.size + 1) w.heap.size w5.heap.size go cv w) _ (enters_of Try.func82 (by kernel_rfl) rfl) ?sb ?st ?cb ?s0).mono ?_; (case sb => simp); (case st => exact fun j W W' => InvD.later (by have := HK.out; omega) (by omega) (by have := HK.out; omega) (by have := HK.out; omega) j W W'); (case cb => exact fun j W v hj hB hI hR => CountByDefect_cb k n w.heap.size (w5.heap.size + 1) w.heap.size w5.heap.size go cv (n ^ n) w c (Nat.le_refl _) HC.out (by have := HK.out; omega) (by have := HK.out; omega) (by have := HK.out; omega) (by have := HK.out; omega) (by have := HK.out; omega) (by have := HK.out; omega) j W v hj hB hI hR); (case s0 => exact ⟨(by repeat (first | (with_reducible first | exact HB.out | apply below_alloc | apply pw_below_drewN | apply below_drew1) | exact HB.out)), hc2, by simp [go_sem], ⟨_, rfl, Kd.R_alloc (Kd.R_lower (Kd.R_flat (fun h => h) HM.out (fun q hq _ => by simp only [Value.ownBlock, Option.some.injEq] at hq; exact hq.symm)) (by simp)) _⟩⟩); rintro e w9 ⟨rfl, hi⟩; have HF := Aside0.mk hi.below_; have hc3 := hi.c4; have HR := Aside0.mk hi.row; clear hi))
    go_ret2
    obtain ⟨o, ho, hr⟩ := HR.out
    have e : o = c := by
      have := HC.out
      rw [ho] at this
      exact Option.some.inj this
    subst e
    exact ⟨_, rfl, Kd.R_mono hr (fun _ _ => trivial), HF.out⟩
theorem wrap_id {x : Int} (h1 : -9223372036854775808 ≤ x) (h2 : x ≤ 9223372036854775807) : wrap64 x = x := by unfold wrap64; omega
theorem wrap_next {i n : Nat} (h : i < n) (hn : n ≤ 4611686018427387904) : wrap64 ((i : Int) + 1) = ((i + 1 : Nat) : Int) := by rw [wrap_id (by omega) (by omega)]; rfl
theorem rd_nat (l : List Int) (i : Nat) : rd l (i : Int) = l.getD i 0 := by unfold rd; rw [Int.toNat_natCast]
theorem drop_getD {l : List Int} {i : Nat} (h : i < l.length) : l.drop i = l.getD i 0 :: l.drop (i + 1) := by
  rw [List.drop_eq_getElem_cons h, List.getD_eq_getElem?_getD, List.getElem?_eq_getElem h]; rfl
/-- A loop that counts up: its state at each count, what is left behind the last one. -/
theorem Ev.up {σ ρ : Type} (n : Nat) (S : Nat → σ) (L : Nat → σ → Int → Option ρ) (r : ρ)
    (hstep : ∀ i, i < n → Ev (fun k => L k (S (i + 1)) ((i + 1 : Nat) : Int)) r → Ev (fun k => L k (S i) (i : Int)) r)
    (hend : Ev (fun k => L k (S n) (n : Int)) r) : ∀ m, m ≤ n → Ev (fun k => L k (S m) (m : Int)) r := by
  intro m hm
  have key : ∀ d m, m + d = n → Ev (fun k => L k (S m) (m : Int)) r := by
    intro d
    induction d with
    | zero => intro m hd; obtain rfl : m = n := by omega
              exact hend
    | succ d ih => intro m hd; exact hstep m (by omega) (ih (m + 1) (by omega))
  exact key (n - m) m (by omega)
theorem Ev.up0 {σ ρ : Type} (n : Nat) (S : Nat → σ) (L : Nat → σ → Int → Option ρ) (r : ρ)
    (hstep : ∀ i, i < n → Ev (fun k => L k (S (i + 1)) ((i + 1 : Nat) : Int)) r → Ev (fun k => L k (S i) (i : Int)) r)
    (hend : Ev (fun k => L k (S n) (n : Int)) r) : Ev (fun k => L k (S 0) 0) r := Ev.up n S L r hstep hend 0 (Nat.zero_le _)
/-- A round that needs no rounds of others. -/
theorem Ev.one {α : Type} {g f : Nat → Option α} {r : α} (k : Ev f r) (h : ∀ k, g (k + 1) = f k) : Ev g r := Ev.step h k
theorem Ev.end_ {α : Type} {g : Nat → Option α} {r : α} (h : ∀ k, g (k + 1) = some r) : Ev g r := Ev.step h (Ev.now r)
theorem Ev.eq {α : Type} {g : Nat → Option α} {r : α} (h : ∀ k, g k = some r) : Ev g r := ⟨0, fun k _ => h k⟩
theorem l1In_eq (a b c : Int) : spec_l1In.f a b c = some (decide (b ≤ a ∧ a ≤ c)) := by
  unfold spec_l1In.f
  split
  · rename_i h; congr 1; rw [Bool.eq_iff_iff]; simp; omega
  · rename_i h; congr 1; rw [Bool.eq_iff_iff]; simp; omega
def Bytes (l : List Int) : Prop := ∀ x ∈ l, 0 ≤ x ∧ x ≤ 255
theorem Bytes.get {l : List Int} (h : Bytes l) (j : Nat) : 0 ≤ l.getD j 0 ∧ l.getD j 0 ≤ 255 := by
  rcases Nat.lt_or_ge j l.length with hj | hj
  · exact h _ (by rw [List.getD_eq_getElem?_getD, List.getElem?_eq_getElem hj]; exact List.getElem_mem hj)
  · rw [List.getD_eq_getElem?_getD, List.getElem?_eq_none hj]; simp
end Go.Proofs.Ytfclfjengfmjaaa.G
namespace ParkT
/-- The first free place among a, a - 1, .., k places back at most. -/
def backF (S : Nat → Bool) : Nat → Nat → Option Nat
  | k, a => if S a = false then some a else match k, a with
    | k + 1, a + 1 => backF S k a
    | _, _ => none
/-- The first free place from a on, of d places. -/
def fwdF (S : Nat → Bool) : Nat → Nat → Option Nat
  | 0, _ => none
  | d + 1, a => if S a = false then some a else fwdF S d (a + 1)
def bplace (N : Nat) (S : Nat → Bool) (k a : Nat) : Option Nat := match backF S k a with
  | some p => some p
  | none => fwdF S (N - a) a
theorem backF_some {S : Nat → Bool} : ∀ {k a p : Nat}, backF S k a = some p → p ≤ a ∧ a ≤ p + k ∧ S p = false ∧ ∀ q, p < q → q ≤ a → S q = true
  | 0, a, p, h => by
    unfold backF at h
    split at h
    · obtain rfl := Option.some.inj h
      exact ⟨Nat.le_refl _, by omega, ‹_›, fun q h1 h2 => by omega⟩
    · simp at h
  | k + 1, 0, p, h => by
    unfold backF at h
    split at h
    · obtain rfl := Option.some.inj h
      exact ⟨Nat.le_refl _, by omega, ‹_›, fun q h1 h2 => by omega⟩
    · simp at h
  | k + 1, a + 1, p, h => by
    unfold backF at h
    split at h
    · obtain rfl := Option.some.inj h
      exact ⟨Nat.le_refl _, by omega, ‹_›, fun q h1 h2 => by omega⟩
    · rename_i hs
      obtain ⟨h1, h2, h3, h4⟩ := backF_some h
      refine ⟨by omega, by omega, h3, fun q hq1 hq2 => ?_⟩
      rcases Nat.lt_or_ge q (a + 1) with h5 | h5
      · exact h4 q hq1 (by omega)
      · have : q = a + 1 := by omega
        rw [this]; simpa using hs
theorem fwdF_some {S : Nat → Bool} : ∀ {d a p : Nat}, fwdF S d a = some p → a ≤ p ∧ p < a + d ∧ S p = false ∧ ∀ q, a ≤ q → q < p → S q = true
  | 0, a, p, h => by simp [fwdF] at h
  | d + 1, a, p, h => by
    unfold fwdF at h
    split at h
    · obtain rfl := Option.some.inj h
      exact ⟨Nat.le_refl _, by omega, ‹_›, fun q h1 h2 => by omega⟩
    · rename_i hs
      obtain ⟨h1, h2, h3, h4⟩ := fwdF_some h
      refine ⟨by omega, by omega, h3, fun q hq1 hq2 => ?_⟩
      rcases Nat.lt_or_ge a q with h5 | h5
      · exact h4 q (by omega) hq2
      · have : q = a := by omega
        rw [this]; simpa using hs
/-- How many of the places a, .., a + d - 1 are taken. -/
def cnt (S : Nat → Bool) : Nat → Nat → Nat
  | 0, _ => 0
  | d + 1, a => (if S a = true then 1 else 0) + cnt S d (a + 1)
def put (S : Nat → Bool) (p : Nat) : Nat → Bool := fun q => decide (q = p) || S q
/-- No more places are taken from any place on. -/
def Dom (N : Nat) (S' S : Nat → Bool) : Prop := ∀ j, j ≤ N → cnt S' (N - j) j ≤ cnt S (N - j) j
theorem Dom.refl (N : Nat) (S : Nat → Bool) : Dom N S S := fun _ _ => Nat.le_refl _
/-- All cars, one behind the other; none where one fails. -/
def driveB (N k : Nat) : (Nat → Bool) → List Nat → Option (List Nat)
  | _, [] => some []
  | S, a :: l => match bplace N S k a with
    | none => none
    | some p => (driveB N k (put S p) l).map (p :: ·)
def fails (l : List (Option Nat)) : Nat := (l.filter fun x => x.isNone).length
end ParkT
namespace Go.Proofs.Ytfclfjengfmjaaa.G
open Go.RowKit Go.Proofs.YtfclfjengfmjaaaW.PrintWords Go.Proofs.YtfclfjengfmjaaaW.PrintLast Go.Proofs.YtfclfjengfmjaaaW.PrintMore
set_option linter.unusedVariables false
set_option linter.unusedSimpArgs false
def valP : Option Nat → Int
  | none => -1
  | some p => p
def occ (x : List Int) (q : Nat) : Bool := decide ((q : Int) ∈ x)
theorem occ_none (x : List Int) : occ (x ++ [-1]) = occ x := by
  funext q
  unfold occ
  have : ¬ ((q : Int) = -1) := by omega
  simp [this]
theorem occ_some (x : List Int) (p : Nat) : occ (x ++ [(p : Int)]) = ParkT.put (occ x) p := by
  funext q
  unfold occ ParkT.put
  have : ((q : Int) = (p : Int)) ↔ q = p := by omega
  simp [this, Bool.or_comm]
theorem l1Has_l0 (x : List Int) (a : Int) (hn : x.length ≤ 4611686018427387904) : ∀ (d i : Nat), i + d = x.length → Ev (fun k => spec_l1Has.l0 k a x (x.length : Int) i) (decide (a ∈ x.drop i)) := by
  intro d
  induction d with
  | zero =>
    intro i hd
    refine Ev.end_ fun k => ?_
    rw [spec_l1Has.l0, if_neg (by omega), List.drop_eq_nil_of_le (by omega)]
    simp
  | succ d ih =>
    intro i hd
    have e1 := drop_getD (l := x) (i := i) (by omega)
    by_cases h : x.getD i 0 = a
    · refine Ev.end_ fun k => ?_
      rw [spec_l1Has.l0, if_pos (by omega), if_pos (by omega), if_pos (by omega), rd_nat, if_pos h, e1, h, decide_eq_true (List.mem_cons_self)]
    · refine Ev.one (f := fun k => spec_l1Has.l0 k a x (x.length : Int) ((i + 1 : Nat) : Int)) ?_ fun k => ?_
      · have := ih (i + 1) (by omega)
        have e : decide (a ∈ x.drop i) = decide (a ∈ x.drop (i + 1)) := by
          rw [e1]
          have : ¬ a = x.getD i 0 := fun e => h e.symm
          simp only [List.mem_cons, this, false_or]
        rw [e]; exact this
      · rw [spec_l1Has.l0, if_pos (by omega), if_pos (by omega), if_pos (by omega), rd_nat, if_neg h, wrap_next (n := x.length) (by omega) hn]
theorem l1Has_ev (x : List Int) (a : Int) (hn : x.length ≤ 4611686018427387904) : Ev (fun k => spec_l1Has.f k x a) (decide (a ∈ x)) := by
  unfold spec_l1Has.f
  have := l1Has_l0 x a hn x.length 0 (by omega)
  simpa using this
def natL (l : List Int) : List Nat := l.map Int.toNat
def taken (x : List Bool) (q : Nat) : Bool := x.getD q false
theorem taken_set {x : List Bool} {p : Nat} (hp : p < x.length) : taken (x.set p true) = ParkT.put (taken x) p := by
  funext q
  show (x.set p true).getD q false = (decide (q = p) || x.getD q false)
  rw [List.getD_eq_getElem?_getD, List.getD_eq_getElem?_getD, List.getElem?_set]
  by_cases e : p = q
  · subst e; simp [hp]
  · have : ¬ q = p := fun h => e h.symm
    simp [e, this]
theorem own_eq (q : List Int) (h : q.length < 17592186044416) : spec_l1Own.f q = some q := by
  unfold spec_l1Own.f
  simp only [Option.bind_some, List.length_nil, Nat.zero_add, h, if_true, List.nil_append]
theorem between_eq (a b c : Int) : impl_between.f a b c = some (decide (b ≤ a ∧ a ≤ c)) := by
  unfold impl_between.f
  by_cases h : a ≥ b
  · rw [if_pos h]; congr 1; simp; omega
  · rw [if_neg h]; congr 1; simp; omega
theorem taken_none (S : Nat) : taken (List.replicate S false) = fun _ => false := by
  funext q
  unfold taken
  rw [List.getD_eq_getElem?_getD, List.getElem?_replicate]
  split <;> rfl
/-- The place of each car that looks back, none for those that fail. -/
def drB (N b : Nat) : (Nat → Bool) → List Nat → List (Option Nat)
  | _, [] => []
  | S, a :: l => match ParkT.bplace N S b a with
    | none => none :: drB N b S l
    | some p => some p :: drB N b (ParkT.put S p) l
theorem drB_len (N b : Nat) : ∀ (l : List Nat) (S : Nat → Bool), (drB N b S l).length = l.length
  | [], _ => rfl
  | a :: l, S => by
    rw [drB]
    cases ParkT.bplace N S b a <;> simp [drB_len N b l]
theorem drB_none {N b : Nat} : ∀ (l : List Nat) (S : Nat → Bool), decide ((-1 : Int) ∈ (drB N b S l).map valP) = (ParkT.driveB N b S l).isNone
  | [], _ => by simp [drB, ParkT.driveB]
  | a :: l, S => by
    rw [drB, ParkT.driveB]
    cases e : ParkT.bplace N S b a with
    | none => simp [valP]
    | some p =>
      have ih := drB_none (N := N) (b := b) l (ParkT.put S p)
      have h1 : ¬ ((-1 : Int) = (p : Int)) := by omega
      simp only [List.map_cons, List.mem_cons, valP, h1, false_or, ih, Option.isNone_map]
theorem backF_zero (S : Nat → Bool) (a : Nat) : ParkT.backF S 0 a = if S a = false then some a else none := by
  rw [ParkT.backF.eq_def]
end Go.Proofs.Ytfclfjengfmjaaa.G
namespace Go.Proofs.Ytfclfjengfmjaaa.G
open Go.RowKit Go.Proofs.YtfclfjengfmjaaaW.PrintWords Go.Proofs.YtfclfjengfmjaaaW.PrintLast Go.Proofs.YtfclfjengfmjaaaW.PrintMore
set_option linter.unusedVariables false
set_option linter.unusedSimpArgs false
section
variable (N b : Nat) (l : List Int)
theorem sp_found (x : List Int) (hx : x.length ≤ 1000) (a : Int) (p : Nat) (q : Int) (i : Nat) (r : List Int) (h : Ev (fun k => spec_loBack.l0 k (N : Int) (b : Int) (x ++ [(p : Int)]) l (l.length : Int) (wrap64 ((i : Int) + 1))) r) :
    Ev (fun k => spec_loBack.l2 k (N : Int) (b : Int) x (p : Int) q l (l.length : Int) (i : Int)) r := by
  have h1 : Ev (fun k => spec_loBack.j4 k (N : Int) (b : Int) x (p : Int) q l (l.length : Int) (i : Int) false) r := Ev.one h fun k => by rw [spec_loBack.j4, if_neg (by decide), if_pos (by omega)]
  refine Ev.one h1 fun k => ?_
  rw [spec_loBack.l2, decide_eq_false (show ¬ (p : Int) < 0 by omega)]
  split <;> rfl
theorem sp_found1 (x : List Int) (hx : x.length ≤ 1000) (a : Int) (p : Nat) (q : Int) (i : Nat) (r : List Int) (h : Ev (fun k => spec_loBack.l0 k (N : Int) (b : Int) (x ++ [(p : Int)]) l (l.length : Int) (wrap64 ((i : Int) + 1))) r) :
    Ev (fun k => spec_loBack.l1 k (N : Int) (b : Int) x a (p : Int) q l (l.length : Int) (i : Int)) r := by
  have h1 : Ev (fun k => spec_loBack.j2 k (N : Int) (b : Int) x a (p : Int) q l (l.length : Int) (i : Int) false) r := Ev.one (sp_found N b l x hx a p a i r h) fun k => by rw [spec_loBack.j2, if_neg (by decide)]
  refine Ev.one h1 fun k => ?_
  rw [spec_loBack.l1, decide_eq_false (show ¬ (p : Int) < 0 by omega)]
  split
  · split <;> rfl
  · rfl
theorem sp_fwd (hN : N ≤ 1000) (x : List Int) (hx : x.length ≤ 1000) (i : Nat) (r : List Int) : ∀ (d a : Nat), a + d = N → Ev (fun k => spec_loBack.l0 k (N : Int) (b : Int) (x ++ [valP (ParkT.fwdF (occ x) d a)]) l (l.length : Int) (wrap64 ((i : Int) + 1))) r →
    Ev (fun k => spec_loBack.l2 k (N : Int) (b : Int) x (-1) (a : Int) l (l.length : Int) (i : Int)) r := by
  intro d
  induction d with
  | zero =>
    intro a ha h
    have h1 : Ev (fun k => spec_loBack.j4 k (N : Int) (b : Int) x (-1) (a : Int) l (l.length : Int) (i : Int) false) r := Ev.one h fun k => by rw [spec_loBack.j4, if_neg (by decide), if_pos (by omega)]; rfl
    exact Ev.one h1 fun k => by rw [spec_loBack.l2, if_neg (by omega)]
  | succ d ih =>
    intro a ha h
    rw [ParkT.fwdF] at h
    refine Ev.step (f := fun k => spec_loBack.j4 k (N : Int) (b : Int) x (-1) (a : Int) l (l.length : Int) (i : Int) true) (fun k => by rw [spec_loBack.l2, if_pos (by omega)]; rfl) ?_
    refine Ev.step (f := fun k => (spec_l1Has.f k x (a : Int)).bind fun t432 => (if t432 = true then (spec_loBack.l2 k (N : Int) (b : Int) x (-1) (wrap64 ((a : Int) + 1)) l (l.length : Int) (i : Int)) else (spec_loBack.l2 k (N : Int) (b : Int) x (a : Int) (wrap64 ((a : Int) + 1)) l (l.length : Int) (i : Int)))) (fun k => by rw [spec_loBack.j4, if_pos rfl]) ?_
    refine Ev.bind (l1Has_ev x _ (by omega)) ?_
    by_cases hh : occ x a = true
    · rw [if_neg (by rw [hh]; simp)] at h
      have e : decide ((a : Int) ∈ x) = true := hh
      simp only [e, if_true]
      rw [wrap_next (n := N) (by omega) (by omega)]
      exact ih (a + 1) (by omega) h
    · rw [if_pos (by simpa using hh)] at h
      have e : decide ((a : Int) ∈ x) = false := by simpa [occ] using hh
      simp only [e, Bool.false_eq_true, if_false]
      exact sp_found N b l x hx (a : Int) a _ i r h
theorem sp_stop (x : List Int) (a : Int) (q : Int) (i : Nat) (r : List Int) (hq : (b : Int) < q ∨ a - q < 0) (ha : 0 ≤ a ∧ a ≤ 100000) (hq2 : 0 ≤ q ∧ q ≤ 100000) (h : Ev (fun k => spec_loBack.l2 k (N : Int) (b : Int) x (-1) a l (l.length : Int) (i : Int)) r) :
    Ev (fun k => spec_loBack.l1 k (N : Int) (b : Int) x a (-1) q l (l.length : Int) (i : Int)) r := by
  have h1 : Ev (fun k => spec_loBack.j2 k (N : Int) (b : Int) x a (-1) q l (l.length : Int) (i : Int) false) r := Ev.one h fun k => by rw [spec_loBack.j2, if_neg (by decide)]
  refine Ev.one h1 fun k => ?_
  rw [spec_loBack.l1, wrap_id (x := a - q) (by omega) (by omega)]
  by_cases c : q ≤ (b : Int)
  · rw [if_pos c, if_neg (by omega)]
  · rw [if_neg c]
theorem sp_back (hb : b ≤ 1000) (x : List Int) (hx : x.length ≤ 1000) (a : Nat) (ha : a ≤ 1000) (i : Nat) (r : List Int) : ∀ (d q : Nat), q + d = b → q ≤ a →
    (match ParkT.backF (occ x) d (a - q) with | some p => Ev (fun k => spec_loBack.l0 k (N : Int) (b : Int) (x ++ [(p : Int)]) l (l.length : Int) (wrap64 ((i : Int) + 1))) r | none => Ev (fun k => spec_loBack.l2 k (N : Int) (b : Int) x (-1) (a : Int) l (l.length : Int) (i : Int)) r) →
    Ev (fun k => spec_loBack.l1 k (N : Int) (b : Int) x (a : Int) (-1) (q : Int) l (l.length : Int) (i : Int)) r := by
  have step : ∀ (q : Nat), q ≤ b → q ≤ a → (if occ x (a - q) = true then Ev (fun k => spec_loBack.l1 k (N : Int) (b : Int) x (a : Int) (-1) ((q + 1 : Nat) : Int) l (l.length : Int) (i : Int)) r else Ev (fun k => spec_loBack.l0 k (N : Int) (b : Int) (x ++ [((a - q : Nat) : Int)]) l (l.length : Int) (wrap64 ((i : Int) + 1))) r) →
      Ev (fun k => spec_loBack.l1 k (N : Int) (b : Int) x (a : Int) (-1) (q : Int) l (l.length : Int) (i : Int)) r := by
    intro q hq hqa h
    have hs : wrap64 ((a : Int) - (q : Int)) = ((a - q : Nat) : Int) := by rw [wrap_id (by omega) (by omega)]; omega
    refine Ev.step (f := fun k => spec_loBack.j2 k (N : Int) (b : Int) x (a : Int) (-1) (q : Int) l (l.length : Int) (i : Int) true) (fun k => by rw [spec_loBack.l1, if_pos (by omega), hs, if_pos (by omega)]; rfl) ?_
    refine Ev.step (f := fun k => (spec_l1Has.f k x ((a - q : Nat) : Int)).bind fun t431 => (if t431 = true then (spec_loBack.l1 k (N : Int) (b : Int) x (a : Int) (-1) (wrap64 ((q : Int) + 1)) l (l.length : Int) (i : Int)) else (spec_loBack.l1 k (N : Int) (b : Int) x (a : Int) ((a - q : Nat) : Int) (wrap64 ((q : Int) + 1)) l (l.length : Int) (i : Int)))) (fun k => by rw [spec_loBack.j2, if_pos rfl, hs]) ?_
    refine Ev.bind (l1Has_ev x _ (by omega)) ?_
    by_cases hh : occ x (a - q) = true
    · rw [if_pos hh] at h
      have e : decide (((a - q : Nat) : Int) ∈ x) = true := hh
      simp only [e, if_true]
      rw [wrap_next (n := b + 1) (by omega) (by omega)]
      exact h
    · rw [if_neg hh] at h
      have e : decide (((a - q : Nat) : Int) ∈ x) = false := by simpa [occ] using hh
      simp only [e, Bool.false_eq_true, if_false]
      exact sp_found1 N b l x hx (a : Int) (a - q) _ i r h
  intro d
  induction d with
  | zero =>
    intro q hq hqa h
    refine step q (by omega) hqa ?_
    rw [backF_zero] at h
    cases hh : occ x (a - q) with
    | true =>
      simp only [hh, Bool.true_eq_false, if_false] at h
      simp only [if_true]
      exact sp_stop N b l x (a : Int) _ i r (by omega) (by omega) (by omega) h
    | false =>
      simp only [hh, if_true] at h
      simp only [Bool.false_eq_true, if_false]
      exact h
  | succ d ih =>
    intro q hq hqa h
    refine step q (by omega) hqa ?_
    rw [ParkT.backF.eq_def] at h
    cases hh : occ x (a - q) with
    | true =>
      simp only [hh, Bool.true_eq_false, if_false] at h
      simp only [if_true]
      by_cases e : a = q
      · have e0 : a - q = 0 := by omega
        simp only [e0] at h
        exact sp_stop N b l x (a : Int) _ i r (by omega) (by omega) (by omega) h
      · obtain ⟨c, hc⟩ : ∃ c, a - q = c + 1 := ⟨a - q - 1, by omega⟩
        simp only [hc] at h
        have e1 : a - (q + 1) = c := by omega
        refine ih (q + 1) (by omega) (by omega) ?_
        rw [e1]
        exact h
    | false =>
      simp only [hh, if_true] at h
      simp only [Bool.false_eq_true, if_false]
      exact h
theorem sp_car (hN : N ≤ 1000) (hb : b ≤ 1000) (x : List Int) (hx : x.length ≤ 1000) (a : Nat) (ha : a < N) (i : Nat) (r : List Int) (h : Ev (fun k => spec_loBack.l0 k (N : Int) (b : Int) (x ++ [valP (ParkT.bplace N (occ x) b a)]) l (l.length : Int) (wrap64 ((i : Int) + 1))) r) :
    Ev (fun k => spec_loBack.l1 k (N : Int) (b : Int) x (a : Int) (-1) 0 l (l.length : Int) (i : Int)) r := by
  refine sp_back N b l hb x hx a (by omega) i r b 0 (by omega) (by omega) ?_
  rw [Nat.sub_zero]
  unfold ParkT.bplace at h
  cases e : ParkT.backF (occ x) b a with
  | some p => rw [e] at h; exact h
  | none =>
    rw [e] at h
    exact sp_fwd N b l hN x hx i r (N - a) a (by omega) h
theorem sp_lo_l0 (hN : N ≤ 1000) (hb : b ≤ 1000) (hl : l.length ≤ 900) (hr : ∀ j, j < l.length → 0 ≤ l.getD j 0 ∧ l.getD j 0 < N) : ∀ (d i : Nat) (x : List Int), i + d = l.length → x.length ≤ i → Ev (fun k => spec_loBack.l0 k (N : Int) (b : Int) x l (l.length : Int) (i : Int)) (x ++ (drB N b (occ x) (natL (l.drop i))).map valP) := by
  intro d
  induction d with
  | zero =>
    intro i x hd hx
    refine Ev.end_ fun k => ?_
    rw [spec_loBack.l0, if_neg (by omega), List.drop_eq_nil_of_le (by omega)]
    simp [natL, drB]
  | succ d ih =>
    intro i x hd hx
    have hi : i < l.length := by omega
    have hri := hr i hi
    obtain ⟨a, ha⟩ : ∃ a : Nat, l.getD i 0 = a := ⟨(l.getD i 0).toNat, by omega⟩
    refine Ev.one (f := fun k => spec_loBack.l1 k (N : Int) (b : Int) x (a : Int) (-1) 0 l (l.length : Int) (i : Int)) ?_ fun k => by rw [spec_loBack.l0, if_pos (by omega), if_pos (by omega), if_pos (by omega), rd_nat, ha]
    refine sp_car N b l hN hb x (by omega) a (by omega) i _ ?_
    rw [wrap_next (n := l.length) hi (by omega)]
    have := ih (i + 1) (x ++ [valP (ParkT.bplace N (occ x) b a)]) (by omega) (by simp; omega)
    have e : x ++ (drB N b (occ x) (natL (l.drop i))).map valP = x ++ [valP (ParkT.bplace N (occ x) b a)] ++ (drB N b (occ (x ++ [valP (ParkT.bplace N (occ x) b a)])) (natL (l.drop (i + 1)))).map valP := by
      rw [drop_getD hi, ha]
      show x ++ (drB N b (occ x) ((a : Int).toNat :: natL (l.drop (i + 1)))).map valP = _
      rw [Int.toNat_natCast, drB]
      cases hf : ParkT.bplace N (occ x) b a with
      | none => simp [valP, occ_none]
      | some p => simp [valP, occ_some]
    rw [e]
    exact this
theorem loBack_ev (hN : N ≤ 1000) (hb : b ≤ 1000) (hl : l.length ≤ 900) (hr : ∀ j, j < l.length → 0 ≤ l.getD j 0 ∧ l.getD j 0 < N) : Ev (fun k => spec_loBack.f k l (N : Int) (b : Int)) ((drB N b (fun _ => false) (natL l)).map valP) := by
  unfold spec_loBack.f
  have := sp_lo_l0 N b l hN hb hl hr l.length 0 [] (by omega) (by simp)
  have eo : occ [] = fun _ => false := by funext q; simp [occ]
  rw [eo] at this
  simpa using this
theorem im_put (x : List Bool) (o : List Int) (ho : o.length ≤ 1000) (p : Nat) (hp : p < x.length) (hxN : x.length = N) (a : Int) (i : Nat) (r : List Int × Bool) (h : Ev (fun k => impl_driveBack.l0 k (N : Int) (b : Int) (x.set p true) (o ++ [(p : Int)]) l (l.length : Int) (wrap64 ((i : Int) + 1))) r) :
    Ev (fun k => impl_driveBack.j3 k (N : Int) (b : Int) x o a (p : Int) l (l.length : Int) (i : Int) false) r := by
  refine Ev.one h fun k => ?_
  rw [impl_driveBack.j3, if_neg (by decide), if_neg (by omega), if_pos (by omega), if_pos (by omega), if_pos (by omega), Int.toNat_natCast]
theorem im_fwd (hN : N ≤ 1000) (x : List Bool) (hx : x.length = N) (o : List Int) (ho : o.length ≤ 1000) (i : Nat) (r : List Int × Bool) : ∀ (d a : Nat), a + d = N → (match ParkT.fwdF (taken x) d a with | none => r = ([], false) | some p => Ev (fun k => impl_driveBack.l0 k (N : Int) (b : Int) (x.set p true) (o ++ [(p : Int)]) l (l.length : Int) (wrap64 ((i : Int) + 1))) r) →
    Ev (fun k => impl_driveBack.l2 k (N : Int) (b : Int) x o (a : Int) l (l.length : Int) (i : Int)) r := by
  intro d
  induction d with
  | zero =>
    intro a ha h
    rw [ParkT.fwdF] at h
    subst h
    exact Ev.end_ fun k => by rw [impl_driveBack.l2, if_neg (by omega), if_pos (by omega)]
  | succ d ih =>
    intro a ha h
    rw [ParkT.fwdF] at h
    have hrd : rdOf false x (a : Int) = taken x a := by simp [rdOf, taken]
    by_cases hh : taken x a = true
    · rw [if_neg (by rw [hh]; simp)] at h
      refine Ev.one (ih (a + 1) (by omega) h) fun k => ?_
      rw [impl_driveBack.l2, if_pos (by omega), if_pos (by omega), if_pos (by omega), if_pos (by rw [hrd]; exact hh), wrap_next (n := N) (by omega) (by omega)]
    · rw [if_pos (by simpa using hh)] at h
      simp only at h
      refine Ev.one h fun k => ?_
      rw [impl_driveBack.l2, if_pos (by omega), if_pos (by omega), if_pos (by omega), if_neg (by rw [hrd]; exact hh), if_neg (by omega), if_pos (by omega), Int.toNat_natCast]
theorem im_none (x : List Bool) (o : List Int) (a to_ : Int) (i : Nat) (r : List Int × Bool) (ha : 0 ≤ a ∧ a ≤ 1000) (hb : b ≤ 1000) (ht : to_ < 0 ∨ to_ < a - b) (h : Ev (fun k => impl_driveBack.l2 k (N : Int) (b : Int) x o a l (l.length : Int) (i : Int)) r) :
    Ev (fun k => impl_driveBack.l1 k (N : Int) (b : Int) x o a to_ l (l.length : Int) (i : Int)) r := by
  have h1 : Ev (fun k => impl_driveBack.j3 k (N : Int) (b : Int) x o a to_ l (l.length : Int) (i : Int) true) r := Ev.one h fun k => by rw [impl_driveBack.j3, if_pos rfl]
  have hs : wrap64 (a - (b : Int)) = a - (b : Int) := wrap_id (by omega) (by omega)
  have h2 : Ev (fun k => impl_driveBack.j2 k (N : Int) (b : Int) x o a to_ l (l.length : Int) (i : Int)) r := by
    refine Ev.one h1 fun k => ?_
    rw [impl_driveBack.j2, hs]
    by_cases c : to_ < 0
    · rw [if_pos c]
    · rw [if_neg c, decide_eq_true (show to_ < a - (b : Int) by omega)]
  refine Ev.one h2 fun k => ?_
  rw [impl_driveBack.l1, hs]
  by_cases c : to_ ≥ 0
  · rw [if_pos c, if_neg (by omega)]
  · rw [if_neg c]
theorem im_back (hb : b ≤ 1000) (x : List Bool) (hx : x.length = N) (hN : N ≤ 1000) (o : List Int) (ho : o.length ≤ 1000) (a : Nat) (ha : a < N) (i : Nat) (r : List Int × Bool) : ∀ (d q : Nat), q + d = b → q ≤ a →
    (match ParkT.backF (taken x) d (a - q) with | some p => Ev (fun k => impl_driveBack.l0 k (N : Int) (b : Int) (x.set p true) (o ++ [(p : Int)]) l (l.length : Int) (wrap64 ((i : Int) + 1))) r | none => Ev (fun k => impl_driveBack.l2 k (N : Int) (b : Int) x o (a : Int) l (l.length : Int) (i : Int)) r) →
    Ev (fun k => impl_driveBack.l1 k (N : Int) (b : Int) x o (a : Int) ((a - q : Nat) : Int) l (l.length : Int) (i : Int)) r := by
  have hs : wrap64 ((a : Int) - (b : Int)) = (a : Int) - (b : Int) := wrap_id (by omega) (by omega)
  have step : ∀ (q : Nat), q ≤ b → q ≤ a → (if taken x (a - q) = true then Ev (fun k => impl_driveBack.l1 k (N : Int) (b : Int) x o (a : Int) (((a - q : Nat) : Int) - 1) l (l.length : Int) (i : Int)) r else Ev (fun k => impl_driveBack.l0 k (N : Int) (b : Int) (x.set (a - q) true) (o ++ [((a - q : Nat) : Int)]) l (l.length : Int) (wrap64 ((i : Int) + 1))) r) →
      Ev (fun k => impl_driveBack.l1 k (N : Int) (b : Int) x o (a : Int) ((a - q : Nat) : Int) l (l.length : Int) (i : Int)) r := by
    intro q hq hqa h
    have hrd : rdOf false x ((a - q : Nat) : Int) = taken x (a - q) := by simp [rdOf, taken]
    by_cases hh : taken x (a - q) = true
    · rw [if_pos hh] at h
      refine Ev.one h fun k => ?_
      rw [impl_driveBack.l1, hs, if_pos (by omega), if_pos (by omega), if_pos (by omega), if_pos (by omega), if_pos (by rw [hrd]; exact hh), wrap_id (by omega) (by omega)]
    · rw [if_neg hh] at h
      have h2 : Ev (fun k => impl_driveBack.j2 k (N : Int) (b : Int) x o (a : Int) ((a - q : Nat) : Int) l (l.length : Int) (i : Int)) r := by
        refine Ev.one (im_put N b l x o ho (a - q) (by omega) hx (a : Int) i r h) fun k => ?_
        rw [impl_driveBack.j2, hs, if_neg (by omega), decide_eq_false (show ¬ ((a - q : Nat) : Int) < (a : Int) - (b : Int) by omega)]
      refine Ev.one h2 fun k => ?_
      rw [impl_driveBack.l1, hs, if_pos (by omega), if_pos (by omega), if_pos (by omega), if_pos (by omega), if_neg (by rw [hrd]; exact hh)]
  intro d
  induction d with
  | zero =>
    intro q hq hqa h
    refine step q (by omega) hqa ?_
    rw [backF_zero] at h
    cases hh : taken x (a - q) with
    | true =>
      simp only [hh, Bool.true_eq_false, if_false] at h
      simp only [if_true]
      exact im_none N b l x o (a : Int) _ i r (by omega) hb (by omega) h
    | false =>
      simp only [hh, if_true] at h
      simp only [Bool.false_eq_true, if_false]
      exact h
  | succ d ih =>
    intro q hq hqa h
    refine step q (by omega) hqa ?_
    rw [ParkT.backF.eq_def] at h
    cases hh : taken x (a - q) with
    | true =>
      simp only [hh, Bool.true_eq_false, if_false] at h
      simp only [if_true]
      by_cases e : a = q
      · have e0 : a - q = 0 := by omega
        simp only [e0] at h
        exact im_none N b l x o (a : Int) _ i r (by omega) hb (by omega) h
      · obtain ⟨c, hc⟩ : ∃ c, a - q = c + 1 := ⟨a - q - 1, by omega⟩
        simp only [hc] at h
        have e1 : a - (q + 1) = c := by omega
        have := ih (q + 1) (by omega) (by omega) (by rw [e1]; exact h)
        rw [show (((a - q : Nat) : Int) - 1) = ((a - (q + 1) : Nat) : Int) by omega]
        exact this
    | false =>
      simp only [hh, if_true] at h
      simp only [Bool.false_eq_true, if_false]
      exact h
/-- What the program's drive answers. -/
def outB : Option (List Nat) → List Int → List Int × Bool
  | none, _ => ([], false)
  | some L, o => (o ++ L.map fun (p : Nat) => (p : Int), true)
theorem im_lo_l0 (hN : N ≤ 1000) (hb : b ≤ 1000) (hl : l.length ≤ 900) (hr : ∀ j, j < l.length → 0 ≤ l.getD j 0 ∧ l.getD j 0 < N) : ∀ (d i : Nat) (x : List Bool) (o : List Int), i + d = l.length → x.length = N → o.length ≤ i → Ev (fun k => impl_driveBack.l0 k (N : Int) (b : Int) x o l (l.length : Int) (i : Int)) (outB (ParkT.driveB N b (taken x) (natL (l.drop i))) o) := by
  intro d
  induction d with
  | zero =>
    intro i x o hd hx ho
    refine Ev.end_ fun k => ?_
    rw [impl_driveBack.l0, if_neg (by omega), List.drop_eq_nil_of_le (by omega)]
    simp [natL, ParkT.driveB, outB]
  | succ d ih =>
    intro i x o hd hx ho
    have hi : i < l.length := by omega
    have hri := hr i hi
    obtain ⟨a, ha⟩ : ∃ a : Nat, l.getD i 0 = a := ⟨(l.getD i 0).toNat, by omega⟩
    refine Ev.one (f := fun k => impl_driveBack.l1 k (N : Int) (b : Int) x o (a : Int) (a : Int) l (l.length : Int) (i : Int)) ?_ fun k => by rw [impl_driveBack.l0, if_pos (by omega), if_pos (by omega), if_pos (by omega), rd_nat, ha]
    have e0 : natL (l.drop i) = a :: natL (l.drop (i + 1)) := by
      rw [drop_getD hi, ha]
      show (a : Int).toNat :: natL (l.drop (i + 1)) = _
      rw [Int.toNat_natCast]
    rw [e0, ParkT.driveB]
    have next : ∀ p, p < N → Ev (fun k => impl_driveBack.l0 k (N : Int) (b : Int) (x.set p true) (o ++ [(p : Int)]) l (l.length : Int) (wrap64 ((i : Int) + 1))) (outB ((ParkT.driveB N b (ParkT.put (taken x) p) (natL (l.drop (i + 1)))).map (p :: ·)) o) := by
      intro p hp
      have := ih (i + 1) (x.set p true) (o ++ [(p : Int)]) (by omega) (by simpa using hx) (by simp; omega)
      rw [taken_set (by omega)] at this
      rw [wrap_next (n := l.length) hi (by omega)]
      cases hL : ParkT.driveB N b (ParkT.put (taken x) p) (natL (l.drop (i + 1))) with
      | none => rw [hL] at this; exact this
      | some L =>
        rw [hL] at this
        simpa [outB] using this
    have hback := im_back N b l hb x hx hN o (by omega) a (by omega) i (outB (match ParkT.bplace N (taken x) b a with | none => none | some p => (ParkT.driveB N b (ParkT.put (taken x) p) (natL (l.drop (i + 1)))).map (p :: ·)) o) b 0 (by omega) (by omega)
    rw [Nat.sub_zero] at hback
    refine hback ?_
    unfold ParkT.bplace
    cases e : ParkT.backF (taken x) b a with
    | some p =>
      have hp := ParkT.backF_some e
      exact next p (by omega)
    | none =>
      simp only
      refine im_fwd N b l hN x hx o (by omega) i _ (N - a) a (by omega) ?_
      cases hf : ParkT.fwdF (taken x) (N - a) a with
      | none => rfl
      | some p =>
        have hp := ParkT.fwdF_some hf
        exact next p (by omega)
theorem driveBack_ev (hN : N ≤ 1000) (hb : b ≤ 1000) (hl : l.length ≤ 900) (hr : ∀ j, j < l.length → 0 ≤ l.getD j 0 ∧ l.getD j 0 < N) : Ev (fun k => impl_driveBack.f k l (N : Int) (b : Int)) (outB (ParkT.driveB N b (fun _ => false) (natL l)) []) := by
  unfold impl_driveBack.f
  simp only [show (0 : Int) ≤ (N : Int) by omega, Int.toNat_natCast, show N ≤ 281474976710656 by omega, if_true]
  have := im_lo_l0 N b l hN hb hl hr l.length 0 (List.replicate N false) [] (by omega) (by simp) (by simp)
  rw [taken_none] at this
  simpa using this
end
end Go.Proofs.Ytfclfjengfmjaaa.G
namespace Go.Proofs.Ytfclfjengfmjaaa.G
set_option linter.unusedVariables false
set_option linter.unusedSimpArgs false
/-- f 0 + .. + f (m - 1) -/
def sumTo (f : Nat → Nat) : Nat → Nat
  | 0 => 0
  | m + 1 => sumTo f m + f m
def b2n (b : Bool) : Nat := if b = true then 1 else 0
end Go.Proofs.Ytfclfjengfmjaaa.G
namespace Go.Proofs.Ytfclfjengfmjaaa.G
open Go.RowKit Go.Proofs.YtfclfjengfmjaaaW.PrintWords Go.Proofs.YtfclfjengfmjaaaW.PrintLast Go.Proofs.YtfclfjengfmjaaaW.PrintMore
set_option linter.unusedVariables false
set_option linter.unusedSimpArgs false
theorem Ev.same {α : Type} {g f : Nat → Option α} {r : α} (h : ∀ k, g k = f k) (e : Ev f r) : Ev g r := by
  have : g = f := funext h
  rw [this]; exact e
def allL (n : Nat) : Nat → List Int → List (List Int)
  | 0, p => [p]
  | d + 1, p => (List.range n).flatMap fun (x : Nat) => allL n d (p ++ [(x : Int)])
theorem flat_len {α : Type} (f : Nat → List α) (M : Nat) (h : ∀ x, (f x).length = M) : ∀ q, ((List.range q).flatMap f).length = q * M
  | 0 => by simp
  | q + 1 => by
    rw [List.range_succ, List.flatMap_append, List.length_append, flat_len f M h q, Nat.add_mul]
    simp [h]
theorem allL_len (n : Nat) : ∀ (d : Nat) (p : List Int), (allL n d p).length = n ^ d
  | 0, p => by simp [allL]
  | d + 1, p => by
    rw [allL, flat_len _ (n ^ d) (fun x => allL_len n d _), Nat.pow_succ, Nat.mul_comm]
theorem flat_succ {α : Type} (f : Nat → List α) (q : Nat) : (List.range (q + 1)).flatMap f = (List.range q).flatMap f ++ f q := by
  rw [List.range_succ, List.flatMap_append]; simp
theorem pow_small {n d : Nat} (hn : n ≤ 5) (hd : d ≤ 5) : n ^ d ≤ 3125 := by
  have h1 : n ^ d ≤ 5 ^ d := Nat.pow_le_pow_left hn d
  have h2 : 5 ^ d ≤ 5 ^ 5 := Nat.pow_le_pow_right (by omega) hd
  have : (5 : Nat) ^ 5 = 3125 := by decide
  omega
theorem loAll_ev (n : Nat) (hn : n ≤ 5) : ∀ (d : Nat) (p : List Int), p.length + d = n → Ev (fun k => spec_loAll.f k p (n : Int)) (allL n d p) := by
  intro d
  induction d with
  | zero =>
    intro p hp
    refine Ev.end_ fun k => ?_
    rw [spec_loAll.f, if_pos (by omega), own_eq p (by omega), Option.bind_some]
    rfl
  | succ d ih =>
    intro p hp
    have hlp : ∀ x, (allL n d (p ++ [((x : Nat) : Int)])).length = n ^ d := fun x => allL_len n d _
    have hM := pow_small hn (show d ≤ 5 by omega)
    have hup := Ev.up0 n (fun q => (List.range q).flatMap fun (x : Nat) => allL n d (p ++ [(x : Int)])) (fun k s q => spec_loAll.l0 k p (n : Int) s q) (allL n (d + 1) p) (fun i hi h => ?_) (Ev.end_ fun k => ?_)
    · refine Ev.one hup fun k => ?_
      rw [spec_loAll.f, if_neg (by omega)]
      rfl
    · refine Ev.step (f := fun k => (spec_loAll.f k (p ++ [(i : Int)]) (n : Int)).bind fun t424 => (if ((List.range i).flatMap fun (x : Nat) => allL n d (p ++ [(x : Int)])).length + t424.length < 5864062014805 then (spec_loAll.l0 k p (n : Int) (((List.range i).flatMap fun (x : Nat) => allL n d (p ++ [(x : Int)])) ++ t424) (wrap64 ((i : Int) + 1))) else none)) (fun k => by
        rw [spec_loAll.l0, if_pos (by omega), own_eq p (by omega), Option.bind_some, if_pos (by omega)]) ?_
      refine Ev.bind (ih (p ++ [(i : Int)]) (by simp; omega)) ?_
      have hb : i * n ^ d ≤ 5 * 3125 := Nat.mul_le_mul (by omega) hM
      rw [wrap_next (n := n) hi (by omega)]
      simp only [show ((List.range i).flatMap fun (x : Nat) => allL n d (p ++ [(x : Int)])).length + (allL n d (p ++ [(i : Int)])).length < 5864062014805 by rw [flat_len _ (n ^ d) hlp, hlp]; omega, if_true]
      rw [flat_succ] at h
      exact h
    · rw [spec_loAll.l0, if_neg (by omega)]
      rfl
theorem digI_front (n : Nat) (hn : 0 < n) (x : Nat) (hx : x < n) : ∀ (m j : Nat), j < n ^ m → digI n (m + 1) (x * n ^ m + j) = (x : Int) :: digI n m j
  | 0, j, hj => by
    rw [Nat.pow_zero] at hj
    obtain rfl : j = 0 := by omega
    simp [digI, Nat.mod_eq_of_lt hx]
  | m + 1, j, hj => by
    have hj2 : j / n < n ^ m := by rw [Nat.div_lt_iff_lt_mul hn]; exact Nat.pow_succ .. ▸ hj
    have e1 : (x * n ^ (m + 1) + j) / n = x * n ^ m + j / n := by
      rw [Nat.pow_succ, ← Nat.mul_assoc, Nat.mul_comm _ n, Nat.mul_add_div hn]
    have e2 : (x * n ^ (m + 1) + j) % n = j % n := by
      rw [Nat.pow_succ, ← Nat.mul_assoc, Nat.mul_comm _ n, Nat.mul_add_mod]
    rw [digI, e1, e2, digI_front n hn x hx m (j / n) hj2, digI]
    rfl
theorem range_mul {α : Type} (f : Nat → α) (M : Nat) : ∀ (n : Nat), (List.range (n * M)).map f = (List.range n).flatMap fun x => (List.range M).map fun j => f (x * M + j)
  | 0 => by simp
  | n + 1 => by
    rw [Nat.add_mul, Nat.one_mul, List.range_add, List.map_append, range_mul f M n, flat_succ, List.map_map]
    rfl
theorem flat_congr {α : Type} (f g : Nat → List α) : ∀ (n : Nat), (∀ x, x < n → f x = g x) → (List.range n).flatMap f = (List.range n).flatMap g
  | 0, _ => rfl
  | n + 1, h => by rw [flat_succ, flat_succ, flat_congr f g n (fun x hx => h x (by omega)), h n (by omega)]
theorem allL_eq (n : Nat) (hn : 0 < n) : ∀ (d : Nat) (p : List Int), allL n d p = (List.range (n ^ d)).map fun j => p ++ digI n d j
  | 0, p => by simp [allL, digI, List.range_succ]
  | d + 1, p => by
    rw [allL, Nat.pow_succ, Nat.mul_comm, range_mul]
    refine flat_congr _ _ n fun x hx => ?_
    rw [allL_eq n hn d]
    refine List.map_congr_left fun j hj => ?_
    rw [digI_front n hn x hx d j (List.mem_range.1 hj)]
    simp
theorem digI_mem (n : Nat) (hn : 0 < n) : ∀ (m q : Nat), ∀ x ∈ digI n m q, 0 ≤ x ∧ x < (n : Int)
  | 0, q, x, h => by simp [digI] at h
  | m + 1, q, x, h => by
    rw [digI] at h
    rcases List.mem_append.1 h with h | h
    · exact digI_mem n hn m _ x h
    · rw [List.mem_singleton] at h
      have := Nat.mod_lt q hn
      omega
theorem digI_get (n : Nat) (hn : 0 < n) (m q : Nat) (j : Nat) (hj : j < (digI n m q).length) : 0 ≤ (digI n m q).getD j 0 ∧ (digI n m q).getD j 0 < (n : Int) := by
  have := digI_mem n hn m q _ (List.getElem_mem hj)
  rw [List.getD_eq_getElem?_getD, List.getElem?_eq_getElem hj]
  exact this
/-- Whether the j-th list parks. -/
def okB (n b j : Nat) : Bool := (ParkT.driveB n b (fun _ => false) (natL (digI n n j))).isSome
def cval (n b j : Nat) : Nat := sumTo (fun i => b2n (okB n b i)) j
theorem cval_le (n b : Nat) : ∀ j, cval n b j ≤ j
  | 0 => by simp [cval, sumTo]
  | j + 1 => by
    have h := cval_le n b j
    unfold cval at h ⊢
    rw [sumTo]
    have : b2n (okB n b j) ≤ 1 := by unfold b2n; split <;> omega
    omega
theorem cval_succ (n b j : Nat) : cval n b (j + 1) = cval n b j + b2n (okB n b j) := rfl
theorem outB_ok (o : Option (List Nat)) : (outB o []).2 = o.isSome := by cases o <;> rfl
theorem cntB_ev (n b : Nat) (hn : 1 ≤ n) (hn5 : n ≤ 5) (hb : b ≤ 1000) : ∀ j, j ≤ 100000 → Ev (fun k => cntB k n (b : Int) j) ((cval n b j : Nat) : Int)
  | 0, _ => Ev.eq fun k => rfl
  | j + 1, hj => by
    have ih := cntB_ev n b hn hn5 hb j (by omega)
    have hd := driveBack_ev n b (digI n n j) (by omega) hb (by rw [digI_len]; omega) (digI_get n (by omega) n j)
    have hle := cval_le n b j
    refine Ev.same (f := fun k => (cntB k n (b : Int) j).bind fun c => (impl_driveBack.f k (digI n n j) (n : Int) (b : Int)).bind fun r => some (if r.2 = true then wrap64 (c + 1) else c)) (fun k => rfl) ?_
    refine Ev.bind ih (Ev.bind hd ?_)
    rw [outB_ok, cval_succ]
    unfold b2n
    show Ev _ _
    cases h : okB n b j with
    | true =>
      unfold okB at h
      simp only [h, if_true]
      rw [wrap_next (n := 100001) (by omega) (by omega)]
      exact Ev.now _
    | false =>
      unfold okB at h
      simp only [h, Bool.false_eq_true, if_false]
      exact Ev.now _
theorem spec_CountBack_l0 (n b : Nat) (hn : 1 ≤ n) (hn5 : n ≤ 5) (hb : b ≤ 1000) (LL : List (List Int)) (hL : LL = (List.range (n ^ n)).map fun j => digI n n j) : ∀ (d j : Nat), j + d = n ^ n → Ev (fun k => spec_CountBack.l0 k (n : Int) (b : Int) ((cval n b j : Nat) : Int) LL (LL.length : Int) (j : Int)) (((cval n b (n ^ n) : Nat) : Int), true) := by
  have hlen : LL.length = n ^ n := by rw [hL]; simp
  have hM := pow_small hn5 hn5
  intro d
  induction d with
  | zero =>
    intro j hd
    obtain rfl : j = n ^ n := by omega
    refine Ev.end_ fun k => ?_
    rw [spec_CountBack.l0, if_neg (by omega)]
  | succ d ih =>
    intro j hd
    have hd2 := loBack_ev n b (digI n n j) (by omega) hb (by rw [digI_len]; omega) (digI_get n (by omega) n j)
    have hrd : rd_L3 LL (j : Int) = digI n n j := by
      unfold rd_L3
      rw [Int.toNat_natCast, hL]
      first
      | rw [List.getD_eq_getElem?_getD, List.getElem?_map, List.getElem?_range (by omega)]; rfl
      | (simp; omega)
    have hle := cval_le n b j
    refine Ev.step (f := fun k => (spec_loBack.f k (digI n n j) (n : Int) (b : Int)).bind fun t442 => ((spec_l1Has.f k t442 (-1)).bind fun t445 => (if t445 = true then (spec_CountBack.l0 k (n : Int) (b : Int) ((cval n b j : Nat) : Int) LL (LL.length : Int) (wrap64 ((j : Int) + 1))) else (spec_CountBack.l0 k (n : Int) (b : Int) (wrap64 (((cval n b j : Nat) : Int) + 1)) LL (LL.length : Int) (wrap64 ((j : Int) + 1)))))) (fun k => by
      rw [spec_CountBack.l0, if_pos (by omega), if_pos (by omega), if_pos (by omega), hrd]) ?_
    refine Ev.bind hd2 ?_
    refine Ev.bind (l1Has_ev _ _ (by rw [List.length_map, drB_len]; simp [natL, digI_len]; omega)) ?_
    rw [drB_none, wrap_next (n := n ^ n) (by omega) (by omega)]
    have h1 := ih (j + 1) (by omega)
    rw [cval_succ] at h1
    cases hok : okB n b j with
    | true =>
      rw [hok] at h1
      unfold okB at hok
      rw [show (ParkT.driveB n b (fun _ => false) (natL (digI n n j))).isNone = false by
        cases hx : ParkT.driveB n b (fun _ => false) (natL (digI n n j)) with
        | none => rw [hx] at hok; cases hok
        | some L => rfl]
      simp only [Bool.false_eq_true, if_false]
      rw [wrap_next (n := n ^ n + 1) (by omega) (by omega)]
      exact h1
    | false =>
      rw [hok] at h1
      unfold okB at hok
      rw [show (ParkT.driveB n b (fun _ => false) (natL (digI n n j))).isNone = true by
        cases hx : ParkT.driveB n b (fun _ => false) (natL (digI n n j)) with
        | none => rfl
        | some L => rw [hx] at hok; cases hok]
      simp only [if_true]
      exact h1
def cbP (a0 a1 : Int) : Int × Bool := if 1 ≤ a0 ∧ a0 ≤ 5 then (if 0 ≤ a1 ∧ a1 ≤ 8 then (((cval a0.toNat a1.toNat (a0.toNat ^ a0.toNat) : Nat) : Int), true) else (0, false)) else (0, false)
theorem isTried_eq (a0 : Int) : impl_isTried.f a0 = some (decide (1 ≤ a0 ∧ a0 ≤ 5)) := by unfold impl_isTried.f; rw [between_eq]; rfl
theorem isBack_eq (a0 : Int) : impl_isBack.f a0 = some (decide (0 ≤ a0 ∧ a0 ≤ 8)) := by unfold impl_isBack.f; rw [between_eq]; rfl
theorem loBacks_eq (a0 : Int) : spec_loBacks.f a0 = some (decide (0 ≤ a0 ∧ a0 ≤ 8)) := by unfold spec_loBacks.f; rw [l1In_eq]; rfl
theorem impl_CountBack_ev (a0 a1 : Int) : Ev (fun k => impl_CountBack.f k a0 a1) (cbP a0 a1) := by
  unfold impl_CountBack.f cbP
  simp only [isTried_eq, isBack_eq, Option.bind_some, decide_eq_true_eq]
  by_cases h1 : 1 ≤ a0 ∧ a0 ≤ 5
  · simp only [h1, and_self, if_true]
    by_cases h2 : 0 ≤ a1 ∧ a1 ≤ 8
    · simp only [h2, and_self, if_true]
      have hp := pow_small (n := a0.toNat) (d := a0.toNat) (by omega) (by omega)
      have := cntB_ev a0.toNat a1.toNat (by omega) (by omega) (by omega) (a0.toNat ^ a0.toNat) (by omega)
      rw [show ((a1.toNat : Nat) : Int) = a1 by omega] at this
      exact Ev.bind this (Ev.now _)
    · simp only [h2, if_false]; exact Ev.now _
  · simp only [h1, if_false]; exact Ev.now _
theorem spec_CountBack_ev (a0 a1 : Int) : Ev (fun k => spec_CountBack.f k a0 a1) (cbP a0 a1) := by
  unfold spec_CountBack.f cbP
  simp only [l1In_eq, loBacks_eq, Option.bind_some, decide_eq_true_eq]
  by_cases h1 : 1 ≤ a0 ∧ a0 ≤ 5
  · simp only [h1, and_self, if_true]
    by_cases h2 : 0 ≤ a1 ∧ a1 ≤ 8
    · simp only [h2, and_self, if_true, decide_true, Bool.not_true]
      obtain ⟨n, rfl⟩ : ∃ n : Nat, a0 = n := ⟨a0.toNat, by omega⟩
      obtain ⟨b, rfl⟩ : ∃ b : Nat, a1 = b := ⟨a1.toNat, by omega⟩
      refine Ev.step (f := fun k => (spec_loAll.f k ([] : List Int) (n : Int)).bind fun t438 => (spec_CountBack.l0 k (n : Int) (b : Int) 0 t438 (t438.length : Int) 0)) (fun k => by rw [spec_CountBack.j0, if_neg (by decide)]) ?_
      refine Ev.bind (loAll_ev n (by omega) n [] (by simp)) ?_
      rw [Int.toNat_natCast, Int.toNat_natCast]
      exact spec_CountBack_l0 n b (by omega) (by omega) (by omega) _ (by rw [allL_eq n (by omega)]; simp) (n ^ n) 0 (by omega)
    · simp only [h2, if_false, decide_false, Bool.not_false]
      exact Ev.end_ fun k => by rw [spec_CountBack.j0, if_pos rfl]
  · simp only [h1, if_false]
    exact Ev.end_ fun k => by rw [spec_CountBack.j0, if_pos rfl]
end Go.Proofs.Ytfclfjengfmjaaa.G
namespace Go.Proofs.Ytfclfjengfmjaaa.Pure
open Go.RowKit Go.Proofs.Ytfclfjengfmjaaa.G Go.Proofs.YtfclfjengfmjaaaW.PrintWords Go.Proofs.YtfclfjengfmjaaaW.PrintLast
set_option linter.unusedVariables false
set_option linter.unusedSimpArgs false
theorem FnExactCountBack : laws_FnExactCountBack.Pure := by
  intro a0 a1 _ _
  refine Ev.rounds ?_
  unfold laws_FnExactCountBack.f
  refine Ev.bind (spec_CountBack_ev a0 a1) ?_
  refine Ev.bind (impl_CountBack_ev a0 a1) ?_
  simp only [if_true, bne_self_eq_false, Bool.false_eq_true, if_false]
  exact Ev.now _
end Go.Proofs.Ytfclfjengfmjaaa.Pure
namespace Go.Proofs.Ytfclfjengfmjaaa.fnExactCountBack
open Go.ChangeShapes Go.WideShapes Go.ChangeAt Go.RowKit
open Go.ChangeMaps (open_string shut_string)
set_option linter.unusedVariables false
theorem own : ownKnob Try.prog.godebug = none := by kernel_rfl
set_option maxRecDepth 100000 in
theorem lifted (os : Os) (started : os.Started) (H : Type) (enc : TypeId × Value → H) :
    ReturnsInHanded {} Try.checked os 6 .any (Rows.fnExactCountBackSpec.pre6 enc Try.prog Try.f6 Rows.fnExactCountBackRow.domain false) (Rows.fnExactCountBackSpec.post enc Try.prog Try.f6 false true false false) := by
  refine returnsInHanded_of_change_sized (C := Try.checked) own started (by kernel_rfl) Try.func6
    (ChangeSpec.witness6 (enc := enc) (C := Try.checked) false ⟨#[], #[.int .i64 0, .int .i64 0], []⟩ 8 (by kernel_rfl) (by kernel_rfl) (by kernel_rfl) (by kernel_rfl)) ?_
  intro W base args ds gs before hval0 hW hcnd hsz0 _
  have hsz : (DataW.weightsEach Try.prog (Try.f6.params.toList ++ Rows.fnExactCountBackSpec.plain.varTypes Try.prog) (ds ++ gs)).all (· ≤ reachBytes) = true := hsz0
  have hval : ∀ (j : Nat) t v, Try.f6.params[j]? = some t → args[j]? = some v → Value.okWide Try.prog W .any base t v := hval0
  have hW' := hW
  obtain ⟨p, q, hA0, hV, rfl, hfz, hnd⟩ := hW
  have hA : DataW.TrodAll enc Try.prog W 0 (fun _ => true) true Try.f6.params.toList args.toList ds p := hA0
  rw [Try.params6] at hA hval hsz
  obtain ⟨v0, vs0, d0, ds0, p0, q0, hargs, rfl, rfl, h0, r0⟩ := trodAll_cons hA
  obtain ⟨v1, vs1, d1, ds1, p1, q1, rfl, rfl, rfl, h1, r1⟩ := trodAll_cons r0
  obtain ⟨rfl, rfl, rfl⟩ := trodAll_nil r1
  obtain rfl : args = #[v0, v1] := by cases args; simp_all
  obtain ⟨rfl, rfl⟩ := trodVars_none hV
  obtain ⟨a0, rfl, rfl, rfl, w0⟩ := open_int Try.underlying3 (hval 0 3 v0 rfl rfl) h0
  obtain ⟨a1, rfl, rfl, rfl, w1⟩ := open_int Try.underlying3 (hval 1 3 v1 rfl rfl) h1
  clear hA0 hval0 hsz0 hsz
  refine (G.laws_FnExactCountBack.walk Pure.FnExactCountBack a0 a1 W w0 w1).mono fun e W' ⟨he, bel⟩ => ?_
  subst he
  exact ⟨_, rfl, _, _, _, [], _, [], hW', trodAll_mk1 (shut_bool Try.underlying4 _), (trodAll_cons_mk (shut_int Try.underlying3 w0) (trodAll_cons_mk (shut_int Try.underlying3 w1) trodAll_mk0)), rfl, bel.frame _, fun h => by cases h⟩
theorem over : Rows.fnExactCountBackRow.holds Try.pinned (OpenSpec.ofChange Rows.fnExactCountBackSpec) :=
  OpenClaim.holds_of_wide 6 Try.f6 rfl rfl rfl rfl rfl rfl rfl ⟨rfl, rfl, rfl, rfl, rfl⟩ rfl rfl rfl rfl rfl (by kernel_rfl) Try.func6 (by kernel_rfl)
    (of_decide_eq_true (by kernel_rfl)) (by unfold Func.isWrapper; first | (rw [if_pos (by decide +kernel)]; kernel_rfl) | (rw [if_neg (by decide +kernel)]; exact ⟨rfl, rfl⟩))
    (fun os started H enc _ => lifted os started H enc)
theorem proved : Rows.FnExactCountBackSaid := over
#print axioms proved
end Go.Proofs.Ytfclfjengfmjaaa.fnExactCountBack
namespace Go.Proofs.Ytfclfjengfmjaaa
/-- The row, under a short name, for the claim. -/
theorem fnExactCountBack_holds : Rows.FnExactCountBackSaid := fnExactCountBack.proved
end Go.Proofs.Ytfclfjengfmjaaa
