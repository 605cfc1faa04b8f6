
/- The contracts of impl.indices over a predicate, and of the cells of a table that are used. -/

import Derived.Test.YteeimoankbgcaaaGwC

namespace Go.Proofs.Yteeimoankbgcaaa.G

open Go.RowKit Go.Proofs.YteeimoankbgcaaaW.PrintWords Go.Proofs.YteeimoankbgcaaaW.PrintLast Go.Proofs.YteeimoankbgcaaaW.PrintMore

set_option linter.unusedVariables false

set_option linter.unusedSimpArgs false

/-- The places below q at which p holds. -/
def idxsTo (p : Int → Bool) (l : List Int) : Nat → List Int
  | 0 => []
  | q + 1 => idxsTo p l q ++ (if p (l.getD q 0) = true then [(q : Int)] else [])
theorem idxsTo_len (p : Int → Bool) (l : List Int) : ∀ q, (idxsTo p l q).length ≤ q
  | 0 => by simp [idxsTo]
  | q + 1 => by
    have := idxsTo_len p l q
    rw [idxsTo, List.length_append]
    split <;> simp <;> omega
set_option maxHeartbeats 4000000 in
set_option maxRecDepth 100000 in
theorem impl_indices.callsP (A : Option Addr) (c : Nat) (l : List Int) (g : Nat) (lb : Array Value) (p : Int → Bool) (w : World)
    (eg : ∀ args w, (callFunc g args).run Try.prog w = .ok (.enter g args) w) (hl : l.length ≤ 1000000)
    (hp0 : PredB g lb p w) (hr : Kd.C (Kd.int .i64) w A l.length l) (hc : l.length ≤ c) :
    Calls Try.prog 90 #[.slice A l.length c, .func (.func g) #[] lb] w fun e w' => ∃ v : Value, e = .returned v ∧ Kd.R (Kd.int .i64) 3 w' w.heap.size (fun _ => True) v (idxsTo p l l.length) ∧ Below w.heap.size w w' := by
  have HR := Aside0.mk hr
  have HP := Aside0.mk hp0
  have HB := Aside0.mk (Below.refl w.heap.size w)
  have HLL := Aside0.mk hl
  clear hr hp0 hl
  go_enter Try.func90, Try.ntmps90
  go_wp2_with ((with_reducible refine gate_dst (N := 8) rfl ?_); refine Kd.R_lit (Kd.int .i64) _ 3 ?hg (N := 8) ?hd (xs := ([] : List Int)) (inner := []) (ok := fun _ => True) (okp := fun _ => True) ?hr ?hp (fun _ hk => hk) trivial (Below.refl _ _) (Nat.le_refl _) (by simp) ?_; (case hd => rfl); (case hg => rfl); (case hr => first | (go_simp; done) | (go_simp; rfl)); (case hp => exact (Reps.none _ _)); intro v8 w7 ho8 hb hg_ hnew_; clear hg_ hnew_; have HO := Aside0.mk ho8; have nB_ := Aside0.mk (show Below w.heap.size w w7 from hb); clear HB; have HB := nB_; clear nB_ ho8 hb)
  go_loopg [5, 11] l.length (fun gg v5 v11 w' => ∃ q : Nat, Aside0 (q ≤ l.length) ∧ Aside0 (l.length - q ≤ gg) ∧ v11 = .int .i64 (q : Int) ∧ Aside0 (Kd.R (Kd.int .i64) 3 w' w.heap.size (fun _ => True) v5 (idxsTo p l q)) ∧ Aside0 (Below w.heap.size w w'))
  case atStart => exact ⟨0, ⟨Nat.zero_le _⟩, ⟨by omega⟩, rfl, HO, HB⟩
  case round =>
    clear HO HB
    obtain ⟨q, HQ, HG, rfl, HO, HB⟩ := hrel
    obtain ⟨z, hz⟩ : ∃ z : Int, z = (q : Int) := ⟨_, rfl⟩
    rw [← hz]
    by_cases hlt : q < l.length
    · have c1 : decide (z < (l.length : Int)) = true := decide_eq_true (by omega)
      have p1 : 0 ≤ z := by omega
      have p2 : z < (l.length : Int) := by omega
      obtain ⟨ad, rfl, hx⟩ := Kd.at_int HR.out z p1 p2
      have hxr := pw_cell_below HB.out hx
      obtain ⟨y, hy⟩ : ∃ y, y = rd l z := ⟨_, rfl⟩
      rw [← hy] at hxr
      have hcall := HP.out wr y HB.out
      have HY := Aside0.mk (show l.getD q 0 = y by rw [hy, hz, rd, Int.toNat_natCast])
      have HZ := Aside0.mk hz
      have HIL := Aside0.mk (idxsTo_len p l q)
      have q1 := eq_true p1
      have q2 := eq_true p2
      clear hz hy hx
      cases hq : p y with
      | true =>
        have HN := Aside0.mk (show idxsTo p l q ++ [z] = idxsTo p l (q + 1) by rw [idxsTo, HY.out, if_pos hq, HZ.out])
        rw [hq] at hcall
        go_wp2_with (first | (go_at_fn g; refine hcall.mono ?_; rintro e w' ⟨rfl, q', rfl⟩) | ((with_reducible refine gate_builtin (b := .append) (xs := #[.tmp 19, .tmp 21]) rfl ?_); at_builtin; refine Kd.R_append (Kd.int .i64) (w0 := w) w.heap.size rfl (.tmp 19) (.tmp 21) 22 3 (.int .i64 0) 8 rfl Try.underlying22 gv_info3 rfl (by decide) (by omega) u5 (idxsTo p l q) z [.int .i64 z] (fun _ => True) (fun _ => False) rfl rfl ?aP (fun _ hk => hk.elim) ?aF ?aO ?aB ?aS ?aL ?_; (case aP => exact rfl); (case aB => exact (by repeat (first | (with_reducible first | exact HB.out | apply below_alloc | apply pw_below_drewN | apply below_drew1) | exact HB.out))); (case aF => exact (fun _ _ => trivial)); (case aO => exact (by (with_reducible repeat (first | apply Kd.R_alloc | apply Kd.R_drewN | apply Kd.R_drew)); exact HO.out)); (case aS => exact (below_size (by repeat (first | (with_reducible first | exact HB.out | apply below_alloc | apply pw_below_drewN | apply below_drew1) | exact HB.out)))); (case aL => have := HIL.out; have := HLL.out; omega); intro v22 w13 ho hb hg hat; rw [HN.out] at ho; have n1_ := Aside0.mk hb; have n2_ := Aside0.mk ho; clear HB HO; have HB := n1_; have HO := n2_; clear n1_ n2_ ho hb hg hat))
        go_roundg (gk - 1)
        case measure => have := HG.out; omega
        case rel => exact ⟨q + 1, ⟨by omega⟩, ⟨by have := HG.out; omega⟩, by congr 1; have := HZ.out; first | omega | (unfold wrap64; have := HLL.out; omega), HO, HB⟩
      | false =>
        have HN := Aside0.mk (show idxsTo p l q = idxsTo p l (q + 1) by rw [idxsTo, HY.out, if_neg (by rw [hq]; decide), List.append_nil])
        rw [hq] at hcall
        go_wp2_with (go_at_fn g; refine hcall.mono ?_; rintro e w' ⟨rfl, q', rfl⟩)
        go_roundg (gk - 1)
        case measure => have := HG.out; omega
        case rel => exact ⟨q + 1, ⟨by omega⟩, ⟨by have := HG.out; omega⟩, by congr 1; have := HZ.out; first | omega | (unfold wrap64; have := HLL.out; omega), ⟨by rw [← HN.out]; exact Kd.R_drewN HO.out _⟩, ⟨pw_below_drewN HB.out _⟩⟩
    · have c1 : decide (z < (l.length : Int)) = false := decide_eq_false (by omega)
      have e : q = l.length := by have := HQ.out; omega
      subst e
      clear hz
      go_wp2
      go_ret
      exact ⟨_, rfl, HO.out, HB.out⟩
/-! ### The cells that are used -/

def posP (x : Int) : Bool := decide (0 ≤ x)
def impl_Table_used.f (l0_0 : List Int) : Option (List Int) := if l0_0.length ≤ 1000000 then some (idxsTo posP l0_0 l0_0.length) else none
theorem used_pred (w : World) : PredB 91 #[] posP w := by
  intro W x hb
  clear hb
  simp only [List.append_toArray, List.append_nil]
  go_enter Try.func91, Try.ntmps91
  go_wp2
  go_ret
  exact ⟨rfl, 0, rfl⟩
set_option maxHeartbeats 4000000 in
theorem impl_Table_used.calls (A0_0 : Option Addr) (c0_0 : Nat) (l0_0 : List Int) (r : List Int) (w : World) (hr0_0 : Kd.C (Kd.int .i64) w A0_0 l0_0.length l0_0) (hc0_0 : l0_0.length ≤ c0_0) (h : impl_Table_used.f l0_0 = some r) :
    Calls Try.prog 72 #[.agg #[.slice A0_0 l0_0.length c0_0]] w fun e w' => ∃ v0_ : Value, e = .returned (v0_) ∧ Kd.R (Kd.int .i64) 3 w' w.heap.size (fun _ => True) v0_ r ∧ Below w.heap.size w w' := by
  unfold impl_Table_used.f at h
  split at h
  case isFalse => cases h
  rename_i hl
  obtain rfl := Option.some.inj h
  have HR := Aside0.mk hr0_0
  have HB := Aside0.mk (Below.refl w.heap.size w)
  clear hr0_0 h
  go_enter Try.func72, Try.ntmps72
  go_wp2_with (go_at_call 90; refine (impl_indices.callsP _ _ l0_0 _ _ posP _ (enters_of Try.func91 (by kernel_rfl) rfl) hl (used_pred _) (Kd.C_alloc HR.out _) hc0_0).mono ?_; rintro e w5 ⟨v5, rfl, ho, hb⟩; have HO := Aside0.mk (Kd.R_lower ho (below_size (below_alloc (Below.refl w.heap.size w) _))); have nB_ := Aside0.mk (below_step (below_alloc (Below.refl w.heap.size w) _) hb); clear HB ho hb; have HB := nB_; clear nB_)
  go_ret
  exact ⟨_, rfl, HO.out, HB.out⟩
end Go.Proofs.Yteeimoankbgcaaa.G
