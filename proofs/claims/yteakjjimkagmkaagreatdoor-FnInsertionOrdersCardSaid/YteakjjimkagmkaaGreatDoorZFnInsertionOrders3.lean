/- The law FnInsertionOrders: part 3 of the printed functions and the facts on them that its row leans on (merged by this session's slim.py). -/
import Derived.Test.YteakjjimkagmkaaGreatDoorZFnInsertionOrders2
set_option linter.unusedVariables false
set_option linter.unusedSimpArgs false
namespace Go.Proofs.YteakjjimkagmkaaGreatDoor.G
open Go.RowKit Go.Lib Go.Proofs.YteakjjimkagmkaaGreatDoorW.PrintWords Go.Proofs.YteakjjimkagmkaaGreatDoorW.PrintLast Go.Proofs.YteakjjimkagmkaaGreatDoorW.PrintMore
theorem m_zero : bits .and .u64 0 4294967295 = 0 := m_mask 0 (by omega)
theorem m_wrap0 : IntKind.u64.wrap 0 = 0 := m_wrap 0 (by omega)
set_option maxHeartbeats 1000000 in
theorem bits_Mul64_small (y : Nat) (hy : y < 4294967296) (w : World) :
    Calls Tryz.prog 110 #[.int .u64 1, .int .u64 (y : Int)] w fun e w' => e = .returned (.tuple #[.int .u64 0, .int .u64 (y : Int)]) ∧ w' = w := by
  go_enter Tryz.func110, Tryz.ntmps110
  go_wp2
  simp only [m_one, m_mask y hy, m_div y hy, Int.one_mul, m_wrap y (by omega), m_wrap0, m_zero, Int.zero_ediv, Int.mul_zero, Int.add_zero]
  go_ret2
  exact ⟨rfl, rfl⟩
set_option maxHeartbeats 1000000 in
theorem bits_Mul_small (y : Nat) (hy : y < 4294967296) (w : World) :
    Calls Tryz.prog 94 #[.int .u64 1, .int .u64 (y : Int)] w fun e w' => e = .returned (.tuple #[.int .u64 0, .int .u64 (y : Int)]) ∧ w' = w := by
  go_enter Tryz.func94, Tryz.ntmps94
  go_wp2_with (go_at_call 110; refine (bits_Mul64_small y hy _).mono ?_; rintro e w' ⟨rfl, rfl⟩)
  go_ret2
  exact ⟨rfl, rfl⟩
theorem rp_size : (Tryz.prog.info? 3).map (·.size) = some 1 := by kernel_rfl
theorem step_copy_at {P : Program} {ops : Array Oper} {o : Oper} {a : Act} {w : World} {K : Act → World → Prop} {Q : Exit → Act → World → Prop} {E : Prop} (hg : o.guard = none) (d s : Operand) (t t' : TypeId)
    (ho : o.op = .call { callee := .builtin .copy, args := #[d, s], argTypes := #[t, t'] }) (v u : Value) (hd : a.eval d = v) (hs : a.eval s = u) {v' : Value} {w' : World}
    (hr : (Builtin.copy_ #[t, t'] o.type #[v, u]).run P w = .ok v' w') (h : K (a.put o.dst v') w') : if Region.wanted o (yielded ops a.tmps) = true then Oper.wp P o a w K Q else E := by
  have hw : Region.wanted o (yielded ops a.tmps) = true := by simp [Region.wanted, hg]
  rw [if_pos hw]
  unfold Oper.wp execOp
  simp only [ho, resolve, invoke, builtin, Sem.run_bind, Sem.run_pure, Result.andThen_ok, List.map_toArray, List.map_cons, List.map_nil, hd, hs, hr]
  exact h
def slices_Repeat_int_int.f (l0 : List Int) (a1 : Int) : Option (List Int) := if l0.length = 1 ∧ 0 ≤ a1 ∧ a1 ≤ 1000000 then some (List.replicate a1.toNat (rd l0 0)) else none
set_option maxRecDepth 100000 in
/-- The first cells once more, behind themselves. -/
theorem copy_on {W : World} {g n N cap m : Nat} {xs : List Int} {e base : Nat} {ok : Nat → Prop} (t ty : TypeId) (hu : Tryz.prog.underlying t = some (.slice e)) (hi : (Tryz.prog.info? e).map (·.size) = some 1)
    (hR : Kd.R (Kd.int .i64) e W base ok (.slice (some ⟨g, 0, none⟩) N cap) xs) (hN : xs.length = N) (hm : m = min n (N - n)) (hn : n ≤ N) (dc sc : Nat) :
    ∃ w1, (Builtin.copy_ #[t, t] ty #[.slice (some ⟨g, n, none⟩) (N - n) dc, .slice (some ⟨g, 0, none⟩) n sc]).run Tryz.prog W = .ok (.int .i64 (m : Int)) w1 ∧
      Kd.R (Kd.int .i64) e w1 base ok (.slice (some ⟨g, 0, none⟩) N cap) (xs.take n ++ xs.take m ++ xs.drop (n + m)) ∧ W.grownBy w1 (some g) := by
  have hown := Kd.own_of_R hR
  rw [hN] at hown
  rcases Nat.eq_zero_or_pos m with h0 | hp
  · subst h0
    refine ⟨W, ?_, ?_, World.grownBy.refl W _⟩
    · exact run_copy_none W t t ty e _ _ _ _ _ _ hu hi hm.symm
    · simpa using hR
  · rcases hown.2 with ⟨_, hx0⟩ | ⟨g', cap', cur, hv, hb, hh, hnc, hcm, hcs, htake⟩
    · omega
    cases hv
    rw [Nat.mul_one] at htake
    have hcs1 : cur.size = cap := by omega
    have hkl : (encs (Value.int .i64) (xs.take m)).length = m := by rw [encs_length, List.length_take]; omega
    have hcell : ∀ j, j < N → W.cell? ⟨g, j, none⟩ = some (.int .i64 (xs.getD j 0)) := by
      intro j hj
      rw [cell_of_row W g _ cur e (0, 0) hh]
      have h1 : (cur.toList.take N)[j]? = (encs (Value.int .i64) xs)[j]? := by rw [htake]
      rw [List.getElem?_take_of_lt hj, encs_get (d := 0) xs j (by omega)] at h1
      simpa using h1
    have hsrc : ∀ j u, (encs (Value.int .i64) (xs.take m))[j]? = some u → W.cell? ((⟨g, 0, none⟩ : Addr).add j) = some u := by
      intro j u hu
      have hj : j < (xs.take m).length := by
        rcases Nat.lt_or_ge j (xs.take m).length with h | h
        · exact h
        · rw [List.getElem?_eq_none (by rw [encs_length]; exact h)] at hu
          cases hu
      have hjm : j < m := by rw [List.length_take] at hj; omega
      rw [encs_get (d := 0) _ j hj] at hu
      rw [Go.Proofs.YteakjjimkagmkaaGreatDoorW.PrintWords.add_plain, hcell j (by omega), ← hu]
      simp [List.getD_eq_getElem?_getD, hjm]
    have hr := run_copy_cells (P := Tryz.prog) W t t ty e g n (N - n) dc ⟨g, 0, none⟩ n sc (encs (Value.int .i64) (xs.take m)) hu hi (by rw [hkl]; exact hm) hsrc
      (fun j hj => by rw [cell_of_row W g _ cur e (0, 0) hh]; simp; omega) (fun j _ => blk_frozen hh _) (by intro u hu; simp only [encs, List.mem_map] at hu; obtain ⟨q, _, rfl⟩ := hu; rfl)
    obtain ⟨cur', h3, h4, h5⟩ := setCells_row (encs (Value.int .i64) (xs.take m)) n W cur hh (by rw [hkl]; omega)
    obtain ⟨s1, s2, s3, s4⟩ := setCells_same g (encs (Value.int .i64) (xs.take m)) n W
    refine ⟨_, by rw [hr, hkl]; rfl, Kd.R_of_own (enc := Value.int .i64) (h1 := fun _ => rfl) ?_ hR.1, ⟨s1, s2, s3, by rw [s4]; exact Nat.le_refl _, fun k _ hk => setCells_far _ _ k (fun he => hk (by rw [he]))⟩⟩
    have hln : (xs.take n ++ xs.take m ++ xs.drop (n + m)).length = N := by
      rw [List.length_append, List.length_append, List.length_take, List.length_take, List.length_drop]
      omega
    rw [hln]
    refine ⟨by rw [encs_length, hln, Nat.mul_one], .inr ⟨g, cap, cur', rfl, hb, h3, hnc, hcm, by rw [h4, hcs], ?_⟩⟩
    rw [h5, hkl, Nat.mul_one, encs_append, encs_append, ← hN]
    have htk : cur.toList.take N = encs (Value.int .i64) xs := htake
    have e1 : cur.toList.take n = encs (Value.int .i64) (xs.take n) := by
      have : (cur.toList.take N).take n = (encs (Value.int .i64) xs).take n := by rw [htk]
      rw [List.take_take, Nat.min_eq_left hn] at this
      rw [this]; simp [encs, List.map_take]
    have e2 : (cur.toList.drop (n + m)).take (N - (n + m)) = encs (Value.int .i64) (xs.drop (n + m)) := by
      rw [← List.drop_take, htk]; simp [encs, List.map_drop]
    rw [e1, hN, List.take_append, List.take_of_length_le (by rw [List.length_append, hkl, encs_length, List.length_take]; omega)]
    congr 1
    rw [← e2]
    congr 1
    rw [List.length_append, hkl, encs_length, List.length_take]
    omega
set_option maxHeartbeats 4000000 in
set_option maxRecDepth 100000 in
theorem slices_Repeat_int_int.calls (A0 : Option Addr) (c0 : Nat) (l0 : List Int) (a1 : Int) (r : List Int) (w : World) (hr0 : Kd.C (Kd.int .i64) w A0 l0.length l0) (hc0 : l0.length ≤ c0) (h : slices_Repeat_int_int.f l0 a1 = some r) :
    Calls Tryz.prog 76 #[.slice A0 l0.length c0, .int .i64 a1] w fun e w' => ∃ v0_ : Value, e = .returned (v0_) ∧ Kd.R (Kd.int .i64) 3 w' w.heap.size (fun _ => True) v0_ r ∧ Below w.heap.size w w' := by
  unfold slices_Repeat_int_int.f at h
  split at h
  · rename_i hx
    obtain ⟨hl1, hp, hq⟩ := hx
    obtain rfl := Option.some.inj h
    clear h
    obtain ⟨x, rfl⟩ := List.length_eq_one_iff.1 hl1
    clear hl1
    obtain ⟨N, rfl⟩ : ∃ N : Nat, a1 = N := ⟨a1.toNat, by omega⟩
    have hmul := bits_Mul_small N (by omega)
    have HR0 := Aside0.mk hr0
    have HC0 := Aside0.mk hc0
    have HB := Aside0.mk (Below.refl w.heap.size w)
    have hN : N ≤ 1000000 := by omega
    clear hp hq hr0 hc0
    simp only [List.length_singleton, Int.toNat_natCast, show rd [x] 0 = x from rfl]
    go_enter Tryz.func76, Tryz.ntmps76
    go_wp2_with (first | (go_at_call 94; refine (hmul _).mono ?_; rintro e w' ⟨rfl, hw⟩; rw [hw]; clear hw) | ((with_reducible refine gate_dst (N := 30) rfl ?_); refine Kd.R_make (Kd.int .i64) _ 3 rfl (N := 30) rfl 24 _ _ rfl (N : Int) rfl rfl Tryz.underlying24 (.int .i64 0) 8 gv_info3 rfl (by decide) (by omega) 0 (ok := fun _ => True) (okp := fun _ => True) rfl (fun _ hk => hk) trivial (Int.natCast_nonneg _) (by rw [Int.toNat_natCast]; omega) (Below.refl _ _) (Nat.le_refl _) ?_; intro v7 w8 ho9 hb hg_ hnew_; clear hg_ hnew_; rw [Int.toNat_natCast] at ho9; have n0_ := Aside0.mk ho9; have n1_ := Aside0.mk (below_step HB.out hb); clear HB; have HO7 := n0_; have HB := n1_; clear n0_ n1_ hb ho9; obtain ⟨Ao, co, eo⟩ := Kd.R_slice HO7.out; rw [List.length_replicate] at eo; subst eo) | ((with_reducible refine gate_builtin (b := .copy) (xs := #[.tmp 31, .tmp 32]) rfl ?_); refine Kd.R_copy (enc := Value.int .i64) (h1 := fun _ => rfl) 0 (w0 := w) w.heap.size rfl (.tmp 31) (.tmp 32) 24 24 3 rfl Tryz.underlying24 rp_size _ _ [x] A0 1 c0 (fun _ => True) rfl rfl HO7.out ?sideC HB.out (below_size HB.out) ?_; (case sideC => exact Kd.C_below HR0.out HB.out); intro w9 hrow hb hg; have n0_ := Aside0.mk hrow; have n1_ := Aside0.mk hb; clear HB HO7 hrow hb hg; have HO7 := n0_; have HB := n1_; clear n0_ n1_))
    have HT : Aside0 (Kd.R (Kd.int .i64) 3 w9 w.heap.size (fun _ => True) (.slice Ao N co) ((List.replicate N x).take (min 1 N) ++ (List.replicate N 0).drop (min 1 N))) := by
      have := HO7.out
      rw [List.length_replicate] at this
      have e : ([x] : List Int).take (min 1 N) = (List.replicate N x).take (min 1 N) := by
        cases N with
        | zero => simp
        | succ N => simp [show min 1 (N + 1) = 1 by omega, List.replicate_succ]
      rw [e] at this
      exact ⟨this⟩
    clear HO7
    have hlo : N ≤ 1000000 := hN
    go_loopg [8] N (fun kq v8 w' => ∃ (n : Nat) (xs : List Int), v8 = .int .i64 (n : Int) ∧ n ≤ N ∧ N - n ≤ kq ∧ (0 < N → 0 < n) ∧ Aside0 (xs.length = N) ∧ Aside0 (xs.take n = List.replicate n x) ∧ Aside0 (Kd.R (Kd.int .i64) 3 w' w.heap.size (fun _ => True) (.slice Ao N co) xs) ∧ Aside0 (Below w.heap.size w w'))
    case atStart => exact ⟨min 1 N, _, rfl, by omega, by omega, by omega, ⟨by simp; omega⟩, ⟨by rw [List.take_append, List.take_take, List.length_take, List.length_replicate, Nat.min_self, Nat.min_eq_left (Nat.min_le_right 1 N), Nat.sub_self, List.take_zero, List.append_nil, List.take_replicate, Nat.min_eq_left (Nat.min_le_right 1 N)]⟩, HT, HB⟩
    case round =>
      clear HT HB
      obtain ⟨n, xs, rfl, hn, hg, hpos, HL, HTk, HO, HB⟩ := hrel
      by_cases hlt : n < N
      · have hn0 : 0 < n := hpos (by omega)
        obtain ⟨go, cap, eo, gb, gl, cl, hcl⟩ := Kd.R_form HO.out (by rw [HL.out]; omega)
        injection eo with e1 e2 e3
        subst e1
        subst e3
        clear e2
        have hltz : (n : Int) < (N : Int) := by omega
        obtain ⟨m, hm⟩ : ∃ m, m = min n (N - n) := ⟨_, rfl⟩
        have hm1 : 0 < m ∧ n + m ≤ N := by omega
        have HM := Aside0.mk hm
        have hco : N ≤ co := by have := (Kd.R_reads' HO.out).2.1; omega
        have hne : ¬ co = n := by omega
        have hnc : n ≤ co := by omega
        obtain ⟨w9, hr, hrow, hgr⟩ := copy_on (m := m) 24 3 Tryz.underlying24 rp_size (Kd.R_drew HO.out) HL.out hm hn (co - n) co
        have HR9 := Aside0.mk hr
        have HO9 := Aside0.mk hrow
        have HB9 := Aside0.mk (pw_below_grown (below_drew1 HB.out) _ (below_size (below_drew1 HB.out)) hgr (fun k e => by cases e; exact gb))
        clear hm hr hrow hgr HO HB
        go_wp2
        go_region_law (refine step_copy_at rfl (.tmp 41) (.tmp 44) 24 24 rfl _ _ (by simp [Act.eval, Act.put]) (by simp [Act.eval, Act.put]) HR9.out ?_)
        go_wp2
        have hw : IntKind.i64.wrap ((n : Int) + (m : Int)) = ((n + m : Nat) : Int) := by rw [IntKind.wrap_i64]; omega
        go_roundg (N - (n + m))
        case measure => omega
        case rel =>
          refine ⟨n + m, _, by first | exact congrArg _ hw | (rw [hw]) | (simp [hw]), by omega, by omega, by omega, ⟨?_⟩, ⟨?_⟩, HO9, HB9⟩
          · have := HL.out
            simp only [List.length_append, List.length_take, List.length_drop]; omega
          · have e1 : xs.take m = List.replicate m x := by
              have := congrArg (List.take m) HTk.out
              rw [List.take_take, Nat.min_eq_left (by have := HM.out; omega), List.take_replicate, Nat.min_eq_left (by have := HM.out; omega)] at this
              exact this
            rw [HTk.out, e1, List.replicate_append_replicate, List.take_append, List.take_of_length_le (by simp)]
            simp
      · have : n = N := by omega
        have hltz : ¬ (n : Int) < (N : Int) := by omega
        have HE := Aside0.mk this
        clear this hlt
        go_wp2
        go_ret
        refine ⟨_, rfl, ?_, HB.out⟩
        have e : xs = List.replicate N x := by rw [← HE.out, ← HTk.out, HE.out, List.take_of_length_le (by rw [HL.out]; exact Nat.le_refl _)]
        rw [← e]
        exact HO.out
  · cases h
end Go.Proofs.YteakjjimkagmkaaGreatDoor.G
namespace Go.Proofs.YteakjjimkagmkaaGreatDoor.G
open Go.RowKit Go.Proofs.YteakjjimkagmkaaGreatDoorW.PrintWords Go.Proofs.YteakjjimkagmkaaGreatDoorW.PrintLast Go.Proofs.YteakjjimkagmkaaGreatDoorW.PrintMore
attribute [local go_sem] max2_int min2_int max_two min_two max_three min_three max_four min_four   -- for this text's walks alone
/-! ### laws_jSame: function 12 -/
def laws_jSame.l0 : Nat → List Int → List Int → Int → Int → Option (Bool)
 | 0, _, _, _, _ => none
 | k + 1, x0, x1, x12, x13 => if x13 < x12 then (if 0 ≤ x13 then (if x13 < (x0.length : Int) then (if x13 < (x1.length : Int) then (if (rd x0 x13) = (rd x1 x13) then (laws_jSame.l0 k x0 x1 x12 (wrap64 (x13 + 1))) else (some false)) else (none)) else (none)) else (none)) else (some true)
def laws_jSame.f (k : Nat) (l0 : List Int) (l1 : List Int) : Option (Bool) := if (l0.length : Int) = (l1.length : Int) then (laws_jSame.l0 k l0 l1 (l0.length : Int) 0) else (some false)
theorem laws_jSame.mono_l : ∀ k, (∀ y0 y1 y2 y3, LeO (laws_jSame.l0 k y0 y1 y2 y3) (laws_jSame.l0 (k + 1) y0 y1 y2 y3))
 | 0 => fun _ _ _ _ r h => by simp [laws_jSame.l0] at h
 | k + 1 => by
  have ih0 := laws_jSame.mono_l k
  intro y0 y1 y2 y3
  unfold laws_jSame.l0
  exact mo1_ ih0
theorem laws_jSame.mono : ∀ a0 a1 k, LeO (laws_jSame.f k a0 a1) (laws_jSame.f (k + 1) a0 a1) := by
 intro a0 a1 k
 have ih0 := laws_jSame.mono_l k
 unfold laws_jSame.f
 exact mo1_ ih0
set_option maxHeartbeats 8000000 in
set_option maxRecDepth 100000 in
theorem laws_jSame.calls (k : Nat) (A0 : Option Addr) (c0 : Nat) (l0 : List Int) (A1 : Option Addr) (c1 : Nat) (l1 : List Int) (r : Bool) (w : World) (hr0 : Kd.C (Kd.int .i64) w A0 l0.length l0) (hc0 : l0.length ≤ c0) (hr1 : Kd.C (Kd.int .i64) w A1 l1.length l1) (hc1 : l1.length ≤ c1) (h : laws_jSame.f k l0 l1 = some r) :
  Calls Tryz.prog 12 #[.slice A0 l0.length c0, .slice A1 l1.length c1] w fun e w' => e = .returned (.bool r) ∧ Drawn0 w w' := by
 have HR0 := aS_ hr0
 have HC0 := aS_ hc0
 clear hr0 hc0
 have HR1 := aS_ hr1
 have HC1 := aS_ hc1
 clear hr1 hc1
 have H : (if (l0.length : Int) = (l1.length : Int) then (laws_jSame.l0 k l0 l1 (l0.length : Int) 0) else (some false)) = some r := h
 clear h
 by_cases c3 : (l0.length : Int) = (l1.length : Int)
 ·rw [if_pos c3] at H
  have c3b0 : ((l0.length : Int) == (l1.length : Int)) = true := beq_iff_eq.mpr c3
  have c3b1 : ((l0.length : Int) != (l1.length : Int)) = false := bne_eq_false_iff_eq.mpr c3
  have c3b2 : (l0.length == l1.length) = true := by first | simpa using c3 | (simp at c3 ⊢; omega)
  clear c3
  have H' := aS_ H
  clear H
  go_enter Tryz.func12, Tryz.ntmps12
  go_wp2
  repeat (go_quiet (fail); try go_wp2)
  go_loopg [13] k (fun kq v13 w' => ∃ (x13_1 : Int), v13 = .int .i64 x13_1 ∧ Aside0 (laws_jSame.l0 kq l0 l1 (l0.length : Int) x13_1 = some r) ∧ Aside0 (kq ≤ k) ∧ Drawn0 w w')
  case atStart => exact ⟨(0), sR_, H', ⟨Nat.le_refl _⟩, by repeat (first | exact Drawn0.refl _ | apply Drawn0.step)⟩
  case round =>
  clear H'
  try clear c1
  try clear c3
  try clear c3b0
  try clear c3b1
  try clear c3b2
  obtain ⟨x13_1, rfl, HA, HK1, ⟨m1, rfl⟩⟩ := hrel
  cases gk with
  | zero => exact absurd HA.out (by simp [laws_jSame.l0])
  | succ k1 =>
  have H := HA.out
  clear HA
  simp only [laws_jSame.l0] at H
  replace H := id_ H; rcases H with ⟨c4b0, H⟩ | ⟨c4b0, H⟩
  ·replace H := jd_ H; obtain ⟨c5b0, H⟩ := H
   replace H := jd_ H; obtain ⟨c6b0, H⟩ := H
   replace H := jd_ H; obtain ⟨c7b0, H⟩ := H
   replace H := iq_ H; rcases H with ⟨c8b0, c8b1, H⟩ | ⟨c8b0, c8b1, c8, H⟩
   ·have H' := aS_ H
    clear H
    have p415 : 0 ≤ (x13_1 : Int) := of_decide_eq_true (by assumption)
    have q415 : x13_1 < (l0.length : Int) := of_decide_eq_true (by assumption)
    obtain ⟨ad415, e415, hx415_0⟩ := Kd.at_int HR0.out x13_1 p415 q415
    cases e415
    replace p415 := eq_true p415
    replace q415 := eq_true q415
    have p416 : 0 ≤ (x13_1 : Int) := of_decide_eq_true (by assumption)
    have q416 : x13_1 < (l1.length : Int) := of_decide_eq_true (by assumption)
    obtain ⟨ad416, e416, hx416_0⟩ := Kd.at_int HR1.out x13_1 p416 q416
    cases e416
    replace p416 := eq_true p416
    replace q416 := eq_true q416
    go_wp2
    repeat (go_quiet (fail); try go_wp2)
    go_roundg k1
    case measure => have := HK1.out; omega
    case rel => exact ⟨(wrap64 (x13_1 + 1)), sR_, H', ⟨by have := HK1.out; omega⟩, by repeat (first | exact Drawn0.refl _ | apply Drawn0.step)⟩
   obtain rfl := Option.some.inj H
   have p415 : 0 ≤ (x13_1 : Int) := of_decide_eq_true (by assumption)
   have q415 : x13_1 < (l0.length : Int) := of_decide_eq_true (by assumption)
   obtain ⟨ad415, e415, hx415_0⟩ := Kd.at_int HR0.out x13_1 p415 q415
   cases e415
   replace p415 := eq_true p415
   replace q415 := eq_true q415
   have p416 : 0 ≤ (x13_1 : Int) := of_decide_eq_true (by assumption)
   have q416 : x13_1 < (l1.length : Int) := of_decide_eq_true (by assumption)
   obtain ⟨ad416, e416, hx416_0⟩ := Kd.at_int HR1.out x13_1 p416 q416
   cases e416
   replace p416 := eq_true p416
   replace q416 := eq_true q416
   go_wp2
   repeat (go_quiet (fail); try go_wp2)
   go_ret
   exact ⟨sR_, by repeat (first | exact Drawn0.refl _ | apply Drawn0.step)⟩
  obtain rfl := Option.some.inj H
  go_wp2
  repeat (go_quiet (fail); try go_wp2)
  go_ret
  exact ⟨sR_, by repeat (first | exact Drawn0.refl _ | apply Drawn0.step)⟩
 rw [if_neg c3] at H
 have c3b0 : ((l0.length : Int) == (l1.length : Int)) = false := beq_eq_false_iff_ne.mpr c3
 have c3b1 : ((l0.length : Int) != (l1.length : Int)) = true := bne_iff_ne.mpr c3
 have c3b2 : (l0.length == l1.length) = false := by first | simpa using c3 | (simp at c3 ⊢; omega)
 obtain rfl := Option.some.inj H
 go_enter Tryz.func12, Tryz.ntmps12
 go_wp2
 repeat (go_quiet (fail); try go_wp2)
 go_ret
 exact ⟨sR_, by repeat (first | exact Drawn0.refl _ | apply Drawn0.step)⟩
/-! ### impl_IsTable: function 13 -/
def impl_IsTable.f (k : Nat) (l0_0 : List Int) : Option (Bool) := (impl_isTable.f k l0_0).bind fun t418 => (some t418)
theorem impl_IsTable.mono : ∀ a0 k, LeO (impl_IsTable.f k a0) (impl_IsTable.f (k + 1) a0) := by
 intro a0 k
 unfold impl_IsTable.f
 exact mo1_ impl_isTable.mono
set_option maxHeartbeats 8000000 in
set_option maxRecDepth 100000 in
theorem impl_IsTable.calls (k : Nat) (A0_0 : Option Addr) (c0_0 : Nat) (l0_0 : List Int) (r : Bool) (w : World) (hr0_0 : Kd.C (Kd.int .i64) w A0_0 l0_0.length l0_0) (hc0_0 : l0_0.length ≤ c0_0) (h : impl_IsTable.f k l0_0 = some r) :
  Calls Tryz.prog 13 #[.agg #[.slice A0_0 l0_0.length c0_0]] w fun e w' => e = .returned (.bool r) ∧ Below w.heap.size w w' := by
 have hu26 := Tryz.underlying26
 have HR0_0 := aS_ hr0_0
 have HC0_0 := aS_ hc0_0
 clear hr0_0 hc0_0
 have HB := aS_ (Below.refl w.heap.size w)
 have H : ((impl_isTable.f k l0_0).bind fun t418 => (some t418)) = some r := h
 clear h
 replace H := bs_ H; obtain ⟨t418, A2, H⟩ := H
 obtain rfl := Option.some.inj H
 go_enter Tryz.func13, Tryz.ntmps13
 go_wp2_with (first | ((with_reducible refine gg_ ?_); refine bx_ 1 #[.slice A0_0 l0_0.length c0_0] 26 ?_; intro gb417 hg w3 hbox hb; have BK417 := aS_ (hbox); have GW417 := gE_ HB hg; have GE417 := gE_ HB hg; replace HB := bE_ HB hb; clear hb hbox hg; obtain ⟨hcz4_0, hfz4_0⟩ := c10_ BK417) | ((with_reducible refine gg_ ?_); refine gc_ 28 (some 4) Tryz.func28 #[.agg #[.slice A0_0 l0_0.length c0_0]] ?_; (with_reducible refine (impl_isTable.calls k _ _ l0_0 t418 _ ?side1 ?side2 A2.out).mono ?_); (case side1 => exact cB_ HR0_0 HB); (case side2 => exact HC0_0.out); rintro e w5 ⟨rfl, hb⟩; refine ⟨_, rfl, ?_⟩; replace BK417 := kO_ BK417 hb; replace HB := bE_ HB hb; (try clear hb)))
 go_ret
 exact ⟨eR_, bb_ HB⟩
/-! ### impl_empty: function 42 -/
def impl_empty.f (a0 : Int) : Option (List Int) := (slices_Repeat_int_int.f (([(-1)] : List Int)) a0).bind fun t423 => (some t423)
set_option maxHeartbeats 8000000 in
set_option maxRecDepth 100000 in
theorem impl_empty.calls (a0 : Int) (r : List Int) (w : World) (h : impl_empty.f a0 = some r) :
  Calls Tryz.prog 42 #[.int .i64 a0] w fun e w' => ∃ v0_ : Value, e = .returned (.agg #[v0_]) ∧ Kd.R (Kd.int .i64) 3 w' w.heap.size (fun _ => True) v0_ r ∧ Below w.heap.size w w' := by
 have hu26 := Tryz.underlying26
 have HB := aS_ (Below.refl w.heap.size w)
 have H : ((slices_Repeat_int_int.f (([(-1)] : List Int)) a0).bind fun t423 => (some t423)) = some r := h
 clear h
 obtain ⟨y420, hy420⟩ : ∃ y_ : List Int, y_ = (([(-1)] : List Int)) := ⟨_, rfl⟩
 replace H : ((slices_Repeat_int_int.f y420 a0).bind fun t423 => (some t423)) = some r := yH_ hy420 H
 have Ny420 := aS_ hy420
 clear hy420
 replace H := bs_ H; obtain ⟨t423, A2, H⟩ := H
 obtain rfl := Option.some.inj H
 go_enter Tryz.func42, Tryz.ntmps42
 go_wp2_with (first | ((with_reducible refine gg_ ?_); refine bx_ 2 #[.slice none 0 0] 26 ?_; intro gb419 hg w3 hbox hb; have BK419 := aS_ (hbox); have GW419 := gE_ HB hg; have GE419 := gE_ HB hg; replace HB := bE_ HB hb; clear hb hbox hg) | ((with_reducible refine gate_dst (N := 3) rfl ?_); refine Kd.R_lit (Kd.int .i64) _ 3 ?hg (N := 3) ?hd (xs := ([(-1)] : List Int)) (inner := [.int .i64 (-1)]) (ok := fun _ => True) (okp := fun _ => True) ?hr ?hp (fun _ hk => hk) trivial (Below.refl _ _) (Nat.le_refl _) (by simp) ?_; (case hd => rfl); (case hg => rfl); (case hr => first | (go_simp; done) | (go_simp; rfl)); (case hp => exact (Reps.one (show Kd.M (Kd.int .i64) _ _ _ (-1) [.int .i64 (-1)] from rfl) (Reps.none _ _))); intro v421 w4 ho5 hb hg_ hnew_; clear hg_ hnew_; (first | rw [← Ny420.out] at ho5 | (simp only [Int.reduceToNat] at ho5; rw [← Ny420.out] at ho5)); have HO422 := aS_ (Kd.R_lower ho5 (below_size (bb_ HB))); replace BK419 := kO_ BK419 hb; replace HB := bE_ HB hb; clear hb ho5; obtain ⟨Ao6, co6, eo6⟩ := Kd.R_slice HO422.out; subst eo6) | ((with_reducible refine gg_ ?_); refine gc_ 76 (some 5) Tryz.func76 #[.slice Ao6 y420.length co6, .int .i64 a0] ?_; (with_reducible refine (slices_Repeat_int_int.calls _ _ y420 a0 t423 _ ?side1 ?side2 A2.out).mono ?_); (case side1 => exact cR_ HO422); (case side2 => exact (Kd.R_reads' HO422.out).2.1); rintro e w7 ⟨v424, rfl, ho0, hb⟩; refine ⟨_, rfl, ?_⟩; have HO425 := aS_ (Kd.R_lower (Kd.R_new' ho0 (Kd.R_lt (rr_ HO422))) (below_size (bb_ HB))); replace HO422 := aS_ (Kd.R_elder' (rr_ HO422) (Kd.R_base ho0) hb); replace BK419 := kO_ BK419 hb; replace HB := bE_ HB hb; (try clear hb); (try clear ho0); obtain ⟨Ao8, co8, eo8⟩ := Kd.R_slice HO425.out; subst eo8; obtain ⟨hcz9_0, hfz9_0⟩ := c10_ BK419))
 refine bodyPost_ret (results_cell_row rfl _ _ gb419 26 #[.slice Ao8 t423.length co8] (0, 0) _ rfl (by (with_reducible repeat (first | refine kN_ ?_ _ | refine kD_ ?_ | refine kA_ ?_ _)); refine blk_put (cs := #[.slice none 0 0]) ?_ 0 _ rfl; (with_reducible repeat (first | refine kN_ ?_ _ | refine kD_ ?_ | refine kA_ ?_ _)); exact BK419.out) Tryz.underlying26 rfl (by kernel_rfl)) rfl ?_
 exact ⟨_, by first | rfl | (simp [errW_none, errW_some] <;> rfl) | (simp [*, errW_none, errW_some] <;> rfl), by (with_reducible repeat (first | apply rA_ | apply rN_ | apply rD_)); exact Kd.R_mono (Kd.R_far (p := ⟨gb419, 0, none⟩) (Kd.R_types HO425.out BK419.out (by decide)) (fun _ hk => hk.2) (.slice Ao8 t423.length co8)) (fun _ hk => trivial), bb_ HB⟩
/-! ### impl_Table_insert: function 43 -/
def impl_Table_insert.l0 : Nat → Int → Int → List Int → Option (Int × List Int)
 | 0, _, _, _ => none
 | k + 1, x1, x5, x427000 => if 0 ≤ x5 then (if x5 < (x427000.length : Int) then (if (rd x427000 x5) ≥ 0 then (if (x427000.length : Int) = 0 then (none) else (impl_Table_insert.l0 k x1 (Int.tmod (wrap64 (x5 + 1)) (x427000.length : Int)) x427000)) else (some (x5, (x427000.set (x5 : Int).toNat x1)))) else (none)) else (none)
def impl_Table_insert.f (k : Nat) (l0_0 : List Int) (a1 : Int) : Option (Int × List Int) := if (l0_0.length : Int) = 0 then (none) else (impl_Table_insert.l0 k a1 (Int.tmod a1 (l0_0.length : Int)) l0_0)
theorem impl_Table_insert.mono_l : ∀ k, (∀ y0 y1 y2, LeO (impl_Table_insert.l0 k y0 y1 y2) (impl_Table_insert.l0 (k + 1) y0 y1 y2))
 | 0 => fun _ _ _ r h => by simp [impl_Table_insert.l0] at h
 | k + 1 => by
  have ih0 := impl_Table_insert.mono_l k
  intro y0 y1 y2
  unfold impl_Table_insert.l0
  exact mo1_ ih0
theorem impl_Table_insert.mono : ∀ a0 a1 k, LeO (impl_Table_insert.f k a0 a1) (impl_Table_insert.f (k + 1) a0 a1) := by
 intro a0 a1 k
 have ih0 := impl_Table_insert.mono_l k
 unfold impl_Table_insert.f
 exact mo1_ ih0
set_option maxHeartbeats 8000000 in
set_option maxRecDepth 100000 in
theorem impl_Table_insert.calls (k : Nat) (P0_0_ : Nat → Prop) (u9000_ : Value) (l0_0 : List Int) (a1 : Int) (r1 : Int) (r2 : List Int) (w0 w : World) (hB : Below w0.heap.size w0 w) (ho0_0 : Kd.R (Kd.int .i64) 3 w w0.heap.size P0_0_ u9000_ l0_0) (h : impl_Table_insert.f k l0_0 a1 = some (r1, r2)) :
  Calls Tryz.prog 43 #[.agg #[u9000_], .int .i64 a1] w fun e w' => e = .returned (.int .i64 r1) ∧ Kd.R (Kd.int .i64) 3 w' w0.heap.size (fun k_ => (P0_0_ k_ ∨ w.heap.size ≤ k_)) u9000_ r2 ∧ Below w0.heap.size w0 w' ∧ Kept w w' (fun k_ => P0_0_ k_) := by
 have hu26 := Tryz.underlying26
 have HO0_0 := aS_ (show Kd.R (Kd.int .i64) 3 w w0.heap.size (fun k_ => (P0_0_ k_ ∨ w.heap.size ≤ k_)) u9000_ l0_0 from Kd.R_mono ho0_0 (fun k_ hk => (.inl hk)))
 have HK := aS_ (Kept.refl w (fun k_ => P0_0_ k_))
 have HW0 := aS_ hB.size
 have HB := aS_ hB
 clear hB
 have H : (if (l0_0.length : Int) = 0 then (none) else (impl_Table_insert.l0 k a1 (Int.tmod a1 (l0_0.length : Int)) l0_0)) = some (r1, r2) := h
 clear h
 replace H := jn_ H; obtain ⟨c3, H⟩ := H
 have c3b0 : ((l0_0.length : Int) == 0) = false := beq_eq_false_iff_ne.mpr c3
 have c3b1 : ((l0_0.length : Int) != 0) = true := bne_iff_ne.mpr c3
 have c3b2 : ¬ (l0_0 = []) := fun h_ => c3 (by rw [h_]; rfl)
 have H' := aS_ H
 clear H
 obtain ⟨Ao4, co4, eo4⟩ := Kd.R_slice HO0_0.out
 subst eo4
 go_enter Tryz.func43, Tryz.ntmps43
 go_wp2_with (first | ((with_reducible refine gg_ ?_); refine bx_ 2 #[.slice Ao4 l0_0.length co4] 26 ?_; intro gb426 hg w5 hbox hb; replace HO0_0 := aS_ (Kd.R_below (rr_ HO0_0) hb); have BK426 := aS_ (hbox); have GW426 := aS_ ((by rw [hg]; exact (by first | exact HK.out.1 | exact (show Kept w _ (fun k_ => P0_0_ k_) from by repeat (first | (with_reducible first | exact HK.out | apply Kept.alloc | apply Kept.drewN | apply Kept.drew) | exact HK.out)).1) : w.heap.size ≤ gb426)); replace HK := aS_ (Kept.below (S := (fun k_ => P0_0_ k_)) (by repeat (first | (with_reducible first | exact HK.out | apply Kept.alloc | apply Kept.drewN | apply Kept.drew) | exact HK.out)) hb); have GE426 := gE_ HB hg; replace HB := bE_ HB hb; clear hb hbox hg; obtain ⟨hcz6_0, hfz6_0⟩ := c10_ BK426))
 go_loopg [5] k (fun kq v5 w' => ∃ (x5_1 : Int), v5 = .int .i64 x5_1 ∧ Aside0 (impl_Table_insert.l0 kq a1 x5_1 l0_0 = some (r1, r2)) ∧ Aside0 (kq ≤ k) ∧ Aside0 (Kd.R (Kd.int .i64) 3 w' w0.heap.size (fun k_ => (P0_0_ k_ ∨ w.heap.size ≤ k_)) (.slice Ao4 l0_0.length co4) l0_0) ∧ Aside0 (w'.heap[gb426]? = some (.cells #[(.slice Ao4 l0_0.length co4)] 26 (0, 0))) ∧ Aside0 (Kept w w' (fun k_ => P0_0_ k_)) ∧ Aside0 (Below w0.heap.size w0 w'))
 case atStart => exact ⟨(Int.tmod a1 (l0_0.length : Int)), sR_, H', ⟨Nat.le_refl _⟩, ⟨rr_ HO0_0⟩, ⟨kk_ BK426⟩, ⟨by repeat (first | (with_reducible first | exact HK.out | apply Kept.alloc | apply Kept.drewN | apply Kept.drew | refine Kept.setCell ?_ (.inr GW426.out) _) | exact HK.out)⟩, ⟨bb_ HB⟩⟩
 case round =>
 clear H'
 try clear c3
 try clear c3b0
 try clear c3b1
 try clear c3b2
 try clear hcz6_0
 try clear hfz6_0
 obtain ⟨x5_1, rfl, HA, HK1, HO_427000, BK426, HK, HB⟩ := hrel
 cases gk with
 | zero => exact absurd HA.out (by simp [impl_Table_insert.l0])
 | succ k1 =>
 have H := HA.out
 clear HA
 simp only [impl_Table_insert.l0] at H
 replace H := jd_ H; obtain ⟨c7b0, H⟩ := H
 replace H := jd_ H; obtain ⟨c8b0, H⟩ := H
 replace H := id_ H; rcases H with ⟨c9b0, H⟩ | ⟨c9b0, H⟩
 ·replace H := jn_ H; obtain ⟨c10, H⟩ := H
  have c10b0 : ((l0_0.length : Int) == 0) = false := beq_eq_false_iff_ne.mpr c10
  have c10b1 : ((l0_0.length : Int) != 0) = true := bne_iff_ne.mpr c10
  have c10b2 : ¬ (l0_0 = []) := fun h_ => c10 (by rw [h_]; rfl)
  have H' := aS_ H
  clear H
  obtain ⟨hcz11_0, hfz11_0⟩ := c10_ BK426
  have p427 : 0 ≤ (x5_1 : Int) := of_decide_eq_true (by assumption)
  have q427 : x5_1 < (l0_0.length : Int) := of_decide_eq_true (by assumption)
  obtain ⟨ad427, e427, hx427_0⟩ := Kd.at_int (Kd.R_reads' HO_427000.out).2.2 x5_1 p427 q427
  cases e427
  replace p427 := eq_true p427
  replace q427 := eq_true q427
  go_wp2
  go_roundg k1
  case measure => have := HK1.out; omega
  case rel => exact ⟨(Int.tmod (wrap64 (x5_1 + 1)) (l0_0.length : Int)), sR_, H', ⟨by have := HK1.out; omega⟩, ⟨rr_ HO_427000⟩, ⟨kk_ BK426⟩, ⟨by repeat (first | (with_reducible first | exact HK.out | apply Kept.alloc | apply Kept.drewN | apply Kept.drew | refine Kept.setCell ?_ (.inr GW426.out) _) | exact HK.out)⟩, ⟨bb_ HB⟩⟩
 obtain ⟨y428, hy428⟩ : ∃ y_ : List Int, y_ = (l0_0.set (x5_1 : Int).toNat a1) := ⟨_, rfl⟩
 replace H : (some (x5_1, y428)) = some (r1, r2) := yH_ hy428 H
 have Ny428 := aS_ hy428
 clear hy428
 simp only [Option.some.injEq, Prod.mk.injEq] at H
 obtain ⟨rfl, rfl⟩ := H
 obtain ⟨hcz13_0, hfz13_0⟩ := c10_ BK426
 have p427 : 0 ≤ (x5_1 : Int) := of_decide_eq_true (by assumption)
 have q427 : x5_1 < (l0_0.length : Int) := of_decide_eq_true (by assumption)
 obtain ⟨ad427, e427, hx427_0⟩ := Kd.at_int (Kd.R_reads' HO_427000.out).2.2 x5_1 p427 q427
 cases e427
 replace p427 := eq_true p427
 replace q427 := eq_true q427
 have p12 : 0 ≤ (x5_1 : Int) := of_decide_eq_true (by assumption)
 have q12 : (x5_1 : Int) < ((l0_0.length : Int) : Int) := of_decide_eq_true (by assumption)
 obtain ⟨go12, co12, eo12, gb12, gl12, cl12, HG12⟩ := Kd.R_form HO_427000.out (by omega)
 (first | cases eo12 | (injection eo12 with ea_ en_ ec_; (first | subst ea_ | (injection ea_ with ea_; subst ea_)); subst ec_; clear en_))
 have GB12 := aS_ gb12
 have GG12 := aS_ HG12
 clear gb12 gl12 HG12
 have HMgo12 := aS_ (show (P0_0_ go12 ∨ w.heap.size ≤ go12) from (HO_427000.out.1 _ rfl))
 (first | simp only [add_plain] at hx427_0 | skip)
 obtain ⟨hx12_0, hf12_0⟩ := Kd.R_celln 0 HO_427000.out (x5_1 : Int) p12 q12
 replace p12 := eq_true p12
 replace q12 := eq_true q12
 have HP14 := Kd.R_putg HO_427000.out (x5_1 : Int) a1
 go_wp2_with (first | ((with_reducible refine gate_store (t := 3) (p := 27) rfl ?_); refine store_event (t := 3) (p := 27) (v := ?vo_w15) (w1 := (wr.setCell ⟨go12, (x5_1 : Int).toNat, none⟩ (.int .i64 a1))) ?hg ?ho ?hn ?hr ?_; (case ho => rfl); (case hg => rfl); (case hn => rfl); (case hr => first | (go_simp; done) | (go_simp; rfl)); intro w15 hw; have hg : wr.grownBy w15 (some go12) := (by rw [hw]; exact HP14.2); have hp_ : Kd.R (Kd.int .i64) 3 w15 w0.heap.size (fun k_ => (P0_0_ k_ ∨ w.heap.size ≤ k_)) (.slice (some ⟨go12, 0, none⟩) l0_0.length co4) y428 := (by rw [hw, Ny428.out]; exact HP14.1); clear HP14; replace BK426 := aS_ (blk_grown (g := gb426) (o := .cells #[.slice (some ⟨go12, 0, none⟩) l0_0.length co4] 26 (0, 0)) (kk_ BK426) hg (Kd.R_ne HO_427000.out BK426.out (by decide))); replace HB := aS_ ((by rw [hw]; exact bS_ (HB.out) GB12.out : Below w0.heap.size w0 w15)); replace HK := aS_ (Kept.of_grown (S := (fun k_ => P0_0_ k_)) hg (by repeat (first | (with_reducible first | exact HK.out | apply Kept.alloc | apply Kept.drewN | apply Kept.drew | refine Kept.setCell ?_ (.inr GW426.out) _) | exact HK.out)) (fun k_ e_ => (HO_427000.out.1 k_ e_))); replace HO_427000 := aS_ (hp_); clear hg hw hp_))
 go_ret
 exact ⟨eR_, rr_ HO_427000, bb_ HB, by repeat (first | (with_reducible first | exact HK.out | apply Kept.alloc | apply Kept.drewN | apply Kept.drew | refine Kept.setCell ?_ (.inr GW426.out) _) | exact HK.out)⟩
/-! ### impl_TableOf: function 14 -/
def impl_TableOf.l0 : Nat → List Int → Int → Int → List Int → Option (List Int × Bool)
 | 0, _, _, _, _ => none
 | k + 1, x16, x17, x18, x435000 => if x18 < x17 then (if 0 ≤ x18 then (if x18 < (x16.length : Int) then ((impl_Table_insert.f k x435000 (rd x16 x18)).bind fun bt436 => (impl_TableOf.l0 k x16 x17 (wrap64 (x18 + 1)) bt436.2)) else (none)) else (none)) else (some (x435000, true))
def impl_TableOf.f (k : Nat) (a0 : Int) (l1 : List Int) : Option (List Int × Bool) := (impl_areKeys.f l1 a0).bind fun t430 => (if t430 = true then ((impl_empty.f a0).bind fun t431 => (impl_TableOf.l0 k l1 (l1.length : Int) 0 t431)) else (some (([] : List Int), false)))
theorem impl_TableOf.mono_l : ∀ k, (∀ y0 y1 y2 y3, LeO (impl_TableOf.l0 k y0 y1 y2 y3) (impl_TableOf.l0 (k + 1) y0 y1 y2 y3))
 | 0 => fun _ _ _ _ r h => by simp [impl_TableOf.l0] at h
 | k + 1 => by
  have ih0 := impl_TableOf.mono_l k
  intro y0 y1 y2 y3
  unfold impl_TableOf.l0
  exact mo2_ ih0 impl_Table_insert.mono
theorem impl_TableOf.mono : ∀ a0 a1 k, LeO (impl_TableOf.f k a0 a1) (impl_TableOf.f (k + 1) a0 a1) := by
 intro a0 a1 k
 have ih0 := impl_TableOf.mono_l k
 unfold impl_TableOf.f
 exact mo2_ ih0 impl_Table_insert.mono
set_option maxHeartbeats 8000000 in
set_option maxRecDepth 100000 in
theorem impl_TableOf.calls (k : Nat) (a0 : Int) (A1 : Option Addr) (c1 : Nat) (l1 : List Int) (r1 : List Int) (r2 : Bool) (w : World) (hr1 : Kd.C (Kd.int .i64) w A1 l1.length l1) (hc1 : l1.length ≤ c1) (h : impl_TableOf.f k a0 l1 = some (r1, r2)) :
  Calls Tryz.prog 14 #[.int .i64 a0, .slice A1 l1.length c1] w fun e w' => ∃ v0_ : Value, e = .returned (.tuple #[.agg #[v0_], .bool r2]) ∧ Kd.R (Kd.int .i64) 3 w' w.heap.size (fun _ => True) v0_ r1 ∧ Below w.heap.size w w' := by
 have hu26 := Tryz.underlying26
 have HR1 := aS_ hr1
 have HC1 := aS_ hc1
 clear hr1 hc1
 have HB := aS_ (Below.refl w.heap.size w)
 have H : ((impl_areKeys.f l1 a0).bind fun t430 => (if t430 = true then ((impl_empty.f a0).bind fun t431 => (impl_TableOf.l0 k l1 (l1.length : Int) 0 t431)) else (some (([] : List Int), false)))) = some (r1, r2) := h
 clear h
 replace H := bs_ H; obtain ⟨t430, A3, H⟩ := H
 replace H := it_ H; rcases H with ⟨rfl, H⟩ | ⟨rfl, H⟩
 ·replace H := bs_ H; obtain ⟨t431, A5, H⟩ := H
  have H' := aS_ H
  clear H
  go_enter Tryz.func14, Tryz.ntmps14
  go_wp2_with (first | ((with_reducible refine gg_ ?_); refine bx_ 4 #[.slice none 0 0] 26 ?_; intro gb429 hg w6 hbox hb; have BK429 := aS_ (hbox); have GW429 := gE_ HB hg; have GE429 := gE_ HB hg; replace HB := bE_ HB hb; clear hb hbox hg) | ((with_reducible refine gg_ ?_); refine gc_ 41 (some 11) Tryz.func41 #[.slice A1 l1.length c1, .int .i64 a0] ?_; (with_reducible refine (impl_areKeys.calls _ _ l1 a0 true _ ?side1 ?side2 A3.out).mono ?_); (case side1 => exact cB_ HR1 HB); (case side2 => exact HC1.out); rintro e w7 ⟨rfl, hb⟩; refine ⟨_, rfl, ?_⟩; replace BK429 := kO_ BK429 hb; replace HB := bE_ HB hb; (try clear hb)) | ((with_reducible refine gg_ ?_); refine gc_ 42 (some 15) Tryz.func42 #[.int .i64 a0] ?_; (with_reducible refine (impl_empty.calls a0 t431 _ A5.out).mono ?_); rintro e w8 ⟨v432, rfl, ho0, hb⟩; refine ⟨_, rfl, ?_⟩; have HO433 := aS_ (Kd.R_lower ho0 (below_size (bb_ HB))); replace BK429 := kO_ BK429 hb; replace HB := bE_ HB hb; (try clear hb); (try clear ho0)) | ((with_reducible refine gg_ ?_); refine bx_ 6 #[.slice none 0 0] 26 ?_; intro gb434 hg w9 hbox hb; replace HO433 := aS_ (Kd.R_below (rr_ HO433) hb); have BK434 := aS_ (hbox); have GW434 := gE_ HB hg; have GE434 := gE_ HB hg; replace HB := bE_ HB hb; have NB429_434 := nL_ BK429 hg; have NB434_429 := nG_ BK429 hg; replace BK429 := kO_ BK429 hb; clear hb hbox hg; obtain ⟨Ao10, co10, eo10⟩ := Kd.R_slice HO433.out; subst eo10; have hnb11 := NB434_429.out; have hnc11 := NB429_434.out; obtain ⟨hcz12_0, hfz12_0⟩ := c10_ BK434))
  go_loopg [18] k (fun kq v18 w' => ∃ (x18_1 : Int) (x435000_1 : List Int) (u435000 : Value), v18 = .int .i64 x18_1 ∧ Aside0 (impl_TableOf.l0 kq l1 (l1.length : Int) x18_1 x435000_1 = some (r1, r2)) ∧ Aside0 (kq ≤ k) ∧ Aside0 (Kd.R (Kd.int .i64) 3 w' w.heap.size (fun _ => True) u435000 x435000_1) ∧ Aside0 (w'.heap[gb429]? = some (.cells #[(.slice none 0 0)] 26 (0, 0))) ∧ Aside0 (w'.heap[gb434]? = some (.cells #[u435000] 26 (0, 0))) ∧ Aside0 (Below w.heap.size w w'))
  case atStart => exact ⟨(0), (t431), (.slice Ao10 t431.length co10), sR_, H', ⟨Nat.le_refl _⟩, ⟨by (with_reducible repeat (first | apply rA_ | apply rN_ | apply rD_)); exact Kd.R_mono (Kd.R_far (p := ⟨gb434, 0, none⟩) (Kd.R_types HO433.out BK434.out (by decide)) (fun _ hk => hk.2) (.slice Ao10 t431.length co10)) (fun _ hk => trivial)⟩, ⟨by (with_reducible repeat (first | refine kN_ ?_ _ | refine kD_ ?_ | refine kA_ ?_ _)); refine blk_far ?_ NB429_434.out _; (with_reducible repeat (first | refine kN_ ?_ _ | refine kD_ ?_ | refine kA_ ?_ _)); exact BK429.out⟩, ⟨by (with_reducible repeat (first | refine kN_ ?_ _ | refine kD_ ?_ | refine kA_ ?_ _)); refine blk_put (cs := #[.slice none 0 0]) ?_ 0 _ rfl; (with_reducible repeat (first | refine kN_ ?_ _ | refine kD_ ?_ | refine kA_ ?_ _)); exact BK434.out⟩, ⟨bb_ HB⟩⟩
  case round =>
  clear H'
  try clear c1
  try clear hcz12_0
  try clear hfz12_0
  obtain ⟨x18_1, x435000_1, u435000, rfl, HA, HK1, HO_435000, BK429, BK434, HB⟩ := hrel
  cases gk with
  | zero => exact absurd HA.out (by simp [impl_TableOf.l0])
  | succ k1 =>
  have H := HA.out
  clear HA
  simp only [impl_TableOf.l0] at H
  replace H := id_ H; rcases H with ⟨c13b0, H⟩ | ⟨c13b0, H⟩
  ·replace H := jd_ H; obtain ⟨c14b0, H⟩ := H
   replace H := jd_ H; obtain ⟨c15b0, H⟩ := H
   replace H := bs_ H; obtain ⟨⟨t436, t437⟩, A16, H⟩ := H
   have H' := aS_ H
   clear H
   have p435 : 0 ≤ (x18_1 : Int) := of_decide_eq_true (by assumption)
   have q435 : x18_1 < (l1.length : Int) := of_decide_eq_true (by assumption)
   obtain ⟨ad435, e435, hx435_0⟩ := Kd.at_int HR1.out x18_1 p435 q435
   cases e435
   replace hx435_0 := (HB.out.cell (World.block_lt_of_cell? w _ hx435_0)).trans hx435_0
   replace p435 := eq_true p435
   replace q435 := eq_true q435
   have hnb17 := NB434_429.out
   have hnc17 := NB429_434.out
   obtain ⟨hcz18_0, hfz18_0⟩ := c10_ BK434
   obtain ⟨Ao19, co19, eo19⟩ := Kd.R_slice HO_435000.out
   subst eo19
   go_wp2_with (first | ((with_reducible refine gg_ ?_); refine gc_ 43 (some 24) Tryz.func43 #[.agg #[.slice Ao19 x435000_1.length co19], .int .i64 (rd l1 x18_1)] ?_; (with_reducible refine (impl_Table_insert.calls k1 (fun k_ => some k_ = (.slice Ao19 x435000_1.length co19 : Value).ownBlock) (.slice Ao19 x435000_1.length co19) x435000_1 (rd l1 x18_1) t436 t437 w _ ?side1 ?side2 A16.out).mono ?_); (case side1 => repeat (first | (with_reducible first | exact HB.out | apply bA_ | apply pN_ | apply bD_ | refine bS_ ?_ GE429.out | refine bS_ ?_ GE434.out) | exact HB.out)); (case side2 => exact Kd.R_tight rfl HO_435000.out); rintro e w20 ⟨rfl, hy0, hb, hkp⟩; refine ⟨_, rfl, ?_⟩; replace BK429 := aS_ (blk_kept (kk_ BK429) hkp (fun hs_ => (fun e_ => (Kd.R_ne HO_435000.out BK429.out (by decide)) e_) hs_)); replace BK434 := aS_ (blk_kept (kk_ BK434) hkp (fun hs_ => (fun e_ => (Kd.R_ne HO_435000.out BK434.out (by decide)) e_) hs_)); replace HO_435000 := aS_ (Kd.R_reok rfl hy0 (fun k_ e_ => HO_435000.out.1 k_ e_)); replace HB := aS_ (hb); (try clear hb); (try clear hkp); (try clear hy0)))
   go_roundg k1
   case measure => have := HK1.out; omega
   case rel => exact ⟨(wrap64 (x18_1 + 1)), (t437), (.slice Ao19 x435000_1.length co19), sR_, H', ⟨by have := HK1.out; omega⟩, ⟨rr_ HO_435000⟩, ⟨kk_ BK429⟩, ⟨kk_ BK434⟩, ⟨bb_ HB⟩⟩
  simp only [Option.some.injEq, Prod.mk.injEq] at H
  obtain ⟨rfl, rfl⟩ := H
  have hnb21 := NB434_429.out
  have hnc21 := NB429_434.out
  obtain ⟨hcz22_0, hfz22_0⟩ := c10_ BK434
  obtain ⟨Ao23, co23, eo23⟩ := Kd.R_slice HO_435000.out
  subst eo23
  obtain ⟨hcz24_0, hfz24_0⟩ := c10_ BK429
  go_wp2
  refine bodyPost_ret (results_ct rfl _ _ gb429 26 #[.slice Ao23 x435000_1.length co23] (0, 0) _ rfl (by (with_reducible repeat (first | refine kN_ ?_ _ | refine kD_ ?_ | refine kA_ ?_ _)); refine blk_put (cs := #[.slice none 0 0]) ?_ 0 _ rfl; (with_reducible repeat (first | refine kN_ ?_ _ | refine kD_ ?_ | refine kA_ ?_ _)); exact BK429.out) Tryz.underlying26 rfl (by kernel_rfl)) rfl ?_
  exact ⟨_, by first | rfl | (simp [errW_none, errW_some] <;> rfl) | (simp [*, errW_none, errW_some] <;> rfl), by (with_reducible repeat (first | apply rA_ | apply rN_ | apply rD_)); exact Kd.R_mono (Kd.R_far (p := ⟨gb429, 0, none⟩) (Kd.R_types HO_435000.out BK429.out (by decide)) (fun _ hk => hk.2) (.slice Ao23 x435000_1.length co23)) (fun _ hk => trivial), bb_ HB⟩
 simp only [Option.some.injEq, Prod.mk.injEq] at H
 obtain ⟨rfl, rfl⟩ := H
 go_enter Tryz.func14, Tryz.ntmps14
 go_wp2_with (first | ((with_reducible refine gg_ ?_); refine bx_ 4 #[.slice none 0 0] 26 ?_; intro gb429 hg w25 hbox hb; have BK429 := aS_ (hbox); have GW429 := gE_ HB hg; have GE429 := gE_ HB hg; replace HB := bE_ HB hb; clear hb hbox hg) | ((with_reducible refine gg_ ?_); refine gc_ 41 (some 11) Tryz.func41 #[.slice A1 l1.length c1, .int .i64 a0] ?_; (with_reducible refine (impl_areKeys.calls _ _ l1 a0 false _ ?side1 ?side2 A3.out).mono ?_); (case side1 => exact cB_ HR1 HB); (case side2 => exact HC1.out); rintro e w26 ⟨rfl, hb⟩; refine ⟨_, rfl, ?_⟩; replace BK429 := kO_ BK429 hb; replace HB := bE_ HB hb; (try clear hb); obtain ⟨hcz27_0, hfz27_0⟩ := c10_ BK429))
 refine bodyPost_ret (results_ct rfl _ _ gb429 26 #[.slice none 0 0] (0, 0) _ rfl (by (with_reducible repeat (first | refine kN_ ?_ _ | refine kD_ ?_ | refine kA_ ?_ _)); refine blk_put (cs := #[.slice none 0 0]) ?_ 0 _ rfl; (with_reducible repeat (first | refine kN_ ?_ _ | refine kD_ ?_ | refine kA_ ?_ _)); exact BK429.out) Tryz.underlying26 rfl (by kernel_rfl)) rfl ?_
 exact ⟨_, by first | rfl | (simp [errW_none, errW_some] <;> rfl) | (simp [*, errW_none, errW_some] <;> rfl), by first | exact Kd.R_nil _ _ _ _ _ | exact Kd.N_nil _ _ _ _ _ | exact Kd.V_nil _ _ _ _ _ | exact Kd.Q_nil _ _ _ _ _ | exact Kd.S_nil _ _ _ _ _, bb_ HB⟩
/-! ### laws_jTable: function 15 -/
def laws_jTable.f (k : Nat) (l0_0 : List Int) (l1_0 : List Int) : Option (Bool) := (laws_jSame.f k l0_0 l1_0).bind fun t440 => (some t440)
theorem laws_jTable.mono : ∀ a0 a1 k, LeO (laws_jTable.f k a0 a1) (laws_jTable.f (k + 1) a0 a1) := by
 intro a0 a1 k
 unfold laws_jTable.f
 exact mo1_ laws_jSame.mono
set_option maxHeartbeats 8000000 in
set_option maxRecDepth 100000 in
theorem laws_jTable.calls (k : Nat) (A0_0 : Option Addr) (c0_0 : Nat) (l0_0 : List Int) (A1_0 : Option Addr) (c1_0 : Nat) (l1_0 : List Int) (r : Bool) (w : World) (hr0_0 : Kd.C (Kd.int .i64) w A0_0 l0_0.length l0_0) (hc0_0 : l0_0.length ≤ c0_0) (hr1_0 : Kd.C (Kd.int .i64) w A1_0 l1_0.length l1_0) (hc1_0 : l1_0.length ≤ c1_0) (h : laws_jTable.f k l0_0 l1_0 = some r) :
  Calls Tryz.prog 15 #[.agg #[.slice A0_0 l0_0.length c0_0], .agg #[.slice A1_0 l1_0.length c1_0]] w fun e w' => e = .returned (.bool r) ∧ Below w.heap.size w w' := by
 have hu26 := Tryz.underlying26
 have HR0_0 := aS_ hr0_0
 have HC0_0 := aS_ hc0_0
 clear hr0_0 hc0_0
 have HR1_0 := aS_ hr1_0
 have HC1_0 := aS_ hc1_0
 clear hr1_0 hc1_0
 have HB := aS_ (Below.refl w.heap.size w)
 have H : ((laws_jSame.f k l0_0 l1_0).bind fun t440 => (some t440)) = some r := h
 clear h
 replace H := bs_ H; obtain ⟨t440, A3, H⟩ := H
 obtain rfl := Option.some.inj H
 go_enter Tryz.func15, Tryz.ntmps15
 go_wp2_with (first | ((with_reducible refine gg_ ?_); refine bx_ 2 #[.slice A0_0 l0_0.length c0_0] 26 ?_; intro gb438 hg w4 hbox hb; have BK438 := aS_ (hbox); have GW438 := gE_ HB hg; have GE438 := gE_ HB hg; replace HB := bE_ HB hb; clear hb hbox hg) | ((with_reducible refine gg_ ?_); refine bx_ 3 #[.slice A1_0 l1_0.length c1_0] 26 ?_; intro gb439 hg w5 hbox hb; have BK439 := aS_ (hbox); have GW439 := gE_ HB hg; have GE439 := gE_ HB hg; replace HB := bE_ HB hb; have NB438_439 := nL_ BK438 hg; have NB439_438 := nG_ BK438 hg; replace BK438 := kO_ BK438 hb; clear hb hbox hg; have hnb6 := NB438_439.out; have hnc6 := NB439_438.out; obtain ⟨hcz7_0, hfz7_0⟩ := c10_ BK438; obtain ⟨hcz8_0, hfz8_0⟩ := c10_ BK439) | ((with_reducible refine gg_ ?_); refine gc_ 12 (some 9) Tryz.func12 #[.slice A0_0 l0_0.length c0_0, .slice A1_0 l1_0.length c1_0] ?_; (with_reducible refine (laws_jSame.calls k _ _ l0_0 _ _ l1_0 t440 _ ?side1 ?side2 ?side3 ?side4 A3.out).mono ?_); (case side1 => exact cB_ HR0_0 HB); (case side2 => exact HC0_0.out); (case side3 => exact cB_ HR1_0 HB); (case side4 => exact HC1_0.out); rintro e w' ⟨rfl, ⟨nd, rfl⟩⟩; refine ⟨_, rfl, ?_⟩))
 go_ret
 exact ⟨eR_, bb_ HB⟩
/-! ### impl_AreFavourites: function 77 -/
def impl_AreFavourites.f (l0 : List Int) (a1 : Int) : Option (Bool) := (impl_between.f a1 1 12).bind fun t441 => (if t441 = true then (if (l0.length : Int) ≤ 8 then ((impl_areBetween.f l0 0 (wrap64 (a1 - 1))).bind fun t442 => (some t442)) else (some false)) else (some false))
set_option maxHeartbeats 8000000 in
set_option maxRecDepth 100000 in
theorem impl_AreFavourites.calls (A0 : Option Addr) (c0 : Nat) (l0 : List Int) (a1 : Int) (r : Bool) (w : World) (hr0 : Kd.C (Kd.int .i64) w A0 l0.length l0) (hc0 : l0.length ≤ c0) (h : impl_AreFavourites.f l0 a1 = some r) :
  Calls Tryz.prog 77 #[.slice A0 l0.length c0, .int .i64 a1] w fun e w' => e = .returned (.bool r) ∧ Below w.heap.size w w' := by
 have HR0 := aS_ hr0
 have HC0 := aS_ hc0
 clear hr0 hc0
 have HB := aS_ (Below.refl w.heap.size w)
 have H : ((impl_between.f a1 1 12).bind fun t441 => (if t441 = true then (if (l0.length : Int) ≤ 8 then ((impl_areBetween.f l0 0 (wrap64 (a1 - 1))).bind fun t442 => (some t442)) else (some false)) else (some false))) = some r := h
 clear h
 replace H := bs_ H; obtain ⟨t441, A3, H⟩ := H
 replace H := it_ H; rcases H with ⟨rfl, H⟩ | ⟨rfl, H⟩
 ·by_cases c5 : (l0.length : Int) ≤ 8
  ·rw [if_pos c5] at H
   have c5b0 : decide ((l0.length : Int) ≤ 8) = true := decide_eq_true c5
   have c5b1 : decide (l0.length ≤ 8) = true := decide_eq_true (by omega)
   clear c5
   replace H := bs_ H; obtain ⟨t442, A6, H⟩ := H
   obtain rfl := Option.some.inj H
   go_enter Tryz.func77, Tryz.ntmps77
   go_wp2_with (first | ((with_reducible refine gg_ ?_); refine gc_ 37 (some 6) Tryz.func37 #[.int .i64 a1, .int .i64 1, .int .i64 12] ?_; (with_reducible refine (impl_between.calls a1 1 12 true _ A3.out).mono ?_); rintro e w' ⟨rfl, ⟨nd, rfl⟩⟩; refine ⟨_, rfl, ?_⟩) | (go_at_call 62; (with_reducible refine (impl_areBetween.calls _ _ l0 0 (wrap64 (a1 - 1)) t442 _ ?side1 ?side2 A6.out).mono ?_); (case side1 => repeat (first | exact HR0.out | (with_reducible refine Kd.C_alloc ?_ _) | (with_reducible refine Kd.C_drewN ?_ _) | (with_reducible refine Kd.C_drew ?_))); (case side2 => exact HC0.out); rintro e w7 ⟨rfl, hb⟩; replace HB := bE_ HB hb; (try clear hb)))
   go_ret
   exact ⟨eR_, bb_ HB⟩
  rw [if_neg c5] at H
  have c5b0 : decide ((l0.length : Int) ≤ 8) = false := decide_eq_false c5
  have c5b1 : decide (l0.length ≤ 8) = false := decide_eq_false (by omega)
  clear c5
  obtain rfl := Option.some.inj H
  go_enter Tryz.func77, Tryz.ntmps77
  go_wp2_with (first | ((with_reducible refine gg_ ?_); refine gc_ 37 (some 6) Tryz.func37 #[.int .i64 a1, .int .i64 1, .int .i64 12] ?_; (with_reducible refine (impl_between.calls a1 1 12 true _ A3.out).mono ?_); rintro e w' ⟨rfl, ⟨nd, rfl⟩⟩; refine ⟨_, rfl, ?_⟩))
  go_ret
  exact ⟨eR_, bb_ HB⟩
 obtain rfl := Option.some.inj H
 go_enter Tryz.func77, Tryz.ntmps77
 go_wp2_with (first | ((with_reducible refine gg_ ?_); refine gc_ 37 (some 6) Tryz.func37 #[.int .i64 a1, .int .i64 1, .int .i64 12] ?_; (with_reducible refine (impl_between.calls a1 1 12 false _ A3.out).mono ?_); rintro e w' ⟨rfl, ⟨nd, rfl⟩⟩; refine ⟨_, rfl, ?_⟩))
 go_ret
 exact ⟨eR_, bb_ HB⟩
/-! ### impl_drive: function 78 -/
mutual
def impl_drive.l0 : Nat → Int → List Bool → List Int → List Int → Int → Int → Option (List Int × Bool)
 | 0, _, _, _, _, _, _ => none
 | k + 1, x1, x6, x7, x13, x14, x15 => if x15 < x14 then (if 0 ≤ x15 then (if x15 < (x13.length : Int) then (impl_drive.l1 k x1 x6 x7 (rd x13 x15) x13 x14 x15) else (none)) else (none)) else (some (x7, true))
def impl_drive.l1 : Nat → Int → List Bool → List Int → Int → List Int → Int → Int → Option (List Int × Bool)
 | 0, _, _, _, _, _, _, _ => none
 | k + 1, x1, x6, x7, x9, x13, x14, x15 => if x9 < x1 then (if 0 ≤ x9 then (if x9 < (x6.length : Int) then (if rdOf false x6 x9 = true then (impl_drive.l1 k x1 x6 x7 (wrap64 (x9 + 1)) x13 x14 x15) else (if x9 ≥ x1 then (some (([] : List Int), false)) else (if x7.length < 17592186044416 then (impl_drive.l0 k x1 (x6.set (x9 : Int).toNat true) (x7 ++ [x9]) x13 x14 (wrap64 (x15 + 1))) else (none)))) else (none)) else (none)) else (if x9 ≥ x1 then (some (([] : List Int), false)) else (if 0 ≤ x9 then (if x9 < (x6.length : Int) then (if x7.length < 17592186044416 then (impl_drive.l0 k x1 (x6.set (x9 : Int).toNat true) (x7 ++ [x9]) x13 x14 (wrap64 (x15 + 1))) else (none)) else (none)) else (none)))
end
def impl_drive.f (k : Nat) (l0 : List Int) (a1 : Int) : Option (List Int × Bool) := if 0 ≤ a1 then (if (a1 : Int).toNat ≤ 281474976710656 then (impl_drive.l0 k a1 (List.replicate (a1 : Int).toNat false) (([] : List Int)) l0 (l0.length : Int) 0) else (none)) else (none)
theorem impl_drive.mono_l : ∀ k, (∀ y0 y1 y2 y3 y4 y5, LeO (impl_drive.l0 k y0 y1 y2 y3 y4 y5) (impl_drive.l0 (k + 1) y0 y1 y2 y3 y4 y5)) ∧ (∀ y0 y1 y2 y3 y4 y5 y6, LeO (impl_drive.l1 k y0 y1 y2 y3 y4 y5 y6) (impl_drive.l1 (k + 1) y0 y1 y2 y3 y4 y5 y6))
 | 0 => ⟨fun _ _ _ _ _ _ r h => by simp [impl_drive.l0] at h, fun _ _ _ _ _ _ _ r h => by simp [impl_drive.l1] at h⟩
 | k + 1 => by
  obtain ⟨ih0, ih1⟩ := impl_drive.mono_l k
  refine ⟨?_, ?_⟩
  ·intro y0 y1 y2 y3 y4 y5
   unfold impl_drive.l0
   exact mo2_ ih0 ih1
  intro y0 y1 y2 y3 y4 y5 y6
  unfold impl_drive.l1
  exact mo2_ ih0 ih1
theorem impl_drive.mono : ∀ a0 a1 k, LeO (impl_drive.f k a0 a1) (impl_drive.f (k + 1) a0 a1) := by
 intro a0 a1 k
 obtain ⟨ih0, ih1⟩ := impl_drive.mono_l k
 unfold impl_drive.f
 exact mo2_ ih0 ih1
set_option maxHeartbeats 8000000 in
set_option maxRecDepth 100000 in
theorem impl_drive.calls (k : Nat) (A0 : Option Addr) (c0 : Nat) (l0 : List Int) (a1 : Int) (r1 : List Int) (r2 : Bool) (w : World) (hr0 : Kd.C (Kd.int .i64) w A0 l0.length l0) (hc0 : l0.length ≤ c0) (h : impl_drive.f k l0 a1 = some (r1, r2)) :
  Calls Tryz.prog 78 #[.slice A0 l0.length c0, .int .i64 a1] w fun e w' => ∃ v0_ : Value, e = .returned (.tuple #[v0_, .bool r2]) ∧ Kd.R (Kd.int .i64) 3 w' w.heap.size (fun _ => True) v0_ r1 ∧ Below w.heap.size w w' := by
 have HR0 := aS_ hr0
 have HC0 := aS_ hc0
 clear hr0 hc0
 have HB := aS_ (Below.refl w.heap.size w)
 have H : (if 0 ≤ a1 then (if (a1 : Int).toNat ≤ 281474976710656 then (impl_drive.l0 k a1 (List.replicate (a1 : Int).toNat false) (([] : List Int)) l0 (l0.length : Int) 0) else (none)) else (none)) = some (r1, r2) := h
 clear h
 replace H := je_ H; obtain ⟨c3b0, c3b1, H⟩ := H
 replace H := je_ H; obtain ⟨c4b0, c4b1, H⟩ := H
 obtain ⟨y443, hy443⟩ : ∃ y_ : List Bool, y_ = (List.replicate (a1 : Int).toNat false) := ⟨_, rfl⟩
 replace H : (impl_drive.l0 k a1 y443 (([] : List Int)) l0 (l0.length : Int) 0) = some (r1, r2) := yH_ hy443 H
 have Ny443 := aS_ hy443
 clear hy443
 obtain ⟨y446, hy446⟩ : ∃ y_ : List Int, y_ = (([] : List Int)) := ⟨_, rfl⟩
 replace H : (impl_drive.l0 k a1 y443 y446 l0 (l0.length : Int) 0) = some (r1, r2) := yH_ hy446 H
 have Ny446 := aS_ hy446
 clear hy446
 have H' := aS_ H
 clear H
 go_enter Tryz.func78, Tryz.ntmps78
 go_wp2_with (first | ((with_reducible refine gate_dst (N := 11) rfl ?_); refine Kd.R_make Kd.bool _ 4 rfl (N := 11) rfl 104 _ _ rfl a1 rfl rfl Tryz.underlying104 (.bool false) 1 info4 rfl (by decide) (by omega) false (ok := fun _ => True) (okp := fun _ => True) rfl (fun _ hk => hk) trivial (of_decide_eq_true (by assumption)) (Nat.le_trans (Nat.mul_le_mul_right _ (of_decide_eq_true (by assumption) : a1.toNat ≤ 281474976710656)) (by omega)) (Below.refl _ _) (Nat.le_refl _) ?_; intro v444 w5 ho6 hb hg_ hnew_; clear hg_ hnew_; (first | rw [← Ny443.out] at ho6 | (simp only [Int.reduceToNat] at ho6; rw [← Ny443.out] at ho6)); have HO445 := aS_ (Kd.R_lower ho6 (below_size (bb_ HB))); replace HB := bE_ HB hb; clear hb ho6) | ((with_reducible refine gate_dst (N := 12) rfl ?_); refine Kd.R_lit (Kd.int .i64) _ 3 ?hg (N := 12) ?hd (xs := ([] : List Int)) (inner := []) (ok := fun _ => True) (okp := fun _ => True) ?hr ?hp (fun _ hk => hk) trivial (Below.refl _ _) (Nat.le_refl _) (by simp) ?_; (case hd => rfl); (case hg => rfl); (case hr => first | (go_simp; done) | (go_simp; rfl)); (case hp => exact (Reps.none _ _)); intro v447 w7 ho8 hb hg_ hnew_; clear hg_ hnew_; (first | rw [← Ny446.out] at ho8 | (simp only [Int.reduceToNat] at ho8; rw [← Ny446.out] at ho8)); replace HO445 := aS_ (Kd.R_below (rr_ HO445) hb); have HO448 := aS_ (Kd.R_lower ho8 (below_size (bb_ HB))); replace HB := bE_ HB hb; clear hb ho8))
 go_loopg [7, 15] k (fun kq v7 v15 w' => ∃ (x6_1 : List Bool) (x7_1 : List Int) (x15_1 : Int), v15 = .int .i64 x15_1 ∧ Aside0 (impl_drive.l0 kq a1 x6_1 x7_1 l0 (l0.length : Int) x15_1 = some (r1, r2)) ∧ Aside0 (kq ≤ k) ∧ Aside0 (Kd.R Kd.bool 4 w' w.heap.size (fun _ => True) v444 x6_1) ∧ Aside0 (Kd.R (Kd.int .i64) 3 w' w.heap.size (fun _ => True) v7 x7_1) ∧ Aside0 (Below w.heap.size w w'))
 case atStart => exact ⟨(y443), (y446), (0), sR_, H', ⟨Nat.le_refl _⟩, ⟨rr_ HO445⟩, ⟨rr_ HO448⟩, ⟨bb_ HB⟩⟩
 case round =>
 clear H'
 try clear c3b0
 try clear c3b1
 try clear c4b0
 try clear c4b1
 obtain ⟨x6_1, x7_1, x15_1, rfl, HA, HK1, HO_6, HO_7, HB⟩ := hrel
 cases gk with
 | zero => exact absurd HA.out (by simp [impl_drive.l0])
 | succ k1 =>
 have H := HA.out
 clear HA
 simp only [impl_drive.l0] at H
 replace H := id_ H; rcases H with ⟨c9b0, H⟩ | ⟨c9b0, H⟩
 ·replace H := jd_ H; obtain ⟨c10b0, H⟩ := H
  replace H := jd_ H; obtain ⟨c11b0, H⟩ := H
  have H' := aS_ H
  clear H
  have p449 : 0 ≤ (x15_1 : Int) := of_decide_eq_true (by assumption)
  have q449 : x15_1 < (l0.length : Int) := of_decide_eq_true (by assumption)
  obtain ⟨ad449, e449, hx449_0⟩ := Kd.at_int HR0.out x15_1 p449 q449
  cases e449
  replace hx449_0 := (HB.out.cell (World.block_lt_of_cell? w _ hx449_0)).trans hx449_0
  replace p449 := eq_true p449
  replace q449 := eq_true q449
  go_wp2
  go_loopg [9] k1 (fun kq v9 w' => ∃ (x9_2 : Int), v9 = .int .i64 x9_2 ∧ Aside0 (impl_drive.l1 kq a1 x6_1 x7_1 x9_2 l0 (l0.length : Int) x15_1 = some (r1, r2)) ∧ Aside0 (kq ≤ k1) ∧ Aside0 (Kd.R Kd.bool 4 w' w.heap.size (fun _ => True) v444 x6_1) ∧ Aside0 (Kd.R (Kd.int .i64) 3 w' w.heap.size (fun _ => True) u7 x7_1) ∧ Aside0 (Below w.heap.size w w'))
  case atStart => exact ⟨(rd l0 x15_1), sR_, H', ⟨Nat.le_refl _⟩, ⟨rr_ HO_6⟩, ⟨rr_ HO_7⟩, ⟨bb_ HB⟩⟩
  case round =>
  clear H'
  try clear c3b0
  try clear c3b1
  try clear c4b0
  try clear c4b1
  try clear c9b0
  try clear c10b0
  try clear c11b0
  try clear hx449_0
  try clear p449
  try clear q449
  obtain ⟨x9_2, rfl, HA, HK2, HO_6, HO_7, HB⟩ := hrel
  cases gk with
  | zero => exact absurd HA.out (by simp [impl_drive.l1])
  | succ k2 =>
  have H := HA.out
  clear HA
  simp only [impl_drive.l1] at H
  replace H := id_ H; rcases H with ⟨c12b0, H⟩ | ⟨c12b0, H⟩
  ·replace H := jd_ H; obtain ⟨c13b0, H⟩ := H
   replace H := jd_ H; obtain ⟨c14b0, H⟩ := H
   obtain ⟨bq15, hbq15⟩ : ∃ b_ : Bool, b_ = (rdOf false x6_1 x9_2) := ⟨_, rfl⟩
   replace H : (if bq15 = true then (impl_drive.l1 k2 a1 x6_1 x7_1 (wrap64 (x9_2 + 1)) l0 (l0.length : Int) x15_1) else (if x9_2 ≥ a1 then (some (([] : List Int), false)) else (if x7_1.length < 17592186044416 then (impl_drive.l0 k2 a1 (x6_1.set (x9_2 : Int).toNat true) (x7_1 ++ [x9_2]) l0 (l0.length : Int) (wrap64 (x15_1 + 1))) else (none)))) = some (r1, r2) := by rw [← hbq15] at H; exact H
   have Nbq15 := aS_ hbq15
   clear hbq15
   replace H := it_ H; rcases H with ⟨rfl, H⟩ | ⟨rfl, H⟩
   ·have H' := aS_ H
    clear H
    obtain ⟨Ao17, co17, eo17⟩ := Kd.R_slice HO_6.out
    subst eo17
    have p450 : 0 ≤ (x9_2 : Int) := of_decide_eq_true (by assumption)
    have q450 : x9_2 < (x6_1.length : Int) := of_decide_eq_true (by assumption)
    obtain ⟨ad450, e450, hx450_0⟩ := Kd.at_bool (Kd.R_reads' HO_6.out).2.2 x9_2 p450 q450
    (try rw [← Nbq15.out] at hx450_0)
    cases e450
    replace p450 := eq_true p450
    replace q450 := eq_true q450
    go_wp2
    go_roundg k2
    case measure => have := HK1.out; have := HK2.out; omega
    case rel => exact ⟨(wrap64 (x9_2 + 1)), sR_, H', ⟨by have := HK1.out; have := HK2.out; omega⟩, ⟨rr_ HO_6⟩, ⟨rr_ HO_7⟩, ⟨bb_ HB⟩⟩
   replace H := id_ H; rcases H with ⟨c18b0, H⟩ | ⟨c18b0, H⟩
   ·simp only [Option.some.injEq, Prod.mk.injEq] at H
    obtain ⟨rfl, rfl⟩ := H
    obtain ⟨Ao19, co19, eo19⟩ := Kd.R_slice HO_6.out
    subst eo19
    have p450 : 0 ≤ (x9_2 : Int) := of_decide_eq_true (by assumption)
    have q450 : x9_2 < (x6_1.length : Int) := of_decide_eq_true (by assumption)
    obtain ⟨ad450, e450, hx450_0⟩ := Kd.at_bool (Kd.R_reads' HO_6.out).2.2 x9_2 p450 q450
    (try rw [← Nbq15.out] at hx450_0)
    cases e450
    replace p450 := eq_true p450
    replace q450 := eq_true q450
    go_wp2
    go_ret2
    exact ⟨_, by first | rfl | (simp [errW_none, errW_some] <;> rfl) | (simp [*, errW_none, errW_some] <;> rfl), by first | exact Kd.R_nil _ _ _ _ _ | exact Kd.N_nil _ _ _ _ _ | exact Kd.V_nil _ _ _ _ _ | exact Kd.Q_nil _ _ _ _ _ | exact Kd.S_nil _ _ _ _ _, bb_ HB⟩
   obtain ⟨y451, hy451⟩ : ∃ y_ : List Bool, y_ = (x6_1.set (x9_2 : Int).toNat true) := ⟨_, rfl⟩
   replace H : (if x7_1.length < 17592186044416 then (impl_drive.l0 k2 a1 y451 (x7_1 ++ [x9_2]) l0 (l0.length : Int) (wrap64 (x15_1 + 1))) else (none)) = some (r1, r2) := yH_ hy451 H
   have Ny451 := aS_ hy451
   clear hy451
   replace H := jp_ H; obtain ⟨c21, H⟩ := H
   have LMc21 := aS_ c21
   clear c21
   obtain ⟨y452, hy452⟩ : ∃ y_ : List Int, y_ = (x7_1 ++ [x9_2]) := ⟨_, rfl⟩
   replace H : (impl_drive.l0 k2 a1 y451 y452 l0 (l0.length : Int) (wrap64 (x15_1 + 1))) = some (r1, r2) := yH_ hy452 H
   have Ny452 := aS_ hy452
   clear hy452
   have H' := aS_ H
   clear H
   obtain ⟨Ao22, co22, eo22⟩ := Kd.R_slice HO_6.out
   subst eo22
   have p450 : 0 ≤ (x9_2 : Int) := of_decide_eq_true (by assumption)
   have q450 : x9_2 < (x6_1.length : Int) := of_decide_eq_true (by assumption)
   obtain ⟨ad450, e450, hx450_0⟩ := Kd.at_bool (Kd.R_reads' HO_6.out).2.2 x9_2 p450 q450
   (try rw [← Nbq15.out] at hx450_0)
   cases e450
   replace p450 := eq_true p450
   replace q450 := eq_true q450
   have p20 : 0 ≤ (x9_2 : Int) := of_decide_eq_true (by assumption)
   have q20 : (x9_2 : Int) < ((x6_1.length : Int) : Int) := of_decide_eq_true (by assumption)
   obtain ⟨go20, co20, eo20, gb20, gl20, cl20, HG20⟩ := Kd.R_form HO_6.out (by omega)
   (first | cases eo20 | (injection eo20 with ea_ en_ ec_; (first | subst ea_ | (injection ea_ with ea_; subst ea_)); subst ec_; clear en_))
   have GB20 := aS_ gb20
   have GG20 := aS_ HG20
   clear gb20 gl20 HG20
   (first | simp only [add_plain] at hx450_0 | skip)
   obtain ⟨hx20_0, hf20_0⟩ := Kd.R_celln false HO_6.out (x9_2 : Int) p20 q20
   replace p20 := eq_true p20
   replace q20 := eq_true q20
   have HP23 := Kd.R_putg HO_6.out (x9_2 : Int) true
   go_wp2_with (first | ((with_reducible refine gate_store (t := 4) (p := 35) rfl ?_); refine store_event (t := 4) (p := 35) (v := ?vo_w24) (w1 := (wr.setCell ⟨go20, (x9_2 : Int).toNat, none⟩ (.bool true))) ?hg ?ho ?hn ?hr ?_; (case ho => rfl); (case hg => rfl); (case hn => rfl); (case hr => first | (go_simp; done) | (go_simp; rfl)); intro w24 hw; have hg : wr.grownBy w24 (some go20) := (by rw [hw]; exact HP23.2); have hp_ : Kd.R Kd.bool 4 w24 w.heap.size (fun _ => True) (.slice (some ⟨go20, 0, none⟩) x6_1.length co22) y451 := (by rw [hw, Ny451.out]; exact HP23.1); clear HP23; replace HO_7 := aS_ (Kd.R_over' (v := (.slice (some ⟨go20, 0, none⟩) x6_1.length co22)) (rr_ HO_7) (Kd.R_typed HO_6.out) (by decide) hg); replace HO_6 := aS_ (hp_); replace HB := aS_ ((by rw [hw]; exact bS_ (HB.out) GB20.out : Below w.heap.size w w24)); clear hg hw hp_) | ((with_reducible refine gate_builtin (b := .append) (xs := #[.tmp 36, .tmp 38]) rfl ?_); at_builtin; refine Kd.R_append (Kd.int .i64) (w0 := w) w.heap.size rfl (.tmp 36) (.tmp 38) 24 3 (.int .i64 0) 8 rfl Tryz.underlying24 info3 rfl (by decide) (by omega) u7 x7_1 x9_2 [.int .i64 x9_2] (fun _ => True) (fun _ => False) rfl rfl ?aP (fun _ hk => hk.elim) ?aF ?aO ?aB ?aS ?aL ?_; (case aP => exact rfl); (case aB => exact (bb_ HB)); (case aF => exact (fun _ _ => trivial)); (case aO => exact (rr_ HO_7)); (case aS => exact (below_size (bb_ HB))); (case aL => have := LMc21.out; omega); intro v453 w25 ho hb hg hat; rw [← Ny452.out] at ho; replace HO_6 := aS_ (Kd.R_over' (rr_ HO_6) (Kd.R_typed (rr_ HO_7)) (by decide) hg); replace HB := aS_ (hb); have HO454 := aS_ (ho); clear HO_7; clear ho hb hg hat))
   go_roundg k2
   case measure => have := HK1.out; have := HK2.out; omega
   case rel => exact ⟨(y451), (y452), (wrap64 (x15_1 + 1)), sR_, H', ⟨by have := HK1.out; have := HK2.out; omega⟩, ⟨rr_ HO_6⟩, ⟨rr_ HO454⟩, ⟨bb_ HB⟩⟩
  replace H := id_ H; rcases H with ⟨c26b0, H⟩ | ⟨c26b0, H⟩
  ·simp only [Option.some.injEq, Prod.mk.injEq] at H
   obtain ⟨rfl, rfl⟩ := H
   go_wp2
   go_ret2
   exact ⟨_, by first | rfl | (simp [errW_none, errW_some] <;> rfl) | (simp [*, errW_none, errW_some] <;> rfl), by first | exact Kd.R_nil _ _ _ _ _ | exact Kd.N_nil _ _ _ _ _ | exact Kd.V_nil _ _ _ _ _ | exact Kd.Q_nil _ _ _ _ _ | exact Kd.S_nil _ _ _ _ _, bb_ HB⟩
  replace H := jd_ H; obtain ⟨c27b0, H⟩ := H
  replace H := jd_ H; obtain ⟨c28b0, H⟩ := H
  obtain ⟨y455, hy455⟩ : ∃ y_ : List Bool, y_ = (x6_1.set (x9_2 : Int).toNat true) := ⟨_, rfl⟩
  replace H : (if x7_1.length < 17592186044416 then (impl_drive.l0 k2 a1 y455 (x7_1 ++ [x9_2]) l0 (l0.length : Int) (wrap64 (x15_1 + 1))) else (none)) = some (r1, r2) := yH_ hy455 H
  have Ny455 := aS_ hy455
  clear hy455
  replace H := jp_ H; obtain ⟨c30, H⟩ := H
  have LMc30 := aS_ c30
  clear c30
  obtain ⟨y456, hy456⟩ : ∃ y_ : List Int, y_ = (x7_1 ++ [x9_2]) := ⟨_, rfl⟩
  replace H : (impl_drive.l0 k2 a1 y455 y456 l0 (l0.length : Int) (wrap64 (x15_1 + 1))) = some (r1, r2) := yH_ hy456 H
  have Ny456 := aS_ hy456
  clear hy456
  have H' := aS_ H
  clear H
  have p29 : 0 ≤ (x9_2 : Int) := of_decide_eq_true (by assumption)
  have q29 : (x9_2 : Int) < ((x6_1.length : Int) : Int) := of_decide_eq_true (by assumption)
  obtain ⟨go29, co29, eo29, gb29, gl29, cl29, HG29⟩ := Kd.R_form HO_6.out (by omega)
  (first | cases eo29 | (injection eo29 with ea_ en_ ec_; (first | subst ea_ | (injection ea_ with ea_; subst ea_)); subst ec_; clear en_))
  have GB29 := aS_ gb29
  have GG29 := aS_ HG29
  clear gb29 gl29 HG29
  obtain ⟨hx29_0, hf29_0⟩ := Kd.R_celln false HO_6.out (x9_2 : Int) p29 q29
  replace p29 := eq_true p29
  replace q29 := eq_true q29
  have HP31 := Kd.R_putg HO_6.out (x9_2 : Int) true
  go_wp2_with (first | ((with_reducible refine gate_store (t := 4) (p := 35) rfl ?_); refine store_event (t := 4) (p := 35) (v := ?vo_w32) (w1 := (wr.setCell ⟨go29, (x9_2 : Int).toNat, none⟩ (.bool true))) ?hg ?ho ?hn ?hr ?_; (case ho => rfl); (case hg => rfl); (case hn => rfl); (case hr => first | (go_simp; done) | (go_simp; rfl)); intro w32 hw; have hg : wr.grownBy w32 (some go29) := (by rw [hw]; exact HP31.2); have hp_ : Kd.R Kd.bool 4 w32 w.heap.size (fun _ => True) (.slice (some ⟨go29, 0, none⟩) x6_1.length co29) y455 := (by rw [hw, Ny455.out]; exact HP31.1); clear HP31; replace HO_7 := aS_ (Kd.R_over' (v := (.slice (some ⟨go29, 0, none⟩) x6_1.length co29)) (rr_ HO_7) (Kd.R_typed HO_6.out) (by decide) hg); replace HO_6 := aS_ (hp_); replace HB := aS_ ((by rw [hw]; exact bS_ (HB.out) GB29.out : Below w.heap.size w w32)); clear hg hw hp_) | ((with_reducible refine gate_builtin (b := .append) (xs := #[.tmp 36, .tmp 38]) rfl ?_); at_builtin; refine Kd.R_append (Kd.int .i64) (w0 := w) w.heap.size rfl (.tmp 36) (.tmp 38) 24 3 (.int .i64 0) 8 rfl Tryz.underlying24 info3 rfl (by decide) (by omega) u7 x7_1 x9_2 [.int .i64 x9_2] (fun _ => True) (fun _ => False) rfl rfl ?aP (fun _ hk => hk.elim) ?aF ?aO ?aB ?aS ?aL ?_; (case aP => exact rfl); (case aB => exact (bb_ HB)); (case aF => exact (fun _ _ => trivial)); (case aO => exact (rr_ HO_7)); (case aS => exact (below_size (bb_ HB))); (case aL => have := LMc30.out; omega); intro v457 w33 ho hb hg hat; rw [← Ny456.out] at ho; replace HO_6 := aS_ (Kd.R_over' (rr_ HO_6) (Kd.R_typed (rr_ HO_7)) (by decide) hg); replace HB := aS_ (hb); have HO458 := aS_ (ho); clear HO_7; clear ho hb hg hat))
  go_roundg k2
  case measure => have := HK1.out; have := HK2.out; omega
  case rel => exact ⟨(y455), (y456), (wrap64 (x15_1 + 1)), sR_, H', ⟨by have := HK1.out; have := HK2.out; omega⟩, ⟨rr_ HO_6⟩, ⟨rr_ HO458⟩, ⟨bb_ HB⟩⟩
 simp only [Option.some.injEq, Prod.mk.injEq] at H
 obtain ⟨rfl, rfl⟩ := H
 go_wp2
 go_ret2
 exact ⟨_, by first | rfl | (simp [errW_none, errW_some] <;> rfl) | (simp [*, errW_none, errW_some] <;> rfl), rr_ HO_7, bb_ HB⟩
/-! ### impl_DriveCars: function 44 -/
def impl_DriveCars.f (k : Nat) (l0 : List Int) (a1 : Int) : Option (List Int × Bool) := (impl_AreFavourites.f l0 a1).bind fun t459 => (if t459 = true then ((impl_drive.f k l0 a1).bind fun bt460 => (some (bt460.1, bt460.2))) else (some (([] : List Int), false)))
theorem impl_DriveCars.mono : ∀ a0 a1 k, LeO (impl_DriveCars.f k a0 a1) (impl_DriveCars.f (k + 1) a0 a1) := by
 intro a0 a1 k
 unfold impl_DriveCars.f
 exact mo1_ impl_drive.mono
set_option maxHeartbeats 8000000 in
set_option maxRecDepth 100000 in
theorem impl_DriveCars.calls (k : Nat) (A0 : Option Addr) (c0 : Nat) (l0 : List Int) (a1 : Int) (r1 : List Int) (r2 : Bool) (w : World) (hr0 : Kd.C (Kd.int .i64) w A0 l0.length l0) (hc0 : l0.length ≤ c0) (h : impl_DriveCars.f k l0 a1 = some (r1, r2)) :
  Calls Tryz.prog 44 #[.slice A0 l0.length c0, .int .i64 a1] w fun e w' => ∃ v0_ : Value, e = .returned (.tuple #[v0_, .bool r2]) ∧ Kd.R (Kd.int .i64) 3 w' w.heap.size (fun _ => True) v0_ r1 ∧ Below w.heap.size w w' := by
 have HR0 := aS_ hr0
 have HC0 := aS_ hc0
 clear hr0 hc0
 have HB := aS_ (Below.refl w.heap.size w)
 have H : ((impl_AreFavourites.f l0 a1).bind fun t459 => (if t459 = true then ((impl_drive.f k l0 a1).bind fun bt460 => (some (bt460.1, bt460.2))) else (some (([] : List Int), false)))) = some (r1, r2) := h
 clear h
 replace H := bs_ H; obtain ⟨t459, A3, H⟩ := H
 replace H := it_ H; rcases H with ⟨rfl, H⟩ | ⟨rfl, H⟩
 ·replace H := bs_ H; obtain ⟨⟨t460, t461⟩, A5, H⟩ := H
  simp only [Option.some.injEq, Prod.mk.injEq] at H
  obtain ⟨rfl, rfl⟩ := H
  go_enter Tryz.func44, Tryz.ntmps44
  go_wp2_with (first | ((with_reducible refine gg_ ?_); refine gc_ 77 (some 8) Tryz.func77 #[.slice A0 l0.length c0, .int .i64 a1] ?_; (with_reducible refine (impl_AreFavourites.calls _ _ l0 a1 true _ ?side1 ?side2 A3.out).mono ?_); (case side1 => repeat (first | exact HR0.out | (with_reducible refine Kd.C_alloc ?_ _) | (with_reducible refine Kd.C_drewN ?_ _) | (with_reducible refine Kd.C_drew ?_))); (case side2 => exact HC0.out); rintro e w6 ⟨rfl, hb⟩; refine ⟨_, rfl, ?_⟩; replace HB := bE_ HB hb; (try clear hb)) | ((with_reducible refine gg_ ?_); refine gc_ 78 (some 12) Tryz.func78 #[.slice A0 l0.length c0, .int .i64 a1] ?_; (with_reducible refine (impl_drive.calls k _ _ l0 a1 t460 t461 _ ?side1 ?side2 A5.out).mono ?_); (case side1 => exact cB_ HR0 HB); (case side2 => exact HC0.out); rintro e w7 ⟨v462, rfl, ho0, hb⟩; refine ⟨_, rfl, ?_⟩; have HO463 := aS_ (Kd.R_lower ho0 (below_size (bb_ HB))); replace HB := bE_ HB hb; (try clear hb); (try clear ho0)))
  go_ret2
  exact ⟨_, by first | rfl | (simp [errW_none, errW_some] <;> rfl) | (simp [*, errW_none, errW_some] <;> rfl), rr_ HO463, bb_ HB⟩
 simp only [Option.some.injEq, Prod.mk.injEq] at H
 obtain ⟨rfl, rfl⟩ := H
 go_enter Tryz.func44, Tryz.ntmps44
 go_wp2_with (first | ((with_reducible refine gg_ ?_); refine gc_ 77 (some 8) Tryz.func77 #[.slice A0 l0.length c0, .int .i64 a1] ?_; (with_reducible refine (impl_AreFavourites.calls _ _ l0 a1 false _ ?side1 ?side2 A3.out).mono ?_); (case side1 => repeat (first | exact HR0.out | (with_reducible refine Kd.C_alloc ?_ _) | (with_reducible refine Kd.C_drewN ?_ _) | (with_reducible refine Kd.C_drew ?_))); (case side2 => exact HC0.out); rintro e w8 ⟨rfl, hb⟩; refine ⟨_, rfl, ?_⟩; replace HB := bE_ HB hb; (try clear hb)))
 go_ret2
 exact ⟨_, by first | rfl | (simp [errW_none, errW_some] <;> rfl) | (simp [*, errW_none, errW_some] <;> rfl), by first | exact Kd.R_nil _ _ _ _ _ | exact Kd.N_nil _ _ _ _ _ | exact Kd.V_nil _ _ _ _ _ | exact Kd.Q_nil _ _ _ _ _ | exact Kd.S_nil _ _ _ _ _, bb_ HB⟩
/-! ### impl_DistancesOf: function 16 -/
def impl_DistancesOf.l0 : Nat → List Int → List Int → Bool → Int → Int → Option (List Int × Bool)
 | 0, _, _, _, _, _ => none
 | k + 1, x0, x6, x7, x16, x17 => if x17 < x16 then (if 0 ≤ x17 then (if x17 < (x6.length : Int) then (if x17 < (x0.length : Int) then (impl_DistancesOf.l0 k x0 (x6.set (x17 : Int).toNat (wrap64 ((rd x6 x17) - (rd x0 x17)))) x7 x16 (wrap64 (x17 + 1))) else (none)) else (none)) else (none)) else (some (x6, x7))
def impl_DistancesOf.f (k : Nat) (l0 : List Int) (a1 : Int) : Option (List Int × Bool) := (impl_DriveCars.f k l0 a1).bind fun bt464 => (impl_DistancesOf.l0 k l0 bt464.1 bt464.2 (bt464.1.length : Int) 0)
theorem impl_DistancesOf.mono_l : ∀ k, (∀ y0 y1 y2 y3 y4, LeO (impl_DistancesOf.l0 k y0 y1 y2 y3 y4) (impl_DistancesOf.l0 (k + 1) y0 y1 y2 y3 y4))
 | 0 => fun _ _ _ _ _ r h => by simp [impl_DistancesOf.l0] at h
 | k + 1 => by
  have ih0 := impl_DistancesOf.mono_l k
  intro y0 y1 y2 y3 y4
  unfold impl_DistancesOf.l0
  exact mo2_ ih0 impl_DriveCars.mono
theorem impl_DistancesOf.mono : ∀ a0 a1 k, LeO (impl_DistancesOf.f k a0 a1) (impl_DistancesOf.f (k + 1) a0 a1) := by
 intro a0 a1 k
 have ih0 := impl_DistancesOf.mono_l k
 unfold impl_DistancesOf.f
 exact mo2_ ih0 impl_DriveCars.mono
def impl_DistancesOf.T5 : Bool × List (List Nat × List Nat) := (true, [([], []), ([], []), ([0, 1], [0, 1]), ([2], [2]), ([], []), ([], []), ([4, 5], [4, 5]), ([6], [6]), ([3, 7], [3, 7]), ([0, 1, 0, 1, 2, 3, 4, 5, 6, 7, 8], [0, 1]), ([9, 8, 0, 1, 2, 3, 4, 5, 6, 7, 8], [8, 9])])
def impl_DistancesOf.B5 : List Nat := [0, 0, 3, 7, 0, 0, 48, 112, 255, 511, 1023]
theorem impl_DistancesOf.tab5 : rtab .any (opsOf Tryz.f16 5) = impl_DistancesOf.T5 := by kernel_rfl
theorem impl_DistancesOf.bits5 : waitsOk impl_DistancesOf.T5.2 impl_DistancesOf.B5 = true := by kernel_rfl
set_option maxHeartbeats 8000000 in
set_option maxRecDepth 100000 in
theorem impl_DistancesOf.calls (k : Nat) (A0 : Option Addr) (c0 : Nat) (l0 : List Int) (a1 : Int) (r1 : List Int) (r2 : Bool) (w : World) (hr0 : Kd.C (Kd.int .i64) w A0 l0.length l0) (hc0 : l0.length ≤ c0) (h : impl_DistancesOf.f k l0 a1 = some (r1, r2)) :
  Calls Tryz.prog 16 #[.slice A0 l0.length c0, .int .i64 a1] w fun e w' => ∃ v0_ : Value, e = .returned (.tuple #[v0_, .bool r2]) ∧ Kd.R (Kd.int .i64) 3 w' w.heap.size (fun _ => True) v0_ r1 ∧ Below w.heap.size w w' := by
 have HR0 := aS_ hr0
 have HC0 := aS_ hc0
 clear hr0 hc0
 have HB := aS_ (Below.refl w.heap.size w)
 have H : ((impl_DriveCars.f k l0 a1).bind fun bt464 => (impl_DistancesOf.l0 k l0 bt464.1 bt464.2 (bt464.1.length : Int) 0)) = some (r1, r2) := h
 clear h
 replace H := bs_ H; obtain ⟨⟨t464, t465⟩, A3, H⟩ := H
 have H' := aS_ H
 clear H
 go_enter Tryz.func16, Tryz.ntmps16
 go_wp2_with (first | ((with_reducible refine gg_ ?_); refine gc_ 44 (some 12) Tryz.func44 #[.slice A0 l0.length c0, .int .i64 a1] ?_; (with_reducible refine (impl_DriveCars.calls k _ _ l0 a1 t464 t465 _ ?side1 ?side2 A3.out).mono ?_); (case side1 => repeat (first | exact HR0.out | (with_reducible refine Kd.C_alloc ?_ _) | (with_reducible refine Kd.C_drewN ?_ _) | (with_reducible refine Kd.C_drew ?_))); (case side2 => exact HC0.out); rintro e w4 ⟨v466, rfl, ho0, hb⟩; refine ⟨_, rfl, ?_⟩; have HO467 := aS_ (Kd.R_lower ho0 (below_size (bb_ HB))); replace HB := bE_ HB hb; (try clear hb); (try clear ho0); obtain ⟨Ao5, co5, eo5⟩ := Kd.R_slice HO467.out; subst eo5))
 go_loopg [17] k (fun kq v17 w' => ∃ (x6_1 : List Int) (x17_1 : Int), v17 = .int .i64 x17_1 ∧ Aside0 (impl_DistancesOf.l0 kq l0 x6_1 t465 (t464.length : Int) x17_1 = some (r1, r2)) ∧ Aside0 (kq ≤ k) ∧ Aside0 (Kd.R (Kd.int .i64) 3 w' w.heap.size (fun _ => True) (.slice Ao5 t464.length co5) x6_1) ∧ Aside0 (Below w.heap.size w w'))
 case atStart => exact ⟨(t464), (0), sR_, H', ⟨Nat.le_refl _⟩, ⟨rr_ HO467⟩, ⟨bb_ HB⟩⟩
 case round =>
 clear H'
 obtain ⟨x6_1, x17_1, rfl, HA, HK1, HO_6, HB⟩ := hrel
 have hl6_1 := (Kd.R_reads' HO_6.out).1
 rw [hl6_1] at HO_6
 (try simp only [hl6_1])
 cases gk with
 | zero => exact absurd HA.out (by simp [impl_DistancesOf.l0])
 | succ k1 =>
 have H := HA.out
 clear HA
 simp only [impl_DistancesOf.l0] at H
 by_cases c6 : x17_1 < (t464.length : Int)
 ·rw [if_pos c6] at H
  have c6b0 : decide (x17_1 < (t464.length : Int)) = true := decide_eq_true c6
  clear c6
  replace H := jd_ H; obtain ⟨c7b0, H⟩ := H
  replace H := jd_ H; obtain ⟨c8b0, H⟩ := H
  replace H := jd_ H; obtain ⟨c9b0, H⟩ := H
  obtain ⟨y470, hy470⟩ : ∃ y_ : List Int, y_ = (x6_1.set (x17_1 : Int).toNat (wrap64 ((rd x6_1 x17_1) - (rd l0 x17_1)))) := ⟨_, rfl⟩
  replace H : (impl_DistancesOf.l0 k1 l0 y470 t465 (t464.length : Int) (wrap64 (x17_1 + 1))) = some (r1, r2) := yH_ hy470 H
  have Ny470 := aS_ hy470
  clear hy470
  have H' := aS_ H
  clear H
  try go_wp2
  replace HO_6 := aS_ (rD_ HO_6.out)
  replace HB := aS_ (bD_ HB.out)
  have p468 : 0 ≤ (x17_1 : Int) := of_decide_eq_true (by assumption)
  have q468 : x17_1 < (x6_1.length : Int) := of_decide_eq_true (by assumption)
  obtain ⟨ad468, e468, hx468_0⟩ := Kd.at_int (Kd.R_reads' HO_6.out).2.2 x17_1 p468 q468
  cases e468
  replace p468 := eq_true p468
  replace q468 := eq_true q468
  have p469 : 0 ≤ (x17_1 : Int) := of_decide_eq_true (by assumption)
  have q469 : x17_1 < (l0.length : Int) := of_decide_eq_true (by assumption)
  obtain ⟨ad469, e469, hx469_0⟩ := Kd.at_int HR0.out x17_1 p469 q469
  have hw469_0 := hx469_0
  cases e469
  replace hx469_0 := (HB.out.cell (World.block_lt_of_cell? w _ hx469_0)).trans hx469_0
  replace p469 := eq_true p469
  replace q469 := eq_true q469
  have p10 : 0 ≤ (x17_1 : Int) := of_decide_eq_true (by assumption)
  have q10 : (x17_1 : Int) < ((x6_1.length : Int) : Int) := of_decide_eq_true (by assumption)
  obtain ⟨go10, co10, eo10, gb10, gl10, cl10, HG10⟩ := Kd.R_form HO_6.out (by omega)
  (first | cases eo10 | (injection eo10 with ea_ en_ ec_; (first | subst ea_ | (injection ea_ with ea_; subst ea_)); subst ec_; clear en_))
  have GB10 := aS_ gb10
  have GG10 := aS_ HG10
  clear gb10 gl10 HG10
  (first | simp only [add_plain] at hx468_0 | skip)
  obtain ⟨hx10_0, hf10_0⟩ := Kd.R_celln 0 HO_6.out (x17_1 : Int) p10 q10
  replace p10 := eq_true p10
  replace q10 := eq_true q10
  have HP12 := Kd.R_putn HO_6.out (x17_1 : Int) (wrap64 ((rd x6_1 x17_1) - (rd l0 x17_1)))
  rw [← Ny470.out] at HP12
  have HQ12 := aS_ HP12
  clear HP12
  refine start_ (n := 11) (S := fun w' => w'.cell? ⟨go10, (x17_1).toNat, none⟩ = some (.int .i64 (rd x6_1 x17_1)) ∧ w'.cell? (ad469.add (x17_1).toNat) = some (.int .i64 (rd l0 x17_1))) (ds := [10]) #[false, false, false, false, false, false, false, false, false, false, false] (by kernel_rfl) rfl rfl ⟨hx468_0, ((HB.out.cell (World.block_lt_of_cell? w _ hw469_0)).trans hw469_0)⟩ (fun hHeld => ?_); refine with_tabW impl_DistancesOf.tab5 impl_DistancesOf.bits5 (fun HT_ HW_ => ?_)
  generalize wr.drew = w11 at HO_6 HB GG10 HQ12 hf10_0 hx10_0 hx468_0 hx469_0 hHeld ⊢
  refine pure_ (i := 0) (N := some 20) (v := ?_) (a' := ?_) #[true, false, false, false, false, false, false, false, false, false, false] rfl rfl (any_of HT_.out (by kernel_rfl)) (fun _ _ _ h => h) (Or.inl ⟨by rfl, ?_⟩) ?_ ?_
  rotate_left
  ·intro w'
   go_simp
   with_reducible rfl
  rotate_left
  ·simp only [Act.put, List.setIfInBounds_toArray, List.set_cons_zero, List.set_cons_succ, i64_w, i32_w]
   rfl
  refine pure_ (i := 1) (N := some 21) (v := ?_) (a' := ?_) #[true, true, false, false, false, false, false, false, false, false, false] rfl rfl (any_of HT_.out (by kernel_rfl)) (fun _ _ _ h => h) (Or.inl ⟨by rfl, ?_⟩) ?_ ?_
  rotate_left
  ·intro w'
   go_simp
   with_reducible rfl
  rotate_left
  ·simp only [Act.put, List.setIfInBounds_toArray, List.set_cons_zero, List.set_cons_succ, i64_w, i32_w]
   rfl
  refine pure_ (i := 2) (N := some 22) (v := ?_) (a' := ?_) #[true, true, true, false, false, false, false, false, false, false, false] rfl rfl (any_of HT_.out (by kernel_rfl)) (fun _ _ _ h => h) (Or.inl ⟨by rfl, ?_⟩) ?_ ?_
  rotate_left
  ·intro w'
   go_simp
   with_reducible rfl
  rotate_left
  ·simp only [Act.put, List.setIfInBounds_toArray, List.set_cons_zero, List.set_cons_succ, i64_w, i32_w]
   rfl
  refine pure_ (i := 4) (N := some 24) (v := ?_) (a' := ?_) #[true, true, true, false, true, false, false, false, false, false, false] rfl rfl (any_of HT_.out (by kernel_rfl)) (fun _ _ _ h => h) (Or.inl ⟨by rfl, ?_⟩) ?_ ?_
  rotate_left
  ·intro w'
   go_simp
   with_reducible rfl
  rotate_left
  ·simp only [Act.put, List.setIfInBounds_toArray, List.set_cons_zero, List.set_cons_succ, i64_w, i32_w]
   rfl
  refine pure_ (i := 5) (N := some 25) (v := ?_) (a' := ?_) #[true, true, true, false, true, true, false, false, false, false, false] rfl rfl (any_of HT_.out (by kernel_rfl)) (fun _ _ _ h => h) (Or.inl ⟨by rfl, ?_⟩) ?_ ?_
  rotate_left
  ·intro w'
   go_simp
   with_reducible rfl
  rotate_left
  ·simp only [Act.put, List.setIfInBounds_toArray, List.set_cons_zero, List.set_cons_succ, i64_w, i32_w]
   rfl
  refine pure_ (i := 6) (N := some 26) (v := ?_) (a' := ?_) #[true, true, true, false, true, true, true, false, false, false, false] rfl rfl (any_of HT_.out (by kernel_rfl)) (fun _ _ _ h => h) (Or.inl ⟨by rfl, ?_⟩) ?_ ?_
  rotate_left
  ·intro w'
   go_simp
   with_reducible rfl
  rotate_left
  ·simp only [Act.put, List.setIfInBounds_toArray, List.set_cons_zero, List.set_cons_succ, i64_w, i32_w]
   rfl
  refine take_ (i := 3) (N := some 23) (v := ?_) (a' := ?_) #[true, true, true, true, true, true, true, false, false, false, false] rfl rfl (take_ofW HT_.out HW_.out (by kernel_rfl)) (fun _ _ _ h => h) (Or.inl ⟨by rfl, ?_⟩) hHeld ?_ ?_
  rotate_left
  ·rintro w' ⟨s0, s1⟩
   go_simp
   with_reducible rfl
  rotate_left
  ·simp only [Act.put, List.setIfInBounds_toArray, List.set_cons_zero, List.set_cons_succ, i64_w, i32_w]
   rfl
  refine take_ (i := 7) (N := some 27) (v := ?_) (a' := ?_) #[true, true, true, true, true, true, true, true, false, false, false] rfl rfl (take_ofW HT_.out HW_.out (by kernel_rfl)) (fun _ _ _ h => h) (Or.inl ⟨by rfl, ?_⟩) hHeld ?_ ?_
  rotate_left
  ·rintro w' ⟨s0, s1⟩
   go_simp
   with_reducible rfl
  rotate_left
  ·simp only [Act.put, List.setIfInBounds_toArray, List.set_cons_zero, List.set_cons_succ, i64_w, i32_w]
   rfl
  refine pure_ (i := 8) (N := some 28) (v := ?_) (a' := ?_) #[true, true, true, true, true, true, true, true, true, false, false] rfl rfl (any_of HT_.out (by kernel_rfl)) (fun _ _ _ h => h) (Or.inl ⟨by rfl, ?_⟩) ?_ ?_
  rotate_left
  ·intro w'
   go_simp
   with_reducible rfl
  rotate_left
  ·simp only [Act.put, List.setIfInBounds_toArray, List.set_cons_zero, List.set_cons_succ, i64_w, i32_w]
   rfl
  refine pure_ (i := 9) (N := some 29) (v := ?_) (a' := ?_) #[true, true, true, true, true, true, true, true, true, true, false] rfl rfl (any_of HT_.out (by kernel_rfl)) (fun _ _ _ h => h) (Or.inl ⟨by rfl, ?_⟩) ?_ ?_
  rotate_left
  ·intro w'
   go_simp
   with_reducible rfl
  rotate_left
  ·simp only [Act.put, List.setIfInBounds_toArray, List.set_cons_zero, List.set_cons_succ, i64_w, i32_w]
   rfl
  refine last_ (i := 10) (N := none) #[true, true, true, true, true, true, true, true, true, true, true] rfl rfl (one_of HT_.out (by kernel_rfl)) (by decide) (fun K hK => ?_)
  refine skip_ (w1 := ?_) (by rfl) rfl ?_ ?_
  rotate_left
  ·go_simp
   rfl
  refine hK.out _ _ ?_
  clear hK K
  refine done_ (done_of HT_.out (by kernel_rfl)) ?_
  try go_wp2
  (try simp only [← hl6_1])
  go_roundg k1
  case measure => have := HK1.out; omega
  case rel => exact ⟨(y470), (wrap64 (x17_1 + 1)), sR_, H', ⟨by have := HK1.out; omega⟩, ⟨by (try simp only [hl6_1]); (with_reducible repeat (first | apply rA_ | apply rN_ | apply rD_)); exact HQ12.out⟩, ⟨bb_ HB⟩⟩
 rw [if_neg c6] at H
 have c6b0 : decide (x17_1 < (t464.length : Int)) = false := decide_eq_false c6
 (try rw [hl6_1] at c6b0)
 clear c6
 simp only [Option.some.injEq, Prod.mk.injEq] at H
 obtain ⟨rfl, rfl⟩ := H
 go_wp2
 go_ret2
 exact ⟨_, by first | rfl | (simp [errW_none, errW_some] <;> rfl) | (simp [*, errW_none, errW_some] <;> rfl), rr_ HO_6, bb_ HB⟩
/-! ### impl_isKey: function 45 -/
def impl_isKey.f (a0 : Int) : Option (Bool) := (impl_between.f a0 0 999).bind fun t471 => (some t471)
set_option maxHeartbeats 8000000 in
set_option maxRecDepth 100000 in
theorem impl_isKey.calls (a0 : Int) (r : Bool) (w : World) (h : impl_isKey.f a0 = some r) :
  Calls Tryz.prog 45 #[.int .i64 a0] w fun e w' => e = .returned (.bool r) ∧ Drawn0 w w' := by
 have H : ((impl_between.f a0 0 999).bind fun t471 => (some t471)) = some r := h
 clear h
 replace H := bs_ H; obtain ⟨t471, A2, H⟩ := H
 obtain rfl := Option.some.inj H
 go_enter Tryz.func45, Tryz.ntmps45
 go_wp2_with (first | ((with_reducible refine gg_ ?_); refine gc_ 37 (some 4) Tryz.func37 #[.int .i64 a0, .int .i64 0, .int .i64 999] ?_; (with_reducible refine (impl_between.calls a0 0 999 t471 _ A2.out).mono ?_); rintro e w' ⟨rfl, ⟨nd, rfl⟩⟩; refine ⟨_, rfl, ?_⟩))
 go_ret
 exact ⟨sR_, by repeat (first | exact Drawn0.refl _ | apply Drawn0.step)⟩
/-! ### impl_FindKey: function 17 -/
def impl_FindKey.j0 : Nat → Int → Bool → List Int → Option (Int × Int × Bool)
 | 0, _, _, _ => none
 | k + 1, x1, x22, x473000 => if x22 = true then (some (0, 0, false)) else ((slices_Index_int_int.f k x473000 x1).bind fun t476 => ((impl_Table_cost.f x473000 t476).bind fun t477 => (some (t476, t477, true))))
def impl_FindKey.f (k : Nat) (l0_0 : List Int) (a1 : Int) : Option (Int × Int × Bool) := (impl_isTable.f k l0_0).bind fun t473 => (if t473 = true then ((impl_isKey.f a1).bind fun t474 => (if t474 = true then ((slices_Contains_int_int.f k l0_0 a1).bind fun t475 => (impl_FindKey.j0 k a1 (!t475) l0_0)) else (impl_FindKey.j0 k a1 true l0_0))) else (impl_FindKey.j0 k a1 true l0_0))
theorem impl_FindKey.mono_l : ∀ k, (∀ y0 y1 y2, LeO (impl_FindKey.j0 k y0 y1 y2) (impl_FindKey.j0 (k + 1) y0 y1 y2))
 | 0 => fun _ _ _ r h => by simp [impl_FindKey.j0] at h
 | k + 1 => by
  have ih0 := impl_FindKey.mono_l k
  intro y0 y1 y2
  unfold impl_FindKey.j0
  exact mo4_ ih0 impl_isTable.mono slices_Contains_int_int.mono slices_Index_int_int.mono
theorem impl_FindKey.mono : ∀ a0 a1 k, LeO (impl_FindKey.f k a0 a1) (impl_FindKey.f (k + 1) a0 a1) := by
 intro a0 a1 k
 have ih0 := impl_FindKey.mono_l k
 unfold impl_FindKey.f
 exact mo4_ ih0 impl_isTable.mono slices_Contains_int_int.mono slices_Index_int_int.mono
set_option maxHeartbeats 8000000 in
set_option maxRecDepth 100000 in
theorem impl_FindKey.calls (k : Nat) (A0_0 : Option Addr) (c0_0 : Nat) (l0_0 : List Int) (a1 : Int) (r1 : Int) (r2 : Int) (r3 : Bool) (w : World) (hr0_0 : Kd.C (Kd.int .i64) w A0_0 l0_0.length l0_0) (hc0_0 : l0_0.length ≤ c0_0) (h : impl_FindKey.f k l0_0 a1 = some (r1, r2, r3)) :
  Calls Tryz.prog 17 #[.agg #[.slice A0_0 l0_0.length c0_0], .int .i64 a1] w fun e w' => e = .returned (.tuple #[.int .i64 r1, .int .i64 r2, .bool r3]) ∧ Below w.heap.size w w' := by
 have hu26 := Tryz.underlying26
 have HR0_0 := aS_ hr0_0
 have HC0_0 := aS_ hc0_0
 clear hr0_0 hc0_0
 have HB := aS_ (Below.refl w.heap.size w)
 have H : ((impl_isTable.f k l0_0).bind fun t473 => (if t473 = true then ((impl_isKey.f a1).bind fun t474 => (if t474 = true then ((slices_Contains_int_int.f k l0_0 a1).bind fun t475 => (impl_FindKey.j0 k a1 (!t475) l0_0)) else (impl_FindKey.j0 k a1 true l0_0))) else (impl_FindKey.j0 k a1 true l0_0))) = some (r1, r2, r3) := h
 clear h
 have HC3 := aS_ H
 clear H
 go_enter Tryz.func17, Tryz.ntmps17
 go_upto_region 1 with (first | ((with_reducible refine gg_ ?_); refine bx_ 2 #[.slice A0_0 l0_0.length c0_0] 26 ?_; intro gb472 hg w4 hbox hb; have BK472 := aS_ (hbox); have GW472 := gE_ HB hg; have GE472 := gE_ HB hg; replace HB := bE_ HB hb; clear hb hbox hg))
 (try simp only [Act.put, List.setIfInBounds_toArray, List.set_cons_zero, List.set_cons_succ])
 go_cut [22] (fun v22 wc => ∃ (kq : Nat) (x22_2 : Bool), v22 = .bool x22_2 ∧ Aside0 (impl_FindKey.j0 kq a1 x22_2 l0_0 = some (r1, r2, r3)) ∧ Aside0 (kq ≤ k) ∧ Aside0 (wc.heap[gb472]? = some (.cells #[(.slice A0_0 l0_0.length c0_0)] 26 (0, 0))) ∧ Aside0 (Below w.heap.size w wc))
 case first =>
  have H := HC3.out
  clear HC3
  replace H := bs_ H; obtain ⟨t473, A5, H⟩ := H
  replace H := it_ H; rcases H with ⟨rfl, H⟩ | ⟨rfl, H⟩
  ·replace H := bs_ H; obtain ⟨t474, A7, H⟩ := H
   replace H := it_ H; rcases H with ⟨rfl, H⟩ | ⟨rfl, H⟩
   ·replace H := bs_ H; obtain ⟨t475, A9, H⟩ := H
    have H' := aS_ H
    clear H
    obtain ⟨hcz10_0, hfz10_0⟩ := c10_ BK472
    go_wp2_with (first | ((with_reducible refine gg_ ?_); refine gc_ 28 (some 9) Tryz.func28 #[.agg #[.slice A0_0 l0_0.length c0_0]] ?_; (with_reducible refine (impl_isTable.calls k _ _ l0_0 true _ ?side1 ?side2 A5.out).mono ?_); (case side1 => exact cB_ HR0_0 HB); (case side2 => exact HC0_0.out); rintro e w11 ⟨rfl, hb⟩; refine ⟨_, rfl, ?_⟩; replace BK472 := kO_ BK472 hb; replace HB := bE_ HB hb; (try clear hb)) | (go_at_call 45; (with_reducible refine (impl_isKey.calls a1 true _ A7.out).mono ?_); rintro e w' ⟨rfl, ⟨nd, rfl⟩⟩; obtain ⟨hcz12_0, hfz12_0⟩ := c10_ BK472) | (go_at_call 46; (with_reducible refine (slices_Contains_int_int.calls k _ _ l0_0 a1 t475 _ ?side1 ?side2 A9.out).mono ?_); (case side1 => exact cD_ HR0_0 HB); (case side2 => exact HC0_0.out); rintro e w' ⟨rfl, ⟨nd, rfl⟩⟩))
    go_meet
    case rel => exact ⟨_, (!t475), sR_, H', ⟨by first | omega | exact Nat.le_refl _⟩, ⟨kk_ BK472⟩, ⟨bb_ HB⟩⟩
   have H' := aS_ H
   clear H
   obtain ⟨hcz13_0, hfz13_0⟩ := c10_ BK472
   go_wp2_with (first | ((with_reducible refine gg_ ?_); refine gc_ 28 (some 9) Tryz.func28 #[.agg #[.slice A0_0 l0_0.length c0_0]] ?_; (with_reducible refine (impl_isTable.calls k _ _ l0_0 true _ ?side1 ?side2 A5.out).mono ?_); (case side1 => exact cB_ HR0_0 HB); (case side2 => exact HC0_0.out); rintro e w14 ⟨rfl, hb⟩; refine ⟨_, rfl, ?_⟩; replace BK472 := kO_ BK472 hb; replace HB := bE_ HB hb; (try clear hb)) | (go_at_call 45; (with_reducible refine (impl_isKey.calls a1 false _ A7.out).mono ?_); rintro e w' ⟨rfl, ⟨nd, rfl⟩⟩))
   go_meet
   case rel => exact ⟨_, (true), sR_, H', ⟨by first | omega | exact Nat.le_refl _⟩, ⟨kk_ BK472⟩, ⟨bb_ HB⟩⟩
  have H' := aS_ H
  clear H
  obtain ⟨hcz15_0, hfz15_0⟩ := c10_ BK472
  go_wp2_with (first | ((with_reducible refine gg_ ?_); refine gc_ 28 (some 9) Tryz.func28 #[.agg #[.slice A0_0 l0_0.length c0_0]] ?_; (with_reducible refine (impl_isTable.calls k _ _ l0_0 false _ ?side1 ?side2 A5.out).mono ?_); (case side1 => exact cB_ HR0_0 HB); (case side2 => exact HC0_0.out); rintro e w16 ⟨rfl, hb⟩; refine ⟨_, rfl, ?_⟩; replace BK472 := kO_ BK472 hb; replace HB := bE_ HB hb; (try clear hb)))
  go_meet
  case rel => exact ⟨_, (true), sR_, H', ⟨by first | omega | exact Nat.le_refl _⟩, ⟨kk_ BK472⟩, ⟨bb_ HB⟩⟩
 case rest =>
 clear HC3
 obtain ⟨kq, x22_2, rfl, HA, HJ2, BK472, HB⟩ := hcut
 cases kq with
 | zero => exact absurd HA.out (by simp [impl_FindKey.j0])
 | succ kj2 =>
 have H := HA.out
 clear HA
 simp only [impl_FindKey.j0] at H
 replace H := it_ H; rcases H with ⟨rfl, H⟩ | ⟨rfl, H⟩
 ·simp only [Option.some.injEq, Prod.mk.injEq] at H
  obtain ⟨rfl, rfl, rfl⟩ := H
  go_wp2
  go_ret3
  exact ⟨eR_, bb_ HB⟩
 replace H := bs_ H; obtain ⟨t476, A18, H⟩ := H
 replace H := bs_ H; obtain ⟨t477, A19, H⟩ := H
 simp only [Option.some.injEq, Prod.mk.injEq] at H
 obtain ⟨rfl, rfl, rfl⟩ := H
 obtain ⟨hcz20_0, hfz20_0⟩ := c10_ BK472
 go_wp2_with (first | ((with_reducible refine gg_ ?_); refine gc_ 47 (some 26) Tryz.func47 #[.slice A0_0 l0_0.length c0_0, .int .i64 a1] ?_; (with_reducible refine (slices_Index_int_int.calls kj2 _ _ l0_0 a1 t476 _ ?side1 ?side2 A18.out).mono ?_); (case side1 => exact cB_ HR0_0 HB); (case side2 => exact HC0_0.out); rintro e w' ⟨rfl, ⟨nd, rfl⟩⟩; refine ⟨_, rfl, ?_⟩) | ((with_reducible refine gg_ ?_); refine gc_ 48 (some 30) Tryz.func48 #[.agg #[.slice A0_0 l0_0.length c0_0], .int .i64 t476] ?_; (with_reducible refine (impl_Table_cost.calls _ _ l0_0 t476 t477 _ ?side1 ?side2 A19.out).mono ?_); (case side1 => exact cD_ HR0_0 HB); (case side2 => exact HC0_0.out); rintro e w21 ⟨rfl, hb⟩; refine ⟨_, rfl, ?_⟩; replace BK472 := kO_ BK472 hb; replace HB := bE_ HB hb; (try clear hb)))
 go_ret3
 exact ⟨eR_, bb_ HB⟩
/-! ### spec_DrawTableText: function 18 -/
def spec_DrawTableText.f (k : Nat) (l0 : List Int) : Option (List Int) := (spec_DrawIsTable.f k l0).bind fun t479 => (some t479)
theorem spec_DrawTableText.mono : ∀ a0 k, LeO (spec_DrawTableText.f k a0) (spec_DrawTableText.f (k + 1) a0) := by
 intro a0 k
 unfold spec_DrawTableText.f
 exact mo1_ spec_DrawIsTable.mono
set_option maxHeartbeats 8000000 in
set_option maxRecDepth 100000 in
theorem spec_DrawTableText.calls (k : Nat) (A0 : Option Addr) (c0 : Nat) (l0 : List Int) (r : List Int) (w : World) (hr0 : Kd.C (Kd.int .u8) w A0 l0.length l0) (hc0 : l0.length ≤ c0) (h : spec_DrawTableText.f k l0 = some r) :
  Calls Tryz.prog 18 #[.slice A0 l0.length c0] w fun e w' => ∃ v0_ : Value, e = .returned (.agg #[v0_]) ∧ Kd.R (Kd.int .i64) 3 w' w.heap.size (fun _ => True) v0_ r ∧ Below w.heap.size w w' := by
 have hu26 := Tryz.underlying26
 have HR0 := aS_ hr0
 have HC0 := aS_ hc0
 clear hr0 hc0
 have HB := aS_ (Below.refl w.heap.size w)
 have H : ((spec_DrawIsTable.f k l0).bind fun t479 => (some t479)) = some r := h
 clear h
 replace H := bs_ H; obtain ⟨t479, A2, H⟩ := H
 obtain rfl := Option.some.inj H
 go_enter Tryz.func18, Tryz.ntmps18
 go_wp2_with (first | ((with_reducible refine gg_ ?_); refine bx_ 2 #[.slice none 0 0] 26 ?_; intro gb478 hg w3 hbox hb; have BK478 := aS_ (hbox); have GW478 := gE_ HB hg; have GE478 := gE_ HB hg; replace HB := bE_ HB hb; clear hb hbox hg) | ((with_reducible refine gg_ ?_); refine gc_ 27 (some 4) Tryz.func27 #[.slice A0 l0.length c0] ?_; (with_reducible refine (spec_DrawIsTable.calls k _ _ l0 t479 _ ?side1 ?side2 A2.out).mono ?_); (case side1 => exact cB_ HR0 HB); (case side2 => exact HC0.out); rintro e w4 ⟨v480, rfl, ho0, hb⟩; refine ⟨_, rfl, ?_⟩; have HO481 := aS_ (Kd.R_lower ho0 (below_size (bb_ HB))); replace BK478 := kO_ BK478 hb; replace HB := bE_ HB hb; (try clear hb); (try clear ho0); obtain ⟨Ao5, co5, eo5⟩ := Kd.R_slice HO481.out; subst eo5; obtain ⟨hcz6_0, hfz6_0⟩ := c10_ BK478))
 refine bodyPost_ret (results_cell_row rfl _ _ gb478 26 #[.slice Ao5 t479.length co5] (0, 0) _ rfl (by (with_reducible repeat (first | refine kN_ ?_ _ | refine kD_ ?_ | refine kA_ ?_ _)); refine blk_put (cs := #[.slice none 0 0]) ?_ 0 _ rfl; (with_reducible repeat (first | refine kN_ ?_ _ | refine kD_ ?_ | refine kA_ ?_ _)); exact BK478.out) Tryz.underlying26 rfl (by kernel_rfl)) rfl ?_
 exact ⟨_, by first | rfl | (simp [errW_none, errW_some] <;> rfl) | (simp [*, errW_none, errW_some] <;> rfl), by (with_reducible repeat (first | apply rA_ | apply rN_ | apply rD_)); exact Kd.R_mono (Kd.R_far (p := ⟨gb478, 0, none⟩) (Kd.R_types HO481.out BK478.out (by decide)) (fun _ hk => hk.2) (.slice Ao5 t479.length co5)) (fun _ hk => trivial), bb_ HB⟩
end Go.Proofs.YteakjjimkagmkaaGreatDoor.G
namespace Go.Proofs
open Go.Shelf
def Tryz.lays156_ren : Go.Shelf.Ren := ⟨fun | 156 => 80 | 165 => 96 | 166 => 97 | 169 => 98 | 240 => 112 | 241 => 113 | 276 => 130 | 277 => 131 | n => n, fun | 31 => 63 | 9 => 9 | 3 => 3 | 4 => 4 | 0 => 0 | 20 => 20 | 72 => 107 | 76 => 90 | 70 => 105 | 37 => 22 | 75 => 89 | 127 => 120 | 164 => 138 | 5 => 5 | 80 => 61 | n => n, fun | n => n⟩
theorem Tryz.lays156 : Go.Proofs.Lays.n156 Tryz.prog Tryz.lays156_ren := {
  mixed := by kernel_rfl
  f156 := Tryz.func80.trans (congrArg some (by kernel_rfl))
  f165 := Tryz.func96.trans (congrArg some (by kernel_rfl))
  f166 := Tryz.func97.trans (congrArg some (by kernel_rfl))
  f169 := Tryz.func98.trans (congrArg some (by kernel_rfl))
  f240 := Tryz.func112.trans (congrArg some (by kernel_rfl))
  f241 := Tryz.func113.trans (congrArg some (by kernel_rfl))
  f276 := Tryz.func130.trans (congrArg some (by kernel_rfl))
  f277 := Tryz.func131.trans (congrArg some (by kernel_rfl))
  t0 := Tryz.underlying0
  a0 := Tryz.isAgg0
  z0 := Tryz.sizeOf0
  v0 := Tryz.zeroValue0
  t3 := Tryz.underlying3
  a3 := Tryz.isAgg3
  z3 := Tryz.sizeOf3
  v3 := Tryz.zeroValue3
  t4 := Tryz.underlying4
  a4 := Tryz.isAgg4
  z4 := Tryz.sizeOf4
  v4 := Tryz.zeroValue4
  t9 := Tryz.underlying9
  a9 := Tryz.isAgg9
  z9 := Tryz.sizeOf9
  v9 := Tryz.zeroValue9
  t20 := Tryz.underlying20
  a20 := Tryz.isAgg20
  z20 := Tryz.sizeOf20
  v20 := Tryz.zeroValue20
  t31 := Tryz.underlying63
  a31 := Tryz.isAgg63
  z31 := Tryz.sizeOf63
  v31 := Tryz.zeroValue63
  t37 := Tryz.underlying22
  a37 := Tryz.isAgg22
  z37 := Tryz.sizeOf22
  v37 := Tryz.zeroValue22
  t70 := Tryz.underlying105
  a70 := Tryz.isAgg105
  z70 := Tryz.sizeOf105
  v70 := Tryz.zeroValue105
  t72 := Tryz.underlying107
  a72 := Tryz.isAgg107
  z72 := Tryz.sizeOf107
  v72 := Tryz.zeroValue107
  t75 := Tryz.underlying89
  a75 := Tryz.isAgg89
  z75 := Tryz.sizeOf89
  v75 := Tryz.zeroValue89
  t76 := Tryz.underlying90
  a76 := Tryz.isAgg90
  z76 := Tryz.sizeOf90
  v76 := Tryz.zeroValue90
  t127 := Tryz.underlying120
  a127 := Tryz.isAgg120
  z127 := Tryz.sizeOf120
  v127 := Tryz.zeroValue120
  t164 := Tryz.underlying138
  a164 := Tryz.isAgg138
  z164 := Tryz.sizeOf138
  v164 := Tryz.zeroValue138 }
theorem Tryz.Builder_Extra_156 : Builder.Extra Tryz.prog Tryz.lays156_ren := {
  sizeBuilder := by kernel_rfl
  liesBuilder := by kernel_rfl
  t5 := Tryz.underlying5
  a5 := Tryz.isAgg5
  z5 := Tryz.sizeOf5
  v5 := Tryz.zeroValue5
  infoByte := by kernel_rfl
  cellsByte := by kernel_rfl
  sizeByte := by kernel_rfl
  neB5 := by decide }
open Go.RowKit in
theorem Tryz.strings_Join_none (a : Option Addr) (c : Nat) (sep : ByteArray) (w : World) :
    Calls Tryz.prog 80 #[.slice a 0 c, .string sep] w fun e w' => e = .returned (.string ⟨#[]⟩) ∧ w' = w := Any.strings_Join_none Tryz.lays156 Tryz.Builder_Extra_156 a c sep w
open Go.RowKit in
theorem Tryz.strings_Join (bk o c : Nat) (xs : List ByteArray) (sep : ByteArray) (w : World) (hcells : ∀ (j : Nat) x, xs[j]? = some x → w.cell? ⟨bk, o + j, none⟩ = some (.string x)) (hbk : bk < w.heap.size) (hN : xs.length ≤ 140737488355328) (hcap : xs.length ≤ c) (hlen : (Lib.join (xs.map (·.data.toList)) sep.data.toList).length ≤ 140737488355328) :
    Calls Tryz.prog 80 #[.slice (some ⟨bk, o, none⟩) xs.length c, .string sep] w fun e w' => e = .returned (.string ⟨(Lib.join (xs.map (·.data.toList)) sep.data.toList).toArray⟩) ∧ Below w.heap.size w w' := Any.strings_Join Tryz.lays156 Tryz.Builder_Extra_156 bk o c xs sep w hcells hbk hN hcap hlen
def Tryz.laysM171_ren : Go.Shelf.Ren := ⟨fun | 171 => 79 | 243 => 95 | 246 => 111 | 283 => 126 | 284 => 127 | 285 => 128 | 286 => 129 | 129 => 150 | 317 => 151 | 318 => 152 | 319 => 153 | 320 => 154 | 337 => 165 | 338 => 166 | n => n, fun | 3 => 3 | 9 => 9 | 2 => 2 | 4 => 4 | 171 => 133 | 0 => 0 | 53 => 67 | 37 => 22 | 5 => 5 | 173 => 136 | 212 => 156 | 51 => 114 | 20 => 20 | 213 => 157 | 46 => 101 | 232 => 177 | 233 => 178 | n => n, fun | 17 => 3 | 18 => 6 | 19 => 7 | n => n⟩
theorem Tryz.laysM171 : Go.Proofs.LaysM.n171 Tryz.prog Tryz.laysM171_ren := {
  mixed := by kernel_rfl
  f129 := Tryz.func150.trans (congrArg some (by kernel_rfl))
  f171 := Tryz.func79.trans (congrArg some (by kernel_rfl))
  f243 := Tryz.func95.trans (congrArg some (by kernel_rfl))
  f246 := Tryz.func111.trans (congrArg some (by kernel_rfl))
  f283 := Tryz.func126.trans (congrArg some (by kernel_rfl))
  f284 := Tryz.func127.trans (congrArg some (by kernel_rfl))
  f285 := Tryz.func128.trans (congrArg some (by kernel_rfl))
  f286 := Tryz.func129.trans (congrArg some (by kernel_rfl))
  f317 := Tryz.func151.trans (congrArg some (by kernel_rfl))
  f318 := Tryz.func152.trans (congrArg some (by kernel_rfl))
  f319 := Tryz.func153.trans (congrArg some (by kernel_rfl))
  f320 := Tryz.func154.trans (congrArg some (by kernel_rfl))
  f337 := Tryz.func165.trans (congrArg some (by kernel_rfl))
  f338 := Tryz.func166.trans (congrArg some (by kernel_rfl))
  t0 := Tryz.underlying0
  a0 := Tryz.isAgg0
  z0 := Tryz.sizeOf0
  v0 := Tryz.zeroValue0
  t2 := Tryz.underlying2
  a2 := Tryz.isAgg2
  z2 := Tryz.sizeOf2
  v2 := Tryz.zeroValue2
  t3 := Tryz.underlying3
  a3 := Tryz.isAgg3
  z3 := Tryz.sizeOf3
  v3 := Tryz.zeroValue3
  t4 := Tryz.underlying4
  a4 := Tryz.isAgg4
  z4 := Tryz.sizeOf4
  v4 := Tryz.zeroValue4
  t5 := Tryz.underlying5
  a5 := Tryz.isAgg5
  z5 := Tryz.sizeOf5
  v5 := Tryz.zeroValue5
  t9 := Tryz.underlying9
  a9 := Tryz.isAgg9
  z9 := Tryz.sizeOf9
  v9 := Tryz.zeroValue9
  t20 := Tryz.underlying20
  a20 := Tryz.isAgg20
  z20 := Tryz.sizeOf20
  v20 := Tryz.zeroValue20
  t37 := Tryz.underlying22
  a37 := Tryz.isAgg22
  z37 := Tryz.sizeOf22
  v37 := Tryz.zeroValue22
  t46 := Tryz.underlying101
  a46 := Tryz.isAgg101
  z46 := Tryz.sizeOf101
  v46 := Tryz.zeroValue101
  t51 := Tryz.underlying114
  a51 := Tryz.isAgg114
  z51 := Tryz.sizeOf114
  v51 := Tryz.zeroValue114
  t53 := Tryz.underlying67
  a53 := Tryz.isAgg67
  z53 := Tryz.sizeOf67
  v53 := Tryz.zeroValue67
  t171 := Tryz.underlying133
  a171 := Tryz.isAgg133
  z171 := Tryz.sizeOf133
  v171 := Tryz.zeroValue133
  t173 := Tryz.underlying136
  a173 := Tryz.isAgg136
  z173 := Tryz.sizeOf136
  v173 := Tryz.zeroValue136
  t212 := Tryz.underlying156
  a212 := Tryz.isAgg156
  z212 := Tryz.sizeOf156
  v212 := Tryz.zeroValue156
  t213 := Tryz.underlying157
  a213 := Tryz.isAgg157
  z213 := Tryz.sizeOf157
  t232 := Tryz.underlying177
  a232 := Tryz.isAgg177
  z232 := Tryz.sizeOf177
  v232 := Tryz.zeroValue177
  t233 := Tryz.underlying178
  a233 := Tryz.isAgg178
  z233 := Tryz.sizeOf178
  v233 := Tryz.zeroValue178
  g17 := by kernel_rfl
  g18 := by kernel_rfl
  g19 := by kernel_rfl
  i0 := by kernel_rfl
  i2 := by kernel_rfl
  i3 := by kernel_rfl
  i4 := by kernel_rfl
  i5 := by kernel_rfl
  i9 := by kernel_rfl
  i20 := by kernel_rfl
  i37 := by kernel_rfl
  i46 := by kernel_rfl
  i51 := by kernel_rfl
  i53 := by kernel_rfl
  i171 := by kernel_rfl
  i173 := by kernel_rfl
  i212 := by kernel_rfl
  i232 := by kernel_rfl
  i233 := by kernel_rfl
  m17 := by kernel_rfl
  m18 := by kernel_rfl
  m19 := by kernel_rfl }
open Go.RowKit Go.Sort Go.Lib in
theorem Tryz.strconv_Itoa (n : Int) (h0 : -9223372036854775808 ≤ n) (h1 : n ≤ 9223372036854775807) (w : World) (htab : Lib.TabIs Tryz.prog w "internal/strconv.uint64pow10" .u64 Lib.pow10Tab) :
    Calls Tryz.prog 79 #[.int .i64 n] w fun e w' => e = .returned (.string ⟨(Lib.itoa n).toArray⟩) ∧ ∃ k os, w' = grow (w.drewN k) os := Any.strconv_Itoa Tryz.laysM171 n h0 h1 w htab
def Tryz.laysC172_ren : Go.Shelf.Ren := ⟨fun | 172 => 83 | 244 => 102 | 245 => 103 | 247 => 118 | 279 => 119 | 280 => 120 | 281 => 121 | 282 => 122 | 287 => 137 | 316 => 138 | 171 => 79 | 205 => 139 | 321 => 157 | 322 => 158 | 243 => 95 | 246 => 111 | 283 => 126 | 284 => 127 | 285 => 128 | 286 => 129 | 129 => 150 | 317 => 151 | 318 => 152 | 319 => 153 | 320 => 154 | 337 => 165 | 338 => 166 | n => n, fun | 9 => 9 | 3 => 3 | 75 => 89 | 76 => 90 | 4 => 4 | 5 => 5 | 167 => 124 | 37 => 22 | 0 => 0 | 85 => 125 | 2 => 2 | 168 => 127 | 53 => 67 | 175 => 141 | 46 => 101 | 210 => 145 | 127 => 120 | 145 => 167 | 143 => 165 | 21 => 21 | 171 => 133 | 173 => 136 | 212 => 156 | 51 => 114 | 20 => 20 | 213 => 157 | 232 => 177 | 233 => 178 | 80 => 61 | n => n, fun | 15 => 1 | 16 => 2 | 17 => 3 | 18 => 6 | 19 => 7 | n => n⟩
theorem Tryz.laysC172 : Go.Proofs.LaysC.n172 Tryz.prog Tryz.laysC172_ren := {
  mixed := by kernel_rfl
  f129 := Tryz.func150.trans (congrArg some (by kernel_rfl))
  f171 := Tryz.func79.trans (congrArg some (by kernel_rfl))
  f172 := Tryz.func83.trans (congrArg some (by kernel_rfl))
  f205 := Tryz.func139.trans (congrArg some (by kernel_rfl))
  f243 := Tryz.func95.trans (congrArg some (by kernel_rfl))
  f244 := Tryz.func102.trans (congrArg some (by kernel_rfl))
  f245 := Tryz.func103.trans (congrArg some (by kernel_rfl))
  f246 := Tryz.func111.trans (congrArg some (by kernel_rfl))
  f247 := Tryz.func118.trans (congrArg some (by kernel_rfl))
  f279 := Tryz.func119.trans (congrArg some (by kernel_rfl))
  f280 := Tryz.func120.trans (congrArg some (by kernel_rfl))
  f281 := Tryz.func121.trans (congrArg some (by kernel_rfl))
  f282 := Tryz.func122.trans (congrArg some (by kernel_rfl))
  f283 := Tryz.func126.trans (congrArg some (by kernel_rfl))
  f284 := Tryz.func127.trans (congrArg some (by kernel_rfl))
  f285 := Tryz.func128.trans (congrArg some (by kernel_rfl))
  f286 := Tryz.func129.trans (congrArg some (by kernel_rfl))
  f287 := Tryz.func137.trans (congrArg some (by kernel_rfl))
  f316 := Tryz.func138.trans (congrArg some (by kernel_rfl))
  f317 := Tryz.func151.trans (congrArg some (by kernel_rfl))
  f318 := Tryz.func152.trans (congrArg some (by kernel_rfl))
  f319 := Tryz.func153.trans (congrArg some (by kernel_rfl))
  f320 := Tryz.func154.trans (congrArg some (by kernel_rfl))
  f321 := Tryz.func157.trans (congrArg some (by kernel_rfl))
  f322 := Tryz.func158.trans (congrArg some (by kernel_rfl))
  f337 := Tryz.func165.trans (congrArg some (by kernel_rfl))
  f338 := Tryz.func166.trans (congrArg some (by kernel_rfl))
  t0 := Tryz.underlying0
  a0 := Tryz.isAgg0
  z0 := Tryz.sizeOf0
  v0 := Tryz.zeroValue0
  t2 := Tryz.underlying2
  a2 := Tryz.isAgg2
  z2 := Tryz.sizeOf2
  v2 := Tryz.zeroValue2
  t3 := Tryz.underlying3
  a3 := Tryz.isAgg3
  z3 := Tryz.sizeOf3
  v3 := Tryz.zeroValue3
  t4 := Tryz.underlying4
  a4 := Tryz.isAgg4
  z4 := Tryz.sizeOf4
  v4 := Tryz.zeroValue4
  t5 := Tryz.underlying5
  a5 := Tryz.isAgg5
  z5 := Tryz.sizeOf5
  v5 := Tryz.zeroValue5
  t9 := Tryz.underlying9
  a9 := Tryz.isAgg9
  z9 := Tryz.sizeOf9
  v9 := Tryz.zeroValue9
  t20 := Tryz.underlying20
  a20 := Tryz.isAgg20
  z20 := Tryz.sizeOf20
  v20 := Tryz.zeroValue20
  t21 := Tryz.underlying21
  a21 := Tryz.isAgg21
  z21 := Tryz.sizeOf21
  v21 := Tryz.zeroValue21
  t37 := Tryz.underlying22
  a37 := Tryz.isAgg22
  z37 := Tryz.sizeOf22
  v37 := Tryz.zeroValue22
  t46 := Tryz.underlying101
  a46 := Tryz.isAgg101
  z46 := Tryz.sizeOf101
  v46 := Tryz.zeroValue101
  t51 := Tryz.underlying114
  a51 := Tryz.isAgg114
  z51 := Tryz.sizeOf114
  v51 := Tryz.zeroValue114
  t53 := Tryz.underlying67
  a53 := Tryz.isAgg67
  z53 := Tryz.sizeOf67
  v53 := Tryz.zeroValue67
  t75 := Tryz.underlying89
  a75 := Tryz.isAgg89
  z75 := Tryz.sizeOf89
  v75 := Tryz.zeroValue89
  t76 := Tryz.underlying90
  a76 := Tryz.isAgg90
  z76 := Tryz.sizeOf90
  v76 := Tryz.zeroValue90
  t85 := Tryz.underlying125
  a85 := Tryz.isAgg125
  z85 := Tryz.sizeOf125
  v85 := Tryz.zeroValue125
  t127 := Tryz.underlying120
  a127 := Tryz.isAgg120
  z127 := Tryz.sizeOf120
  v127 := Tryz.zeroValue120
  t143 := Tryz.underlying165
  a143 := Tryz.isAgg165
  z143 := Tryz.sizeOf165
  v143 := Tryz.zeroValue165
  t145 := Tryz.underlying167
  a145 := Tryz.isAgg167
  z145 := Tryz.sizeOf167
  v145 := Tryz.zeroValue167
  t167 := Tryz.underlying124
  a167 := Tryz.isAgg124
  z167 := Tryz.sizeOf124
  v167 := Tryz.zeroValue124
  t168 := Tryz.underlying127
  a168 := Tryz.isAgg127
  z168 := Tryz.sizeOf127
  v168 := Tryz.zeroValue127
  t171 := Tryz.underlying133
  a171 := Tryz.isAgg133
  z171 := Tryz.sizeOf133
  v171 := Tryz.zeroValue133
  t173 := Tryz.underlying136
  a173 := Tryz.isAgg136
  z173 := Tryz.sizeOf136
  v173 := Tryz.zeroValue136
  t175 := Tryz.underlying141
  a175 := Tryz.isAgg141
  z175 := Tryz.sizeOf141
  v175 := Tryz.zeroValue141
  t210 := Tryz.underlying145
  a210 := Tryz.isAgg145
  z210 := Tryz.sizeOf145
  v210 := Tryz.zeroValue145
  t212 := Tryz.underlying156
  a212 := Tryz.isAgg156
  z212 := Tryz.sizeOf156
  v212 := Tryz.zeroValue156
  t213 := Tryz.underlying157
  a213 := Tryz.isAgg157
  z213 := Tryz.sizeOf157
  t232 := Tryz.underlying177
  a232 := Tryz.isAgg177
  z232 := Tryz.sizeOf177
  v232 := Tryz.zeroValue177
  t233 := Tryz.underlying178
  a233 := Tryz.isAgg178
  z233 := Tryz.sizeOf178
  v233 := Tryz.zeroValue178
  g15 := by kernel_rfl
  g16 := by kernel_rfl
  g17 := by kernel_rfl
  g18 := by kernel_rfl
  g19 := by kernel_rfl
  t80 := Tryz.underlying61
  a80 := Tryz.isAgg61
  z80 := Tryz.sizeOf61
  v80 := Tryz.zeroValue61
  i0 := by kernel_rfl
  i2 := by kernel_rfl
  i3 := by kernel_rfl
  i4 := by kernel_rfl
  i5 := by kernel_rfl
  i9 := by kernel_rfl
  i20 := by kernel_rfl
  i21 := by kernel_rfl
  i37 := by kernel_rfl
  i46 := by kernel_rfl
  i51 := by kernel_rfl
  i53 := by kernel_rfl
  i75 := by kernel_rfl
  i76 := by kernel_rfl
  i80 := by kernel_rfl
  i85 := by kernel_rfl
  i127 := by kernel_rfl
  i143 := by kernel_rfl
  i145 := by kernel_rfl
  i167 := by kernel_rfl
  i168 := by kernel_rfl
  i171 := by kernel_rfl
  i173 := by kernel_rfl
  i175 := by kernel_rfl
  i210 := by kernel_rfl
  i212 := by kernel_rfl
  i232 := by kernel_rfl
  i233 := by kernel_rfl
  m15 := by kernel_rfl
  m16 := by kernel_rfl
  m17 := by kernel_rfl
  m18 := by kernel_rfl
  m19 := by kernel_rfl
  c0 := by kernel_rfl
  c2 := by kernel_rfl
  c3 := by kernel_rfl
  c4 := by kernel_rfl
  c5 := by kernel_rfl
  c9 := by kernel_rfl
  c20 := by kernel_rfl
  c21 := by kernel_rfl
  c37 := by kernel_rfl
  c46 := by kernel_rfl
  c51 := by kernel_rfl
  c53 := by kernel_rfl
  c75 := by kernel_rfl
  c76 := by kernel_rfl
  c80 := by kernel_rfl
  c85 := by kernel_rfl
  c127 := by kernel_rfl
  c143 := by kernel_rfl
  c145 := by kernel_rfl
  c167 := by kernel_rfl
  c168 := by kernel_rfl
  c171 := by kernel_rfl
  c173 := by kernel_rfl
  c175 := by kernel_rfl
  c210 := by kernel_rfl
  c212 := by kernel_rfl
  c213 := by kernel_rfl
  c232 := by kernel_rfl
  c233 := by kernel_rfl }
open Go.RowKit in
theorem Tryz.strconv_Atoi_ok (s : ByteArray) (hmax : s.size ≤ 9223372036854775806) (v : Int) (h : Lib.atoiAll s.data.toList = .ok v) (w : World) :
    Calls Tryz.prog 83 #[.string s] w fun e w' => e = .returned (.tuple #[.int .i64 v, .nilIface]) ∧ (w' = w ∨ ∃ t, w' = Lib.bytesWorld w 5 t) := Any.strconv_Atoi_ok Tryz.laysC172 s hmax v h w
open Go.RowKit in
theorem Tryz.strconv_Atoi_syntax_var (s : ByteArray) (hlim : s.size ≤ 281474976710656) (h1 : ∀ v, Lib.atoiAll s.data.toList ≠ .ok v) (h2 : Lib.atoiAll s.data.toList ≠ .range) (tp : TypeId) (p : Value) (w : World) (hvar : w.var? Tryz.prog "strconv.ErrSyntax" = some #[.iface tp p]) :
    Calls Tryz.prog 83 #[.string s] w fun e w' => ∃ N, e = .returned (.tuple #[.int .i64 0, .iface 127 (.pointer (some ⟨N, 0, none⟩))]) ∧ w.heap.size ≤ N ∧ w'.heap[N]? = some (.cells #[.string ⟨#[65, 116, 111, 105]⟩, .string s, .iface tp p] 145 (0, 0)) ∧ Below w.heap.size w w' := Any.strconv_Atoi_syntax_var Tryz.laysC172 s hlim (by cases e : Lib.atoiAll s.data.toList with | ok v => exact absurd e (h1 v) | range => exact absurd e h2 | _ => rfl) tp p w hvar
open Go.RowKit in
theorem Tryz.strconv_Atoi_range_var (s : ByteArray) (hlim : s.size ≤ 281474976710656) (h : Lib.atoiAll s.data.toList = .range) (tp : TypeId) (p : Value) (w : World) (hvar : w.var? Tryz.prog "strconv.ErrRange" = some #[.iface tp p]) :
    Calls Tryz.prog 83 #[.string s] w fun e w' => ∃ N, e = .returned (.tuple #[.int .i64 (Lib.atoiSat s.data.toList), .iface 127 (.pointer (some ⟨N, 0, none⟩))]) ∧ w.heap.size ≤ N ∧ w'.heap[N]? = some (.cells #[.string ⟨#[65, 116, 111, 105]⟩, .string s, .iface tp p] 145 (0, 0)) ∧ Below w.heap.size w w' := Any.strconv_Atoi_range_var Tryz.laysC172 s hlim h tp p w hvar
def Tryz.lays146_ren : Go.Shelf.Ren := ⟨fun | 146 => 51 | 221 => 82 | 268 => 99 | 138 => 100 | 143 => 101 | 195 => 114 | 197 => 115 | 218 => 116 | 219 => 117 | 260 => 132 | 217 => 133 | 225 => 134 | 224 => 135 | 267 => 136 | 266 => 155 | 314 => 156 | n => n, fun | 9 => 9 | 31 => 63 | 3 => 3 | 4 => 4 | 0 => 0 | 105 => 121 | 21 => 21 | 5 => 5 | 46 => 101 | 119 => 158 | 139 => 161 | 138 => 160 | 146 => 115 | 51 => 114 | n => n, fun | 1 => 0 | 3 => 4 | 4 => 5 | n => n⟩
theorem Tryz.lays146 : Go.Proofs.Lays.n146 Tryz.prog Tryz.lays146_ren := {
  mixed := by kernel_rfl
  f138 := Tryz.func100.trans (congrArg some (by kernel_rfl))
  f143 := Tryz.func101.trans (congrArg some (by kernel_rfl))
  f146 := Tryz.func51.trans (congrArg some (by kernel_rfl))
  f195 := Tryz.func114.trans (congrArg some (by kernel_rfl))
  f197 := Tryz.func115.trans (congrArg some (by kernel_rfl))
  f217 := Tryz.func133.trans (congrArg some (by kernel_rfl))
  f218 := Tryz.func116.trans (congrArg some (by kernel_rfl))
  f219 := Tryz.func117.trans (congrArg some (by kernel_rfl))
  f221 := Tryz.func82.trans (congrArg some (by kernel_rfl))
  f224 := Tryz.func135.trans (congrArg some (by kernel_rfl))
  f225 := Tryz.func134.trans (congrArg some (by kernel_rfl))
  f260 := Tryz.func132.trans (congrArg some (by kernel_rfl))
  f266 := Tryz.func155.trans (congrArg some (by kernel_rfl))
  f267 := Tryz.func136.trans (congrArg some (by kernel_rfl))
  f268 := Tryz.func99.trans (congrArg some (by kernel_rfl))
  f314 := Tryz.func156.trans (congrArg some (by kernel_rfl))
  t0 := Tryz.underlying0
  a0 := Tryz.isAgg0
  z0 := Tryz.sizeOf0
  v0 := Tryz.zeroValue0
  t3 := Tryz.underlying3
  a3 := Tryz.isAgg3
  z3 := Tryz.sizeOf3
  v3 := Tryz.zeroValue3
  t4 := Tryz.underlying4
  a4 := Tryz.isAgg4
  z4 := Tryz.sizeOf4
  v4 := Tryz.zeroValue4
  t5 := Tryz.underlying5
  a5 := Tryz.isAgg5
  z5 := Tryz.sizeOf5
  v5 := Tryz.zeroValue5
  t9 := Tryz.underlying9
  a9 := Tryz.isAgg9
  z9 := Tryz.sizeOf9
  v9 := Tryz.zeroValue9
  t21 := Tryz.underlying21
  a21 := Tryz.isAgg21
  z21 := Tryz.sizeOf21
  v21 := Tryz.zeroValue21
  t31 := Tryz.underlying63
  a31 := Tryz.isAgg63
  z31 := Tryz.sizeOf63
  v31 := Tryz.zeroValue63
  t46 := Tryz.underlying101
  a46 := Tryz.isAgg101
  z46 := Tryz.sizeOf101
  v46 := Tryz.zeroValue101
  t51 := Tryz.underlying114
  a51 := Tryz.isAgg114
  z51 := Tryz.sizeOf114
  v51 := Tryz.zeroValue114
  t105 := Tryz.underlying121
  a105 := Tryz.isAgg121
  z105 := Tryz.sizeOf121
  v105 := Tryz.zeroValue121
  t119 := Tryz.underlying158
  a119 := Tryz.isAgg158
  z119 := Tryz.sizeOf158
  t138 := Tryz.underlying160
  a138 := Tryz.isAgg160
  z138 := Tryz.sizeOf160
  v138 := Tryz.zeroValue160
  t139 := Tryz.underlying161
  a139 := Tryz.isAgg161
  z139 := Tryz.sizeOf161
  v139 := Tryz.zeroValue161
  t146 := Tryz.underlying115
  a146 := Tryz.isAgg115
  z146 := Tryz.sizeOf115
  v146 := Tryz.zeroValue115
  g1 := by kernel_rfl
  g3 := by kernel_rfl
  g4 := by kernel_rfl }
open Go.RowKit Go.Lib in
theorem Tryz.strings_Split (s sep : ByteArray) (m : Int) (w : World) (hs : s.size < 4294967281) (hm : w.cell? ⟨0, 0, none⟩ = some (.int .i64 m)) (h1 : 1 ≤ sep.size) :
    Calls Tryz.prog 51 #[.string s, .string sep] w fun e w' =>
      e = .returned (.slice (some ⟨w.heap.size, 0, none⟩) (Lib.countB s sep + 1) (Lib.countB s sep + 1)) ∧ w' = w.alloc (.cells ((Lib.splitB sep 0 (Lib.countB s sep) s).map Value.string).toArray 9) := Any.strings_Split Tryz.lays146 (by kernel_rfl) s sep m w hs hm h1
def Tryz.laysM146_ren : Go.Shelf.Ren := ⟨fun | 146 => 51 | 221 => 82 | 268 => 99 | 138 => 100 | 143 => 101 | 195 => 114 | 197 => 115 | 218 => 116 | 219 => 117 | 260 => 132 | 217 => 133 | 225 => 134 | 224 => 135 | 267 => 136 | 266 => 155 | 314 => 156 | n => n, fun | 9 => 9 | 31 => 63 | 3 => 3 | 4 => 4 | 0 => 0 | 105 => 121 | 21 => 21 | 5 => 5 | 46 => 101 | 119 => 158 | 139 => 161 | 138 => 160 | 146 => 115 | 51 => 114 | n => n, fun | 1 => 0 | 3 => 4 | 4 => 5 | n => n⟩
theorem Tryz.laysM146 : Go.Proofs.LaysM.n146 Tryz.prog Tryz.laysM146_ren := {
  mixed := by kernel_rfl
  f138 := Tryz.func100.trans (congrArg some (by kernel_rfl))
  f143 := Tryz.func101.trans (congrArg some (by kernel_rfl))
  f146 := Tryz.func51.trans (congrArg some (by kernel_rfl))
  f195 := Tryz.func114.trans (congrArg some (by kernel_rfl))
  f197 := Tryz.func115.trans (congrArg some (by kernel_rfl))
  f217 := Tryz.func133.trans (congrArg some (by kernel_rfl))
  f218 := Tryz.func116.trans (congrArg some (by kernel_rfl))
  f219 := Tryz.func117.trans (congrArg some (by kernel_rfl))
  f221 := Tryz.func82.trans (congrArg some (by kernel_rfl))
  f224 := Tryz.func135.trans (congrArg some (by kernel_rfl))
  f225 := Tryz.func134.trans (congrArg some (by kernel_rfl))
  f260 := Tryz.func132.trans (congrArg some (by kernel_rfl))
  f266 := Tryz.func155.trans (congrArg some (by kernel_rfl))
  f267 := Tryz.func136.trans (congrArg some (by kernel_rfl))
  f268 := Tryz.func99.trans (congrArg some (by kernel_rfl))
  f314 := Tryz.func156.trans (congrArg some (by kernel_rfl))
  t0 := Tryz.underlying0
  a0 := Tryz.isAgg0
  z0 := Tryz.sizeOf0
  v0 := Tryz.zeroValue0
  t3 := Tryz.underlying3
  a3 := Tryz.isAgg3
  z3 := Tryz.sizeOf3
  v3 := Tryz.zeroValue3
  t4 := Tryz.underlying4
  a4 := Tryz.isAgg4
  z4 := Tryz.sizeOf4
  v4 := Tryz.zeroValue4
  t5 := Tryz.underlying5
  a5 := Tryz.isAgg5
  z5 := Tryz.sizeOf5
  v5 := Tryz.zeroValue5
  t9 := Tryz.underlying9
  a9 := Tryz.isAgg9
  z9 := Tryz.sizeOf9
  v9 := Tryz.zeroValue9
  t21 := Tryz.underlying21
  a21 := Tryz.isAgg21
  z21 := Tryz.sizeOf21
  v21 := Tryz.zeroValue21
  t31 := Tryz.underlying63
  a31 := Tryz.isAgg63
  z31 := Tryz.sizeOf63
  v31 := Tryz.zeroValue63
  t46 := Tryz.underlying101
  a46 := Tryz.isAgg101
  z46 := Tryz.sizeOf101
  v46 := Tryz.zeroValue101
  t51 := Tryz.underlying114
  a51 := Tryz.isAgg114
  z51 := Tryz.sizeOf114
  v51 := Tryz.zeroValue114
  t105 := Tryz.underlying121
  a105 := Tryz.isAgg121
  z105 := Tryz.sizeOf121
  v105 := Tryz.zeroValue121
  t119 := Tryz.underlying158
  a119 := Tryz.isAgg158
  z119 := Tryz.sizeOf158
  t138 := Tryz.underlying160
  a138 := Tryz.isAgg160
  z138 := Tryz.sizeOf160
  v138 := Tryz.zeroValue160
  t139 := Tryz.underlying161
  a139 := Tryz.isAgg161
  z139 := Tryz.sizeOf161
  v139 := Tryz.zeroValue161
  t146 := Tryz.underlying115
  a146 := Tryz.isAgg115
  z146 := Tryz.sizeOf115
  v146 := Tryz.zeroValue115
  g1 := by kernel_rfl
  g3 := by kernel_rfl
  g4 := by kernel_rfl
  i0 := by kernel_rfl
  i3 := by kernel_rfl
  i4 := by kernel_rfl
  i5 := by kernel_rfl
  i9 := by kernel_rfl
  i21 := by kernel_rfl
  i31 := by kernel_rfl
  i46 := by kernel_rfl
  i51 := by kernel_rfl
  i105 := by kernel_rfl
  i138 := by kernel_rfl
  i139 := by kernel_rfl
  i146 := by kernel_rfl
  m1 := by kernel_rfl
  s1_3 := fun w h => Go.Proofs.cell_of_shapedOpen_int (zero := #[.int .i64 0]) (t := 3) h (of_decide_eq_true (by kernel_rfl)) (by kernel_rfl) rfl (by kernel_rfl) (by kernel_rfl) Tryz.underlying3
  m3 := by kernel_rfl
  m4 := by kernel_rfl }
end Go.Proofs
namespace Go.Proofs.YteakjjimkagmkaaGreatDoor.G
open Go.RowKit Go.Sort Go.Proofs.YteakjjimkagmkaaGreatDoorW.PrintWords Go.Proofs.YteakjjimkagmkaaGreatDoorW.PrintLast Go.Proofs.YteakjjimkagmkaaGreatDoorW.PrintMore
theorem var_below {w w' : World} {n : String} {vs : Array Value} (h : w.var? Tryz.prog n = some vs) (hb : Below w.heap.size w w') : w'.var? Tryz.prog n = some vs := by
  unfold World.var? at *
  cases hg : Program.globalNamed Tryz.prog n with
  | none => simp [hg] at h
  | some g =>
    simp only [hg, Option.bind_some] at h ⊢
    have hlt : g < w.heap.size := by
      rcases Nat.lt_or_ge g w.heap.size with h' | h'
      · exact h'
      · rw [Array.getElem?_eq_none h'] at h; simp at h
    rw [hb.block g hlt]
    exact h
/-- The table of powers reads as its initialiser lays it, in whatever world that keeps the old blocks. -/
def GT (w : World) : Prop := Lib.TabIs Tryz.prog w "internal/strconv.uint64pow10" .u64 Lib.pow10Tab
theorem GT.on {w w1 : World} (h : GT w) (hb : Below w.heap.size w w1) : GT w1 := var_below h hb
/-- So do the two errors of strconv, and bytealg's bound is a number. -/
structure GP (w : World) : Prop where
  tab : GT w
  syn : ∃ tp p, w.var? Tryz.prog "strconv.ErrSyntax" = some #[.iface tp p]
  rng : ∃ tp p, w.var? Tryz.prog "strconv.ErrRange" = some #[.iface tp p]
  most : ∃ m : Int, w.cell? ⟨0, 0, none⟩ = some (.int .i64 m)
theorem GP.on {w w1 : World} (h : GP w) (hb : Below w.heap.size w w1) : GP w1 := by
  obtain ⟨h1, ⟨a, b, h2⟩, ⟨c, d, h3⟩, m, h4⟩ := h
  refine ⟨h1.on hb, ⟨a, b, var_below h2 hb⟩, ⟨c, d, var_below h3 hb⟩, m, ?_⟩
  exact (hb.cell (World.block_lt_of_cell? w _ h4)).trans h4
def strconv_Itoa.f (a0 : Int) : Option ByteArray := if -9223372036854775808 ≤ a0 ∧ a0 ≤ 9223372036854775807 then some ⟨(Lib.itoa a0).toArray⟩ else none
theorem strconv_Itoa.calls (a0 : Int) (r : ByteArray) (w : World) (hG : GT w) (h : strconv_Itoa.f a0 = some r) :
    Calls Tryz.prog 79 #[.int .i64 a0] w fun e w' => e = .returned (.string r) ∧ Below w.heap.size w w' := by
  unfold strconv_Itoa.f at h
  split at h
  case isFalse => cases h
  rename_i hl
  obtain rfl := Option.some.inj h
  refine (Tryz.strconv_Itoa a0 hl.1 hl.2 w hG).mono ?_
  rintro e w' ⟨rfl, k, os, rfl⟩
  exact ⟨rfl, Lib.below_grow _ w (Nat.le_refl _) k os⟩
def joinB (l : List ByteArray) (s : ByteArray) : List UInt8 := Lib.join (l.map (·.data.toList)) s.data.toList
def strings_Join.f (l0 : List ByteArray) (a1 : ByteArray) : Option ByteArray := if l0.length ≤ 1000000 ∧ (joinB l0 a1).length ≤ 140737488355328 then some ⟨(joinB l0 a1).toArray⟩ else none
theorem strings_Join.calls (A0 : Option Addr) (c0 : Nat) (l0 : List ByteArray) (a1 : ByteArray) (r : ByteArray) (w : World) (hr0 : Kd.C Kd.string w A0 l0.length l0) (hc0 : l0.length ≤ c0) (h : strings_Join.f l0 a1 = some r) :
    Calls Tryz.prog 80 #[.slice A0 l0.length c0, .string a1] w fun e w' => e = .returned (.string r) ∧ Below w.heap.size w w' := by
  unfold strings_Join.f at h
  split at h
  case isFalse => cases h
  rename_i hl
  obtain rfl := Option.some.inj h
  cases l0 with
  | nil =>
    refine (Tryz.strings_Join_none A0 c0 a1 w).mono ?_
    rintro e w' ⟨rfl, rfl⟩
    exact ⟨rfl, Below.refl _ _⟩
  | cons x xs =>
    obtain ⟨ad, e0, _⟩ := Kd.at_string hr0 0 (by omega) (by simp only [List.length_cons]; omega)
    subst e0
    have at_ : ∀ (j : Nat) y, (x :: xs)[j]? = some y → w.cell? (ad.add j) = some (.string y) := fun j y hy => by
      have hj : j < (x :: xs).length := (List.getElem?_eq_some_iff.1 hy).1
      obtain ⟨ad', e', h'⟩ := Kd.at_string hr0 (j : Int) (by omega) (by omega)
      cases e'
      rw [Int.toNat_natCast] at h'
      rw [h', rdOf, Int.toNat_natCast, List.getD_eq_getElem?_getD, hy]; rfl
    obtain ⟨bk, o, z⟩ := ad
    have h0 := at_ 0 x rfl
    have hz : z = none := by
      cases z with
      | none => rfl
      | some q =>
        rw [show Addr.add ⟨bk, o, some q⟩ 0 = ⟨bk, o, some q⟩ from rfl] at h0
        unfold World.cell? at h0
        split at h0
        · simp at h0
        · cases h0
    subst hz
    have hcells : ∀ (j : Nat) y, (x :: xs)[j]? = some y → w.cell? ⟨bk, o + j, none⟩ = some (.string y) := fun j y hy => by
      have := at_ j y hy
      have e : Addr.add ⟨bk, o, none⟩ j = ⟨bk, o + j, none⟩ := by
        unfold Addr.add
        split
        · rename_i hj; subst hj; rfl
        · rfl
      rwa [e] at this
    have hbk : bk < w.heap.size := World.block_lt_of_cell? w _ (hcells 0 x rfl)
    refine (Tryz.strings_Join bk o c0 (x :: xs) a1 w hcells hbk (by omega) hc0 hl.2).mono ?_
    rintro e w' ⟨rfl, hb⟩
    exact ⟨rfl, hb⟩
def strings_Split.f (a0 a1 : ByteArray) : Option (List ByteArray) := if a0.size < 4294967281 ∧ 1 ≤ a1.size then some (Lib.splitB a1 0 (Lib.countB a0 a1) a0) else none
theorem strings_Split.calls (a0 a1 : ByteArray) (r : List ByteArray) (w : World) (hG : GP w) (h : strings_Split.f a0 a1 = some r) :
    Calls Tryz.prog 51 #[.string a0, .string a1] w fun e w' => ∃ v, e = .returned v ∧ Kd.R Kd.string 9 w' w.heap.size (fun _ => True) v r ∧ Below w.heap.size w w' := by
  unfold strings_Split.f at h
  split at h
  case isFalse => cases h
  rename_i hl
  obtain ⟨m, hm⟩ := hG.most
  have hlen := Lib.splitB_all a1 hl.2 0 _ a0 rfl
  obtain rfl := Option.some.inj h
  refine (Tryz.strings_Split a0 a1 m w hl.1 hm hl.2).mono ?_
  rintro e w' ⟨rfl, rfl⟩
  refine ⟨_, rfl, ?_, (Below.refl _ w).alloc (Nat.le_refl _) _⟩
  refine Kd.R_of_own (enc := Value.string) (h1 := fun _ => rfl) ?_ (fun _ _ => trivial)
  have hmx : Lib.countB a0 a1 + 1 ≤ maxLen := by have := Lib.countB_le a1 hl.2 _ a0 (Nat.le_refl _); unfold maxLen; omega
  refine ⟨by simp [encs], .inr ⟨w.heap.size, _, ((Lib.splitB a1 0 (Lib.countB a0 a1) a0).map Value.string).toArray, by rw [hlen], Nat.le_refl _, (blk_new w _), by omega, hmx, by simp [hlen], ?_⟩⟩
  rw [List.take_of_length_le (by simp)]
  simp [encs]
def readV (l : List UInt8) : Int × Bool :=
  match Lib.atoiAll l with
  | .ok v => (v, decide (Lib.itoa v = l))
  | .range => (Lib.atoiSat l, false)
  | _ => (0, false)
def impl_readNumber.f (a0 : ByteArray) : Option (Int × Bool) := if a0.size ≤ 1048576 then some (readV a0.data.toList) else none
set_option maxHeartbeats 4000000 in
set_option maxRecDepth 100000 in
theorem impl_readNumber.calls (a0 : ByteArray) (r1 : Int) (r2 : Bool) (w : World) (hG : GP w) (h : impl_readNumber.f a0 = some (r1, r2)) :
    Calls Tryz.prog 52 #[.string a0] w fun e w' => e = .returned (.tuple #[.int .i64 r1, .bool r2]) ∧ Below w.heap.size w w' := by
  unfold impl_readNumber.f at h
  split at h
  case isFalse => cases h
  rename_i hl
  have h := Option.some.inj h
  unfold readV at h
  cases ha : Lib.atoiAll a0.data.toList with
  | ok v =>
    rw [ha] at h
    obtain ⟨rfl, rfl⟩ := Prod.mk.inj h
    obtain ⟨b1, b2⟩ := Lib.atoiAll_bounds ha
    have cA := Aside0.mk (fun W => Tryz.strconv_Atoi_ok a0 (by omega) v ha W)
    have cI := Aside0.mk (fun W (hb : Below w.heap.size w W) => Tryz.strconv_Itoa v (by omega) (by omega) W (hG.tab.on hb))
    clear h ha hG
    go_enter Tryz.func52, Tryz.ntmps52
    go_wp2_with (first | (go_at_call 83; refine (cA.out _).mono ?_; rintro e w1 ⟨rfl, hw⟩; have hb1 : Below w.heap.size w w1 := (Or.elim hw (fun e_ => e_ ▸ Below.refl _ _) (fun ⟨t, e_⟩ => e_ ▸ Lib.bytesWorld_below _ _ _))) | (go_at_call 79; refine (cI.out _ hb1).mono ?_; rintro e w2 ⟨rfl, k, os, rfl⟩))
    (try simp only [Exit.inBlock, Exit.then])
    refine bodyPost_ret (results_tmp2 rfl _ _ _) rfl ?_
    refine ⟨?_, hb1.trans (Lib.below_grow _ w1 hb1.size k os)⟩
    rw [show decide (Lib.itoa v = a0.data.toList) = (Lib.itoa v == a0.toList) from by rw [ByteArray.toList_eq, Bool.eq_iff_iff]; simp]
    rfl
  | range =>
    rw [ha] at h
    obtain ⟨rfl, rfl⟩ := Prod.mk.inj h
    obtain ⟨tp, p, hv⟩ := hG.rng
    have cA := Aside0.mk (fun W (hb : Below w.heap.size w W) => Tryz.strconv_Atoi_range_var a0 (by omega) ha tp p W (var_below hv hb))
    clear h ha hG
    go_enter Tryz.func52, Tryz.ntmps52
    go_wp2_with (go_at_call 83; refine (cA.out _ (by first | exact Below.refl _ _)).mono ?_; rintro e w1 ⟨N, rfl, _, _, hw⟩)
    (try simp only [Exit.inBlock, Exit.then])
    refine bodyPost_ret (results_tmp2 rfl _ _ _) rfl ?_
    exact ⟨rfl, hw⟩
  | _ =>
    rw [ha] at h
    obtain ⟨rfl, rfl⟩ := Prod.mk.inj h
    obtain ⟨tp, p, hv⟩ := hG.syn
    have cA := Aside0.mk (fun W (hb : Below w.heap.size w W) => Tryz.strconv_Atoi_syntax_var a0 (by omega) (fun v e => by rw [ha] at e; cases e) (fun e => by rw [ha] at e; cases e) tp p W (var_below hv hb))
    clear h ha hG
    go_enter Tryz.func52, Tryz.ntmps52
    go_wp2_with (go_at_call 83; refine (cA.out _ (by first | exact Below.refl _ _)).mono ?_; rintro e w1 ⟨N, rfl, _, _, hw⟩)
    (try simp only [Exit.inBlock, Exit.then])
    refine bodyPost_ret (results_tmp2 rfl _ _ _) rfl ?_
    exact ⟨rfl, hw⟩
end Go.Proofs.YteakjjimkagmkaaGreatDoor.G
namespace Go.Proofs.YteakjjimkagmkaaGreatDoor.G
open Go.RowKit Go.Proofs.YteakjjimkagmkaaGreatDoorW.PrintWords Go.Proofs.YteakjjimkagmkaaGreatDoorW.PrintLast Go.Proofs.YteakjjimkagmkaaGreatDoorW.PrintMore
attribute [local go_sem] max2_int min2_int max_two min_two max_three min_three max_four min_four   -- for this text's walks alone
/-! ### impl_Table_text: function 49 -/
def impl_Table_text.l0 : Nat → List ByteArray → List Int → Int → Int → Option (ByteArray)
 | 0, _, _, _, _ => none
 | k + 1, x3, x8, x9, x10 => if x10 < x9 then (if 0 ≤ x10 then (if x10 < (x8.length : Int) then (if (rd x8 x10) < 0 then (if x3.length < 8796093022208 then (impl_Table_text.l0 k (x3 ++ [(⟨#[46]⟩ : ByteArray)]) x8 x9 (wrap64 (x10 + 1))) else (none)) else ((strconv_Itoa.f (rd x8 x10)).bind fun t490 => (if x3.length < 8796093022208 then (impl_Table_text.l0 k (x3 ++ [t490]) x8 x9 (wrap64 (x10 + 1))) else (none)))) else (none)) else (none)) else ((strings_Join.f x3 (⟨#[32]⟩ : ByteArray)).bind fun t494 => (some t494))
def impl_Table_text.f (k : Nat) (l0_0 : List Int) : Option (ByteArray) := impl_Table_text.l0 k (([] : List ByteArray)) l0_0 (l0_0.length : Int) 0
theorem impl_Table_text.mono_l : ∀ k, (∀ y0 y1 y2 y3, LeO (impl_Table_text.l0 k y0 y1 y2 y3) (impl_Table_text.l0 (k + 1) y0 y1 y2 y3))
 | 0 => fun _ _ _ _ r h => by simp [impl_Table_text.l0] at h
 | k + 1 => by
  have ih0 := impl_Table_text.mono_l k
  intro y0 y1 y2 y3
  unfold impl_Table_text.l0
  exact mo1_ ih0
theorem impl_Table_text.mono : ∀ a0 k, LeO (impl_Table_text.f k a0) (impl_Table_text.f (k + 1) a0) := by
 intro a0 k
 have ih0 := impl_Table_text.mono_l k
 unfold impl_Table_text.f
 exact mo1_ ih0
set_option maxHeartbeats 8000000 in
set_option maxRecDepth 100000 in
theorem impl_Table_text.calls (k : Nat) (A0_0 : Option Addr) (c0_0 : Nat) (l0_0 : List Int) (r : ByteArray) (w : World) (hr0_0 : Kd.C (Kd.int .i64) w A0_0 l0_0.length l0_0) (hc0_0 : l0_0.length ≤ c0_0) (hG : GT w) (h : impl_Table_text.f k l0_0 = some r) :
  Calls Tryz.prog 49 #[.agg #[.slice A0_0 l0_0.length c0_0]] w fun e w' => e = .returned (.string r) ∧ Below w.heap.size w w' := by
 have HG := aS_ hG
 clear hG
 have hu26 := Tryz.underlying26
 have HR0_0 := aS_ hr0_0
 have HC0_0 := aS_ hc0_0
 clear hr0_0 hc0_0
 have HB := aS_ (Below.refl w.heap.size w)
 have H : (impl_Table_text.l0 k (([] : List ByteArray)) l0_0 (l0_0.length : Int) 0) = some r := h
 clear h
 obtain ⟨y483, hy483⟩ : ∃ y_ : List ByteArray, y_ = (([] : List ByteArray)) := ⟨_, rfl⟩
 replace H : (impl_Table_text.l0 k y483 l0_0 (l0_0.length : Int) 0) = some r := yH_ hy483 H
 have Ny483 := aS_ hy483
 clear hy483
 have H' := aS_ H
 clear H
 go_enter Tryz.func49, Tryz.ntmps49
 go_wp2_with (first | ((with_reducible refine gg_ ?_); refine bx_ 1 #[.slice A0_0 l0_0.length c0_0] 26 ?_; intro gb482 hg w2 hbox hb; have BK482 := aS_ (hbox); have GW482 := gE_ HB hg; have GE482 := gE_ HB hg; replace HB := bE_ HB hb; clear hb hbox hg) | ((with_reducible refine gate_dst (N := 6) rfl ?_); refine Kd.R_lit Kd.string _ 9 ?hg (N := 6) ?hd (xs := ([] : List ByteArray)) (inner := []) (ok := fun _ => True) (okp := fun _ => True) ?hr ?hp (fun _ hk => hk) trivial (Below.refl _ _) (Nat.le_refl _) (by simp) ?_; (case hd => rfl); (case hg => rfl); (case hr => first | (go_simp; done) | (go_simp; rfl)); (case hp => exact (Reps.none _ _)); intro v484 w3 ho4 hb hg_ hnew_; clear hg_ hnew_; (first | rw [← Ny483.out] at ho4 | (simp only [Int.reduceToNat] at ho4; rw [← Ny483.out] at ho4)); have HO485 := aS_ (Kd.R_lower ho4 (below_size (bb_ HB))); replace BK482 := kO_ BK482 hb; replace HB := bE_ HB hb; clear hb ho4; obtain ⟨hcz5_0, hfz5_0⟩ := c10_ BK482))
 go_loopg [3, 10] k (fun kq v3 v10 w' => ∃ (x3_1 : List ByteArray) (x10_1 : Int), v10 = .int .i64 x10_1 ∧ Aside0 (impl_Table_text.l0 kq x3_1 l0_0 (l0_0.length : Int) x10_1 = some r) ∧ Aside0 (kq ≤ k) ∧ Aside0 (Kd.R Kd.string 9 w' w.heap.size (fun _ => True) v3 x3_1) ∧ Aside0 (w'.heap[gb482]? = some (.cells #[(.slice A0_0 l0_0.length c0_0)] 26 (0, 0))) ∧ Aside0 (Below w.heap.size w w'))
 case atStart => exact ⟨(y483), (0), sR_, H', ⟨Nat.le_refl _⟩, ⟨rr_ HO485⟩, ⟨kk_ BK482⟩, ⟨bb_ HB⟩⟩
 case round =>
 clear H'
 try clear hcz5_0
 try clear hfz5_0
 obtain ⟨x3_1, x10_1, rfl, HA, HK1, HO_3, BK482, HB⟩ := hrel
 cases gk with
 | zero => exact absurd HA.out (by simp [impl_Table_text.l0])
 | succ k1 =>
 have H := HA.out
 clear HA
 simp only [impl_Table_text.l0] at H
 replace H := id_ H; rcases H with ⟨c6b0, H⟩ | ⟨c6b0, H⟩
 ·replace H := jd_ H; obtain ⟨c7b0, H⟩ := H
  replace H := jd_ H; obtain ⟨c8b0, H⟩ := H
  replace H := id_ H; rcases H with ⟨c9b0, H⟩ | ⟨c9b0, H⟩
  ·replace H := jp_ H; obtain ⟨c10, H⟩ := H
   have LMc10 := aS_ c10
   clear c10
   obtain ⟨y487, hy487⟩ : ∃ y_ : List ByteArray, y_ = (x3_1 ++ [(⟨#[46]⟩ : ByteArray)]) := ⟨_, rfl⟩
   replace H : (impl_Table_text.l0 k1 y487 l0_0 (l0_0.length : Int) (wrap64 (x10_1 + 1))) = some r := yH_ hy487 H
   have Ny487 := aS_ hy487
   clear hy487
   have H' := aS_ H
   clear H
   have p486 : 0 ≤ (x10_1 : Int) := of_decide_eq_true (by assumption)
   have q486 : x10_1 < (l0_0.length : Int) := of_decide_eq_true (by assumption)
   obtain ⟨ad486, e486, hx486_0⟩ := Kd.at_int HR0_0.out x10_1 p486 q486
   cases e486
   replace hx486_0 := (HB.out.cell (World.block_lt_of_cell? w _ hx486_0)).trans hx486_0
   replace p486 := eq_true p486
   replace q486 := eq_true q486
   go_wp2_with (first | ((with_reducible refine gate_builtin (b := .append) (xs := #[.tmp 16, .tmp 17]) rfl ?_); at_builtin; refine Kd.R_append Kd.string (w0 := w) w.heap.size rfl (.tmp 16) (.tmp 17) 63 9 (.string ⟨#[]⟩) 16 rfl Tryz.underlying63 info9 rfl (by decide) (by omega) u3 x3_1 (⟨#[46]⟩ : ByteArray) [.string (⟨#[46]⟩ : ByteArray)] (fun _ => True) (fun _ => False) rfl rfl ?aP (fun _ hk => hk.elim) ?aF ?aO ?aB ?aS ?aL ?_; (case aP => exact rfl); (case aB => exact (bb_ HB)); (case aF => exact (fun _ _ => trivial)); (case aO => exact (rr_ HO_3)); (case aS => exact (below_size (bb_ HB))); (case aL => have := LMc10.out; omega); intro v488 w11 ho hb hg hat; rw [← Ny487.out] at ho; replace BK482 := aS_ (blk_grown (g := gb482) (o := .cells #[.slice (some ad486) l0_0.length c0_0] 26 (0, 0)) (kk_ BK482) hg (Kd.R_ne HO_3.out BK482.out (by decide))); replace HB := aS_ (hb); have HO489 := aS_ (ho); clear HO_3; clear ho hb hg hat))
   go_roundg k1
   case measure => have := HK1.out; omega
   case rel => exact ⟨(y487), (wrap64 (x10_1 + 1)), sR_, H', ⟨by have := HK1.out; omega⟩, ⟨rr_ HO489⟩, ⟨kk_ BK482⟩, ⟨bb_ HB⟩⟩
  replace H := bs_ H; obtain ⟨t490, A12, H⟩ := H
  replace H := jp_ H; obtain ⟨c13, H⟩ := H
  have LMc13 := aS_ c13
  clear c13
  obtain ⟨y491, hy491⟩ : ∃ y_ : List ByteArray, y_ = (x3_1 ++ [t490]) := ⟨_, rfl⟩
  replace H : (impl_Table_text.l0 k1 y491 l0_0 (l0_0.length : Int) (wrap64 (x10_1 + 1))) = some r := yH_ hy491 H
  have Ny491 := aS_ hy491
  clear hy491
  have H' := aS_ H
  clear H
  have p486 : 0 ≤ (x10_1 : Int) := of_decide_eq_true (by assumption)
  have q486 : x10_1 < (l0_0.length : Int) := of_decide_eq_true (by assumption)
  obtain ⟨ad486, e486, hx486_0⟩ := Kd.at_int HR0_0.out x10_1 p486 q486
  cases e486
  replace hx486_0 := (HB.out.cell (World.block_lt_of_cell? w _ hx486_0)).trans hx486_0
  replace p486 := eq_true p486
  replace q486 := eq_true q486
  go_wp2_with (first | ((with_reducible refine gg_ ?_); refine gc_ 79 (some 21) Tryz.func79 #[.int .i64 (rd l0_0 x10_1)] ?_; (with_reducible refine (strconv_Itoa.calls (rd l0_0 x10_1) t490 _ ?sideG A12.out).mono ?_); (case sideG => exact GT.on HG.out (bb_ HB)); rintro e w14 ⟨rfl, hb⟩; refine ⟨_, rfl, ?_⟩; replace HO_3 := aS_ (Kd.R_below (rr_ HO_3) hb); replace BK482 := kO_ BK482 hb; replace HB := bE_ HB hb; (try clear hb)) | ((with_reducible refine gate_builtin (b := .append) (xs := #[.tmp 19, .tmp 22]) rfl ?_); at_builtin; refine Kd.R_append Kd.string (w0 := w) w.heap.size rfl (.tmp 19) (.tmp 22) 63 9 (.string ⟨#[]⟩) 16 rfl Tryz.underlying63 info9 rfl (by decide) (by omega) u3 x3_1 t490 [.string t490] (fun _ => True) (fun _ => False) rfl rfl ?aP (fun _ hk => hk.elim) ?aF ?aO ?aB ?aS ?aL ?_; (case aP => exact rfl); (case aB => exact (bb_ HB)); (case aF => exact (fun _ _ => trivial)); (case aO => exact (rr_ HO_3)); (case aS => exact (below_size (bb_ HB))); (case aL => have := LMc13.out; omega); intro v492 w15 ho hb hg hat; rw [← Ny491.out] at ho; replace BK482 := aS_ (blk_grown (g := gb482) (o := .cells #[.slice (some ad486) l0_0.length c0_0] 26 (0, 0)) (kk_ BK482) hg (Kd.R_ne HO_3.out BK482.out (by decide))); replace HB := aS_ (hb); have HO493 := aS_ (ho); clear HO_3; clear ho hb hg hat))
  go_roundg k1
  case measure => have := HK1.out; omega
  case rel => exact ⟨(y491), (wrap64 (x10_1 + 1)), sR_, H', ⟨by have := HK1.out; omega⟩, ⟨rr_ HO493⟩, ⟨kk_ BK482⟩, ⟨bb_ HB⟩⟩
 replace H := bs_ H; obtain ⟨t494, A16, H⟩ := H
 obtain rfl := Option.some.inj H
 obtain ⟨Ao17, co17, eo17⟩ := Kd.R_slice HO_3.out
 subst eo17
 go_wp2_with (first | ((with_reducible refine gg_ ?_); refine gc_ 80 (some 26) Tryz.func80 #[.slice Ao17 x3_1.length co17, .string (⟨#[32]⟩ : ByteArray)] ?_; (with_reducible refine (strings_Join.calls _ _ x3_1 (⟨#[32]⟩ : ByteArray) t494 _ ?side1 ?side2 A16.out).mono ?_); (case side1 => exact cR_ HO_3); (case side2 => exact (Kd.R_reads' HO_3.out).2.1); rintro e w18 ⟨rfl, hb⟩; refine ⟨_, rfl, ?_⟩; replace HO_3 := aS_ (Kd.R_below (rr_ HO_3) hb); replace BK482 := kO_ BK482 hb; replace HB := bE_ HB hb; (try clear hb)))
 go_ret
 exact ⟨eR_, bb_ HB⟩
/-! ### impl_TableText: function 19 -/
def impl_TableText.f (k : Nat) (l0_0 : List Int) : Option (ByteArray × Bool) := (impl_isTable.f k l0_0).bind fun t496 => (if t496 = true then ((impl_Table_text.f k l0_0).bind fun t497 => (some (t497, true))) else (some ((⟨#[]⟩ : ByteArray), false)))
theorem impl_TableText.mono : ∀ a0 k, LeO (impl_TableText.f k a0) (impl_TableText.f (k + 1) a0) := by
 intro a0 k
 unfold impl_TableText.f
 exact mo2_ impl_Table_text.mono impl_isTable.mono
set_option maxHeartbeats 8000000 in
set_option maxRecDepth 100000 in
theorem impl_TableText.calls (k : Nat) (A0_0 : Option Addr) (c0_0 : Nat) (l0_0 : List Int) (r1 : ByteArray) (r2 : Bool) (w : World) (hr0_0 : Kd.C (Kd.int .i64) w A0_0 l0_0.length l0_0) (hc0_0 : l0_0.length ≤ c0_0) (hG : GT w) (h : impl_TableText.f k l0_0 = some (r1, r2)) :
  Calls Tryz.prog 19 #[.agg #[.slice A0_0 l0_0.length c0_0]] w fun e w' => e = .returned (.tuple #[.string r1, .bool r2]) ∧ Below w.heap.size w w' := by
 have HG := aS_ hG
 clear hG
 have hu26 := Tryz.underlying26
 have HR0_0 := aS_ hr0_0
 have HC0_0 := aS_ hc0_0
 clear hr0_0 hc0_0
 have HB := aS_ (Below.refl w.heap.size w)
 have H : ((impl_isTable.f k l0_0).bind fun t496 => (if t496 = true then ((impl_Table_text.f k l0_0).bind fun t497 => (some (t497, true))) else (some ((⟨#[]⟩ : ByteArray), false)))) = some (r1, r2) := h
 clear h
 replace H := bs_ H; obtain ⟨t496, A2, H⟩ := H
 replace H := it_ H; rcases H with ⟨rfl, H⟩ | ⟨rfl, H⟩
 ·replace H := bs_ H; obtain ⟨t497, A4, H⟩ := H
  simp only [Option.some.injEq, Prod.mk.injEq] at H
  obtain ⟨rfl, rfl⟩ := H
  go_enter Tryz.func19, Tryz.ntmps19
  go_wp2_with (first | ((with_reducible refine gg_ ?_); refine bx_ 1 #[.slice A0_0 l0_0.length c0_0] 26 ?_; intro gb495 hg w5 hbox hb; have BK495 := aS_ (hbox); have GW495 := gE_ HB hg; have GE495 := gE_ HB hg; replace HB := bE_ HB hb; clear hb hbox hg; obtain ⟨hcz6_0, hfz6_0⟩ := c10_ BK495) | ((with_reducible refine gg_ ?_); refine gc_ 28 (some 5) Tryz.func28 #[.agg #[.slice A0_0 l0_0.length c0_0]] ?_; (with_reducible refine (impl_isTable.calls k _ _ l0_0 true _ ?side1 ?side2 A2.out).mono ?_); (case side1 => exact cB_ HR0_0 HB); (case side2 => exact HC0_0.out); rintro e w7 ⟨rfl, hb⟩; refine ⟨_, rfl, ?_⟩; replace BK495 := kO_ BK495 hb; replace HB := bE_ HB hb; (try clear hb); obtain ⟨hcz8_0, hfz8_0⟩ := c10_ BK495) | ((with_reducible refine gg_ ?_); refine gc_ 49 (some 8) Tryz.func49 #[.agg #[.slice A0_0 l0_0.length c0_0]] ?_; (with_reducible refine (impl_Table_text.calls k _ _ l0_0 t497 _ ?side1 ?side2 ?sideG A4.out).mono ?_); (case sideG => exact GT.on HG.out (bb_ HB)); (case side1 => exact cB_ HR0_0 HB); (case side2 => exact HC0_0.out); rintro e w9 ⟨rfl, hb⟩; refine ⟨_, rfl, ?_⟩; replace BK495 := kO_ BK495 hb; replace HB := bE_ HB hb; (try clear hb)))
  go_ret2
  exact ⟨eR_, bb_ HB⟩
 simp only [Option.some.injEq, Prod.mk.injEq] at H
 obtain ⟨rfl, rfl⟩ := H
 go_enter Tryz.func19, Tryz.ntmps19
 go_wp2_with (first | ((with_reducible refine gg_ ?_); refine bx_ 1 #[.slice A0_0 l0_0.length c0_0] 26 ?_; intro gb495 hg w10 hbox hb; have BK495 := aS_ (hbox); have GW495 := gE_ HB hg; have GE495 := gE_ HB hg; replace HB := bE_ HB hb; clear hb hbox hg; obtain ⟨hcz11_0, hfz11_0⟩ := c10_ BK495) | ((with_reducible refine gg_ ?_); refine gc_ 28 (some 5) Tryz.func28 #[.agg #[.slice A0_0 l0_0.length c0_0]] ?_; (with_reducible refine (impl_isTable.calls k _ _ l0_0 false _ ?side1 ?side2 A2.out).mono ?_); (case side1 => exact cB_ HR0_0 HB); (case side2 => exact HC0_0.out); rintro e w12 ⟨rfl, hb⟩; refine ⟨_, rfl, ?_⟩; replace BK495 := kO_ BK495 hb; replace HB := bE_ HB hb; (try clear hb)))
 go_ret2
 exact ⟨eR_, bb_ HB⟩
/-! ### spec_l1Num: function 81 -/
def spec_l1Num.f : Nat → Int → Option (ByteArray)
 | 0, _ => none
 | k + 1, a0 => if a0 < 10 then (some (strOfNums (([(wrap64 (48 + a0)) % 256] : List Int)))) else ((spec_l1Num.f k (wrap64 (Int.tdiv a0 10))).bind fun t501 => ((some (([(wrap64 (48 + (Int.tmod a0 10))) % 256] : List Int) : List Int)).bind fun y502 => (if t501.size + (strOfNums y502).size ≤ 9223372036854775807 then (some (t501 ++ (strOfNums y502))) else (none))))
theorem spec_l1Num.mono_l : ∀ k, (∀ y0, LeO (spec_l1Num.f k y0) (spec_l1Num.f (k + 1) y0))
 | 0 => fun _ r h => by simp [spec_l1Num.f] at h
 | k + 1 => by
  have ih0 := spec_l1Num.mono_l k
  intro y0
  unfold spec_l1Num.f
  exact mo1_ ih0
theorem spec_l1Num.mono : ∀ a0 k, LeO (spec_l1Num.f k a0) (spec_l1Num.f (k + 1) a0) := by
 intro a0 k
 have ih0 := spec_l1Num.mono_l k
 exact ih0 a0
def spec_l1Num.T3 : Bool × List (List Nat × List Nat) := (true, [([], []), ([0], [0]), ([1], [1]), ([], []), ([3], [3]), ([4], [4]), ([5], [5]), ([6], [6]), ([7], [7]), ([2, 8], [2, 8]), ([9, 2, 0, 1, 2, 3, 4, 5, 6, 7, 8, 9], [9])])
def spec_l1Num.B3 : List Nat := [0, 1, 3, 0, 8, 24, 56, 120, 248, 511, 1023]
theorem spec_l1Num.tab3 : rtab .any (opsOf Tryz.f81 3) = spec_l1Num.T3 := by kernel_rfl
theorem spec_l1Num.bits3 : waitsOk spec_l1Num.T3.2 spec_l1Num.B3 = true := by kernel_rfl
set_option maxHeartbeats 8000000 in
set_option maxRecDepth 100000 in
theorem spec_l1Num.calls (k : Nat) : ∀ (a0 : Int) (r : ByteArray) (w : World) (h : spec_l1Num.f k a0 = some r),
  Calls Tryz.prog 81 #[.int .i64 a0] w fun e w' => e = .returned (.string r) ∧ Below w.heap.size w w' := by
 induction k using Nat.strongRecOn with
 | _ k ih =>
 intro a0 r w h
 cases k with
 | zero => exact absurd h (by simp [spec_l1Num.f])
 | succ k =>
 simp only [spec_l1Num.f] at h
 have HB := aS_ (Below.refl w.heap.size w)
 have H : (if a0 < 10 then (some (strOfNums (([(wrap64 (48 + a0)) % 256] : List Int)))) else ((spec_l1Num.f k (wrap64 (Int.tdiv a0 10))).bind fun t501 => ((some (([(wrap64 (48 + (Int.tmod a0 10))) % 256] : List Int) : List Int)).bind fun y502 => (if t501.size + (strOfNums y502).size ≤ 9223372036854775807 then (some (t501 ++ (strOfNums y502))) else (none))))) = some r := h
 clear h
 replace H := id_ H; rcases H with ⟨c2b0, H⟩ | ⟨c2b0, H⟩
 ·obtain ⟨y498, hy498⟩ : ∃ y_ : List Int, y_ = (([(wrap64 (48 + a0)) % 256] : List Int)) := ⟨_, rfl⟩
  replace H : (some (strOfNums y498)) = some r := yH_ hy498 H
  have Ny498 := aS_ hy498
  clear hy498
  obtain rfl := Option.some.inj H
  go_enter Tryz.func81, Tryz.ntmps81
  go_wp2_with (first | ((with_reducible refine gate_dst (N := 8) rfl ?_); refine Kd.R_lit (Kd.int .u8) _ 5 ?hg (N := 8) ?hd (xs := ([(wrap64 (48 + a0)) % 256] : List Int)) (inner := [.int .u8 ((wrap64 (48 + a0)) % 256)]) (ok := fun _ => True) (okp := fun _ => True) ?hr ?hp (fun _ hk => hk) trivial (Below.refl _ _) (Nat.le_refl _) (by simp) ?_; (case hd => rfl); (case hg => rfl); (case hr => first | (go_simp; done) | (go_simp; rfl)); (case hp => exact (Reps.one (show Kd.M (Kd.int .u8) _ _ _ ((wrap64 (48 + a0)) % 256) [.int .u8 ((wrap64 (48 + a0)) % 256)] from rfl) (Reps.none _ _))); intro v499 w3 ho4 hb hg_ hnew_; clear hg_ hnew_; (first | rw [← Ny498.out] at ho4 | (simp only [Int.reduceToNat] at ho4; rw [← Ny498.out] at ho4)); have HO500 := aS_ (Kd.R_lower ho4 (below_size (bb_ HB))); replace HB := bE_ HB hb; clear hb ho4; have hcv5 := own_string (P := Tryz.prog) Tryz.underlying22 Tryz.underlying5 Tryz.underlying9 (Kd.own_of_R HO500.out)))
  go_ret
  exact ⟨eR_, bb_ HB⟩
 replace H := bs_ H; obtain ⟨t501, A6, H⟩ := H
 obtain ⟨y502, hy502⟩ : ∃ y_ : List Int, y_ = (([(wrap64 (48 + (Int.tmod a0 10))) % 256] : List Int)) := ⟨_, rfl⟩
 replace H : (if t501.size + (strOfNums y502).size ≤ 9223372036854775807 then (some (t501 ++ (strOfNums y502))) else (none)) = some r := yH_ hy502 H
 have Ny502 := aS_ hy502
 clear hy502
 replace H := jp_ H; obtain ⟨c7, H⟩ := H
 have c7b0 := eq_true c7
 have c7b1 : decide (t501.size + (strOfNums y502).size ≤ 9223372036854775807) = true := decide_eq_true c7
 try have c7b2 : (9223372036854775807 < t501.size + (strOfNums y502).size) = False := eq_false (Nat.not_lt.2 c7)
 obtain rfl := Option.some.inj H
 go_enter Tryz.func81, Tryz.ntmps81
 try go_wp2
 replace HB := aS_ (bD_ HB.out)
 refine start_ (n := 11) (S := fun w' => True) (ds := []) #[false, false, false, false, false, false, false, false, false, false, false] (by kernel_rfl) rfl rfl trivial (fun hHeld => ?_); refine with_tabW spec_l1Num.tab3 spec_l1Num.bits3 (fun HT_ HW_ => ?_)
 generalize w.drew = w8 at HB hHeld ⊢
 refine pure_ (i := 0) (N := some 10) (v := ?_) (a' := ?_) #[true, false, false, false, false, false, false, false, false, false, false] rfl rfl (any_of HT_.out (by kernel_rfl)) (fun _ _ _ h => h) (Or.inl ⟨by rfl, ?_⟩) ?_ ?_
 rotate_left
 ·intro w'
  go_simp
  with_reducible rfl
 rotate_left
 ·simp only [Act.put, List.setIfInBounds_toArray, List.set_cons_zero, List.set_cons_succ, i64_w, i32_w]
  rfl
 refine pure_ (i := 1) (N := some 11) (v := ?_) (a' := ?_) #[true, true, false, false, false, false, false, false, false, false, false] rfl rfl (any_of HT_.out (by kernel_rfl)) (fun _ _ _ h => h) (Or.inl ⟨by rfl, ?_⟩) ?_ ?_
 rotate_left
 ·intro w'
  go_simp
  with_reducible rfl
 rotate_left
 ·simp only [Act.put, List.setIfInBounds_toArray, List.set_cons_zero, List.set_cons_succ, i64_w, i32_w]
  rfl
 refine pure_ (i := 3) (N := some 13) (v := ?_) (a' := ?_) #[true, true, false, true, false, false, false, false, false, false, false] rfl rfl (any_of HT_.out (by kernel_rfl)) (fun _ _ _ h => h) (Or.inl ⟨by rfl, ?_⟩) ?_ ?_
 rotate_left
 ·intro w'
  go_simp
  with_reducible rfl
 rotate_left
 ·simp only [Act.put, List.setIfInBounds_toArray, List.set_cons_zero, List.set_cons_succ, i64_w, i32_w]
  rfl
 refine pure_ (i := 4) (N := some 14) (v := ?_) (a' := ?_) #[true, true, false, true, true, false, false, false, false, false, false] rfl rfl (any_of HT_.out (by kernel_rfl)) (fun _ _ _ h => h) (Or.inl ⟨by rfl, ?_⟩) ?_ ?_
 rotate_left
 ·intro w'
  go_simp
  with_reducible rfl
 rotate_left
 ·simp only [Act.put, List.setIfInBounds_toArray, List.set_cons_zero, List.set_cons_succ, i64_w, i32_w]
  rfl
 refine pure_ (i := 5) (N := some 15) (v := ?_) (a' := ?_) #[true, true, false, true, true, true, false, false, false, false, false] rfl rfl (any_of HT_.out (by kernel_rfl)) (fun _ _ _ h => h) (Or.inl ⟨by rfl, ?_⟩) ?_ ?_
 rotate_left
 ·intro w'
  go_simp
  with_reducible rfl
 rotate_left
 ·simp only [Act.put, List.setIfInBounds_toArray, List.set_cons_zero, List.set_cons_succ, i64_w, i32_w]
  rfl
 refine pure_ (i := 6) (N := some 16) (v := ?_) (a' := ?_) #[true, true, false, true, true, true, true, false, false, false, false] rfl rfl (any_of HT_.out (by kernel_rfl)) (fun _ _ _ h => h) (Or.inl ⟨by rfl, ?_⟩) ?_ ?_
 rotate_left
 ·intro w'
  go_simp
  with_reducible rfl
 rotate_left
 ·simp only [Act.put, List.setIfInBounds_toArray, List.set_cons_zero, List.set_cons_succ, i64_w, i32_w]
  rfl
 refine join_ (σ := Value) 2 #[true, true, true, true, true, true, true, true, true, false, false] (fun s_ => [(12, .string t501), (17, s_), (18, .string (strOfNums y502))]) (fun s_ w' => (Kd.R (Kd.int .u8) 5 w' w.heap.size (fun _ => True) s_ y502) ∧ (Below w.heap.size w w')) ?_ ?_
 rotate_left
 ·intro hCont
  refine two_ (i := 2) (j := 7) (Ni := some 12) (Nj := some 17) #[true, true, true, true, true, true, true, false, false, false, false] #[true, true, false, true, true, true, true, true, false, false, false] rfl rfl rfl rfl (two_of HT_.out (by kernel_rfl)) (by decide) (by decide) (fun K hK => ?_) (fun K hK => ?_)
  ·skip
   refine goes_ Tryz.func81 (by kernel_rfl) rfl #[.int .i64 (wrap64 (Int.tdiv a0 10))] (by rfl) rfl rfl aR_ ?_
   with_reducible refine (ih k (by omega) (wrap64 (Int.tdiv a0 10)) t501 _ A6.out).mono ?_
   rintro e w9 ⟨rfl, hb⟩
   refine ⟨_, rfl, ?_⟩
   replace HB := bE_ HB hb
   (try clear hb)
   refine hK.out _ _ trivial (fun hHeld => ?_)
   clear hK K
   refine norm_ (a' := ?_) ?_ ?_
   rotate_left
   ·show Act.put _ (some 12) _ = _
    simp only [Act.put, List.setIfInBounds_toArray, List.set_cons_zero, List.set_cons_succ, i64_w, i32_w]
    rfl
   refine one_ (i := 7) (N := some 17) #[true, true, true, true, true, true, true, true, false, false, false] rfl rfl (one_of HT_.out (by kernel_rfl)) (by decide) (fun K hK => ?_)
   refine Kd.R_lit_step (Kd.int .u8) _ 5 ?hg (N := 17) ?hd (xs := ([(wrap64 (48 + (Int.tmod a0 10))) % 256] : List Int)) (inner := [.int .u8 ((wrap64 (48 + (Int.tmod a0 10))) % 256)]) (ok := fun _ => True) (okp := fun _ => True) ?hr ?hp (fun _ hk => hk) trivial (Below.refl _ _) (Nat.le_refl _) (by simp) ?_; (case hd => rfl); (case hg => rfl); (case hr => first | (go_simp; done) | (go_simp; rfl)); (case hp => exact (Reps.one (show Kd.M (Kd.int .u8) _ _ _ ((wrap64 (48 + (Int.tmod a0 10))) % 256) [.int .u8 ((wrap64 (48 + (Int.tmod a0 10))) % 256)] from rfl) (Reps.none _ _)))
   intro v503 w10 ho11 hb hg_ hnew_
   clear hg_ hnew_
   (first | rw [← Ny502.out] at ho11 | (simp only [Int.reduceToNat] at ho11; rw [← Ny502.out] at ho11))
   have HO504 := aS_ (Kd.R_lower ho11 (below_size (bb_ HB)))
   replace HB := bE_ HB hb
   clear hb ho11
   refine hK.out _ _ trivial (fun hHeld => ?_)
   clear hK K
   refine norm_ (a' := ?_) ?_ ?_
   rotate_left
   ·show Act.put _ (some 17) _ = _
    simp only [Act.put, List.setIfInBounds_toArray, List.set_cons_zero, List.set_cons_succ, i64_w, i32_w]
    rfl
   refine one_ (i := 8) (N := some 18) #[true, true, true, true, true, true, true, true, true, false, false] rfl rfl (one_of HT_.out (by kernel_rfl)) (by decide) (fun K hK => ?_)
   have hcv12 := own_string (P := Tryz.prog) Tryz.underlying22 Tryz.underlying5 Tryz.underlying9 (Kd.own_of_R HO504.out)
   refine value_ (w1 := ?_) (v := ?_) (by rfl) rfl ?_ ?_
   rotate_left 2
   ·go_simp
    constructor
    ·rfl
    rfl
   clear hcv12
   refine hK.out _ _ trivial (fun hHeld => ?_)
   clear hK K
   refine norm_ (a' := ?_) ?_ ?_
   rotate_left
   ·show Act.put _ (some 18) _ = _
    simp only [Act.put, List.setIfInBounds_toArray, List.set_cons_zero, List.set_cons_succ, i64_w, i32_w]
    rfl
   exact norm_ (by simp only [putAll, Act.put, List.setIfInBounds_toArray, List.set_cons_zero, List.set_cons_succ]) (hCont (v503) _ ⟨(rr_ HO504), (bb_ HB)⟩)
  skip
  refine Kd.R_lit_step (Kd.int .u8) _ 5 ?hg (N := 17) ?hd (xs := ([(wrap64 (48 + (Int.tmod a0 10))) % 256] : List Int)) (inner := [.int .u8 ((wrap64 (48 + (Int.tmod a0 10))) % 256)]) (ok := fun _ => True) (okp := fun _ => True) ?hr ?hp (fun _ hk => hk) trivial (Below.refl _ _) (Nat.le_refl _) (by simp) ?_; (case hd => rfl); (case hg => rfl); (case hr => first | (go_simp; done) | (go_simp; rfl)); (case hp => exact (Reps.one (show Kd.M (Kd.int .u8) _ _ _ ((wrap64 (48 + (Int.tmod a0 10))) % 256) [.int .u8 ((wrap64 (48 + (Int.tmod a0 10))) % 256)] from rfl) (Reps.none _ _)))
  intro v503 w9 ho10 hb hg_ hnew_
  clear hg_ hnew_
  (first | rw [← Ny502.out] at ho10 | (simp only [Int.reduceToNat] at ho10; rw [← Ny502.out] at ho10))
  have HO504 := aS_ (Kd.R_lower ho10 (below_size (bb_ HB)))
  replace HB := bE_ HB hb
  clear hb ho10
  refine hK.out _ _ trivial (fun hHeld => ?_)
  clear hK K
  refine norm_ (a' := ?_) ?_ ?_
  rotate_left
  ·show Act.put _ (some 17) _ = _
   simp only [Act.put, List.setIfInBounds_toArray, List.set_cons_zero, List.set_cons_succ, i64_w, i32_w]
   rfl
  refine two_ (i := 2) (j := 8) (Ni := some 12) (Nj := some 18) #[true, true, true, true, true, true, true, true, false, false, false] #[true, true, false, true, true, true, true, true, true, false, false] rfl rfl rfl rfl (two_of HT_.out (by kernel_rfl)) (by decide) (by decide) (fun K hK => ?_) (fun K hK => ?_)
  ·skip
   refine goes_ Tryz.func81 (by kernel_rfl) rfl #[.int .i64 (wrap64 (Int.tdiv a0 10))] (by rfl) rfl rfl aR_ ?_
   with_reducible refine (ih k (by omega) (wrap64 (Int.tdiv a0 10)) t501 _ A6.out).mono ?_
   rintro e w11 ⟨rfl, hb⟩
   refine ⟨_, rfl, ?_⟩
   replace HO504 := aS_ (Kd.R_below (rr_ HO504) hb)
   replace HB := bE_ HB hb
   (try clear hb)
   refine hK.out _ _ trivial (fun hHeld => ?_)
   clear hK K
   refine norm_ (a' := ?_) ?_ ?_
   rotate_left
   ·show Act.put _ (some 12) _ = _
    simp only [Act.put, List.setIfInBounds_toArray, List.set_cons_zero, List.set_cons_succ, i64_w, i32_w]
    rfl
   refine one_ (i := 8) (N := some 18) #[true, true, true, true, true, true, true, true, true, false, false] rfl rfl (one_of HT_.out (by kernel_rfl)) (by decide) (fun K hK => ?_)
   have hcv12 := own_string (P := Tryz.prog) Tryz.underlying22 Tryz.underlying5 Tryz.underlying9 (Kd.own_of_R HO504.out)
   refine value_ (w1 := ?_) (v := ?_) (by rfl) rfl ?_ ?_
   rotate_left 2
   ·go_simp
    constructor
    ·rfl
    rfl
   clear hcv12
   refine hK.out _ _ trivial (fun hHeld => ?_)
   clear hK K
   refine norm_ (a' := ?_) ?_ ?_
   rotate_left
   ·show Act.put _ (some 18) _ = _
    simp only [Act.put, List.setIfInBounds_toArray, List.set_cons_zero, List.set_cons_succ, i64_w, i32_w]
    rfl
   exact norm_ (by simp only [putAll, Act.put, List.setIfInBounds_toArray, List.set_cons_zero, List.set_cons_succ]) (hCont (v503) _ ⟨(rr_ HO504), (bb_ HB)⟩)
  skip
  have hcv11 := own_string (P := Tryz.prog) Tryz.underlying22 Tryz.underlying5 Tryz.underlying9 (Kd.own_of_R HO504.out)
  refine value_ (w1 := ?_) (v := ?_) (by rfl) rfl ?_ ?_
  rotate_left 2
  ·go_simp
   constructor
   ·rfl
   rfl
  clear hcv11
  refine hK.out _ _ trivial (fun hHeld => ?_)
  clear hK K
  refine norm_ (a' := ?_) ?_ ?_
  rotate_left
  ·show Act.put _ (some 18) _ = _
   simp only [Act.put, List.setIfInBounds_toArray, List.set_cons_zero, List.set_cons_succ, i64_w, i32_w]
   rfl
  refine one_ (i := 2) (N := some 12) #[true, true, true, true, true, true, true, true, true, false, false] rfl rfl (one_of HT_.out (by kernel_rfl)) (by decide) (fun K hK => ?_)
  refine goes_ Tryz.func81 (by kernel_rfl) rfl #[.int .i64 (wrap64 (Int.tdiv a0 10))] (by rfl) rfl rfl aR_ ?_
  with_reducible refine (ih k (by omega) (wrap64 (Int.tdiv a0 10)) t501 _ A6.out).mono ?_
  rintro e w12 ⟨rfl, hb⟩
  refine ⟨_, rfl, ?_⟩
  replace HO504 := aS_ (Kd.R_below (rr_ HO504) hb)
  replace HB := bE_ HB hb
  (try clear hb)
  refine hK.out _ _ trivial (fun hHeld => ?_)
  clear hK K
  refine norm_ (a' := ?_) ?_ ?_
  rotate_left
  ·show Act.put _ (some 12) _ = _
   simp only [Act.put, List.setIfInBounds_toArray, List.set_cons_zero, List.set_cons_succ, i64_w, i32_w]
   rfl
  exact norm_ (by simp only [putAll, Act.put, List.setIfInBounds_toArray, List.set_cons_zero, List.set_cons_succ]) (hCont (v503) _ ⟨(rr_ HO504), (bb_ HB)⟩)
 rintro v503 w13 ⟨h0_, h1_⟩
 have n0_ : Aside0 (Kd.R (Kd.int .u8) 5 w13 w.heap.size (fun _ => True) v503 y502) := ⟨h0_⟩
 have n1_ : Aside0 (Below w.heap.size w w13) := ⟨h1_⟩
 clear HB
 clear h0_ h1_
 have HO504 := n0_
 have HB := n1_
 clear n0_ n1_
 have hHeld := trivial
 refine norm_ (a' := ?_) ?_ ?_
 rotate_left
 ·simp only [putAll, Act.put, List.setIfInBounds_toArray, List.set_cons_zero, List.set_cons_succ]
  rfl
 refine pure_ (i := 9) (N := some 19) (v := ?_) (a' := ?_) #[true, true, true, true, true, true, true, true, true, true, false] rfl rfl (any_of HT_.out (by kernel_rfl)) (fun _ _ _ h => h) (Or.inl ⟨by rfl, ?_⟩) ?_ ?_
 rotate_left
 ·intro w'
  go_simp
  with_reducible rfl
 rotate_left
 ·simp only [Act.put, List.setIfInBounds_toArray, List.set_cons_zero, List.set_cons_succ, i64_w, i32_w]
  rfl
 refine pure_ (i := 10) (N := some 2) (v := ?_) (a' := ?_) #[true, true, true, true, true, true, true, true, true, true, true] rfl rfl (any_of HT_.out (by kernel_rfl)) (fun _ _ _ h => h) (Or.inl ⟨by rfl, ?_⟩) ?_ ?_
 rotate_left
 ·intro w'
  go_simp
  with_reducible rfl
 rotate_left
 ·simp only [Act.put, List.setIfInBounds_toArray, List.set_cons_zero, List.set_cons_succ, i64_w, i32_w]
  rfl
 refine done_ (done_of HT_.out (by kernel_rfl)) ?_
 try go_wp2
 go_ret
 exact ⟨eR_, bb_ HB⟩
/-! ### spec_prText: function 50 -/
def spec_prText.l0 : Nat → ByteArray → List Int → Int → Int → Option (ByteArray)
 | 0, _, _, _, _ => none
 | k + 1, x3, x7, x8, x9 => if x9 < x8 then (if 0 ≤ x9 then (if x9 < (x7.length : Int) then (if x9 > 0 then (if x3.size + 1 ≤ 9223372036854775807 then (if (rd x7 x9) = (-1) then (if (x3 ++ (⟨#[32]⟩ : ByteArray)).size + 1 ≤ 9223372036854775807 then (spec_prText.l0 k ((x3 ++ (⟨#[32]⟩ : ByteArray)) ++ (⟨#[46]⟩ : ByteArray)) x7 x8 (wrap64 (x9 + 1))) else (none)) else ((spec_l1Num.f k (rd x7 x9)).bind fun t507 => (if (x3 ++ (⟨#[32]⟩ : ByteArray)).size + t507.size ≤ 9223372036854775807 then (spec_prText.l0 k ((x3 ++ (⟨#[32]⟩ : ByteArray)) ++ t507) x7 x8 (wrap64 (x9 + 1))) else (none)))) else (none)) else (if (rd x7 x9) = (-1) then (if x3.size + 1 ≤ 9223372036854775807 then (spec_prText.l0 k (x3 ++ (⟨#[46]⟩ : ByteArray)) x7 x8 (wrap64 (x9 + 1))) else (none)) else ((spec_l1Num.f k (rd x7 x9)).bind fun t508 => (if x3.size + t508.size ≤ 9223372036854775807 then (spec_prText.l0 k (x3 ++ t508) x7 x8 (wrap64 (x9 + 1))) else (none))))) else (none)) else (none)) else (some x3)
def spec_prText.f (k : Nat) (l0_0 : List Int) : Option (ByteArray) := spec_prText.l0 k (⟨#[]⟩ : ByteArray) l0_0 (l0_0.length : Int) 0
theorem spec_prText.mono_l : ∀ k, (∀ y0 y1 y2 y3, LeO (spec_prText.l0 k y0 y1 y2 y3) (spec_prText.l0 (k + 1) y0 y1 y2 y3))
 | 0 => fun _ _ _ _ r h => by simp [spec_prText.l0] at h
 | k + 1 => by
  have ih0 := spec_prText.mono_l k
  intro y0 y1 y2 y3
  unfold spec_prText.l0
  exact mo2_ ih0 spec_l1Num.mono
theorem spec_prText.mono : ∀ a0 k, LeO (spec_prText.f k a0) (spec_prText.f (k + 1) a0) := by
 intro a0 k
 have ih0 := spec_prText.mono_l k
 unfold spec_prText.f
 exact mo2_ ih0 spec_l1Num.mono
set_option maxHeartbeats 8000000 in
set_option maxRecDepth 100000 in
theorem spec_prText.calls (k : Nat) (A0_0 : Option Addr) (c0_0 : Nat) (l0_0 : List Int) (r : ByteArray) (w : World) (hr0_0 : Kd.C (Kd.int .i64) w A0_0 l0_0.length l0_0) (hc0_0 : l0_0.length ≤ c0_0) (h : spec_prText.f k l0_0 = some r) :
  Calls Tryz.prog 50 #[.agg #[.slice A0_0 l0_0.length c0_0]] w fun e w' => e = .returned (.string r) ∧ Below w.heap.size w w' := by
 have hu26 := Tryz.underlying26
 have HR0_0 := aS_ hr0_0
 have HC0_0 := aS_ hc0_0
 clear hr0_0 hc0_0
 have HB := aS_ (Below.refl w.heap.size w)
 have H : (spec_prText.l0 k (⟨#[]⟩ : ByteArray) l0_0 (l0_0.length : Int) 0) = some r := h
 clear h
 have H' := aS_ H
 clear H
 go_enter Tryz.func50, Tryz.ntmps50
 go_wp2_with (first | ((with_reducible refine gg_ ?_); refine bx_ 1 #[.slice A0_0 l0_0.length c0_0] 26 ?_; intro gb505 hg w2 hbox hb; have BK505 := aS_ (hbox); have GW505 := gE_ HB hg; have GE505 := gE_ HB hg; replace HB := bE_ HB hb; clear hb hbox hg; obtain ⟨hcz3_0, hfz3_0⟩ := c10_ BK505))
 go_loopg [3, 9] k (fun kq v3 v9 w' => ∃ (x3_1 : ByteArray) (x9_1 : Int), v3 = .string x3_1 ∧ v9 = .int .i64 x9_1 ∧ Aside0 (spec_prText.l0 kq x3_1 l0_0 (l0_0.length : Int) x9_1 = some r) ∧ Aside0 (kq ≤ k) ∧ Aside0 (w'.heap[gb505]? = some (.cells #[(.slice A0_0 l0_0.length c0_0)] 26 (0, 0))) ∧ Aside0 (Below w.heap.size w w'))
 case atStart => exact ⟨((⟨#[]⟩ : ByteArray)), (0), sR_, sR_, H', ⟨Nat.le_refl _⟩, ⟨kk_ BK505⟩, ⟨bb_ HB⟩⟩
 case round =>
 clear H'
 try clear hcz3_0
 try clear hfz3_0
 obtain ⟨x3_1, x9_1, rfl, rfl, HA, HK1, BK505, HB⟩ := hrel
 cases gk with
 | zero => exact absurd HA.out (by simp [spec_prText.l0])
 | succ k1 =>
 have H := HA.out
 clear HA
 simp only [spec_prText.l0] at H
 replace H := id_ H; rcases H with ⟨c4b0, H⟩ | ⟨c4b0, H⟩
 ·replace H := jd_ H; obtain ⟨c5b0, H⟩ := H
  replace H := jd_ H; obtain ⟨c6b0, H⟩ := H
  replace H := id_ H; rcases H with ⟨c7b0, H⟩ | ⟨c7b0, H⟩
  ·replace H := jp_ H; obtain ⟨c8, H⟩ := H
   have c8b0 := eq_true c8
   have c8b1 : decide (x3_1.size + 1 ≤ 9223372036854775807) = true := decide_eq_true c8
   try have c8b2 : (9223372036854775807 < x3_1.size + 1) = False := eq_false (Nat.not_lt.2 c8)
   replace H := iq_ H; rcases H with ⟨c9b0, c9b1, H⟩ | ⟨c9b0, c9b1, c9, H⟩
   ·replace H := jp_ H; obtain ⟨c10, H⟩ := H
    have c10b0 := eq_true c10
    have c10b1 : decide ((x3_1 ++ (⟨#[32]⟩ : ByteArray)).size + 1 ≤ 9223372036854775807) = true := decide_eq_true c10
    try have c10b2 : (9223372036854775807 < (x3_1 ++ (⟨#[32]⟩ : ByteArray)).size + 1) = False := eq_false (Nat.not_lt.2 c10)
    try have c10b5 : (9223372036854775807 < x3_1.size + 1 + 1) = False := eq_false (by have h_ := c10; rw [ByteArray.size_append] at h_; have e_ : (⟨#[32]⟩ : ByteArray).size = 1 := rfl; omega)
    try have c10b6 : (9223372036854775807 < x3_1.size + (⟨#[32]⟩ : ByteArray).size + 1) = False := eq_false (by have h_ := c10; rw [ByteArray.size_append] at h_; have e_ : (⟨#[32]⟩ : ByteArray).size = 1 := rfl; omega)
    try have c10b5 : (9223372036854775807 < x3_1.size + 1 + 1) = False := eq_false (by have h_ := c10; rw [ByteArray.size_append] at h_; have e_ : (⟨#[32]⟩ : ByteArray).size = 1 := rfl; omega)
    try have c10b6 : (9223372036854775807 < x3_1.size + (⟨#[32]⟩ : ByteArray).size + 1) = False := eq_false (by have h_ := c10; rw [ByteArray.size_append] at h_; have e_ : (⟨#[32]⟩ : ByteArray).size = 1 := rfl; omega)
    have H' := aS_ H
    clear H
    have p506 : 0 ≤ (x9_1 : Int) := of_decide_eq_true (by assumption)
    have q506 : x9_1 < (l0_0.length : Int) := of_decide_eq_true (by assumption)
    obtain ⟨ad506, e506, hx506_0⟩ := Kd.at_int HR0_0.out x9_1 p506 q506
    cases e506
    replace hx506_0 := (HB.out.cell (World.block_lt_of_cell? w _ hx506_0)).trans hx506_0
    replace p506 := eq_true p506
    replace q506 := eq_true q506
    go_wp2
    go_roundg k1
    case measure => have := HK1.out; omega
    case rel => exact ⟨((x3_1 ++ (⟨#[32]⟩ : ByteArray)) ++ (⟨#[46]⟩ : ByteArray)), (wrap64 (x9_1 + 1)), sR_, sR_, H', ⟨by have := HK1.out; omega⟩, ⟨kk_ BK505⟩, ⟨bb_ HB⟩⟩
   replace H := bs_ H; obtain ⟨t507, A11, H⟩ := H
   replace H := jp_ H; obtain ⟨c12, H⟩ := H
   have c12b0 := eq_true c12
   have c12b1 : decide ((x3_1 ++ (⟨#[32]⟩ : ByteArray)).size + t507.size ≤ 9223372036854775807) = true := decide_eq_true c12
   try have c12b2 : (9223372036854775807 < (x3_1 ++ (⟨#[32]⟩ : ByteArray)).size + t507.size) = False := eq_false (Nat.not_lt.2 c12)
   try have c12b5 : (9223372036854775807 < x3_1.size + 1 + t507.size) = False := eq_false (by have h_ := c12; rw [ByteArray.size_append] at h_; have e_ : (⟨#[32]⟩ : ByteArray).size = 1 := rfl; omega)
   try have c12b6 : (9223372036854775807 < x3_1.size + (⟨#[32]⟩ : ByteArray).size + t507.size) = False := eq_false (by have h_ := c12; rw [ByteArray.size_append] at h_; have e_ : (⟨#[32]⟩ : ByteArray).size = 1 := rfl; omega)
   try have c12b5 : (9223372036854775807 < x3_1.size + 1 + t507.size) = False := eq_false (by have h_ := c12; rw [ByteArray.size_append] at h_; have e_ : (⟨#[32]⟩ : ByteArray).size = 1 := rfl; omega)
   try have c12b6 : (9223372036854775807 < x3_1.size + (⟨#[32]⟩ : ByteArray).size + t507.size) = False := eq_false (by have h_ := c12; rw [ByteArray.size_append] at h_; have e_ : (⟨#[32]⟩ : ByteArray).size = 1 := rfl; omega)
   have H' := aS_ H
   clear H
   have p506 : 0 ≤ (x9_1 : Int) := of_decide_eq_true (by assumption)
   have q506 : x9_1 < (l0_0.length : Int) := of_decide_eq_true (by assumption)
   obtain ⟨ad506, e506, hx506_0⟩ := Kd.at_int HR0_0.out x9_1 p506 q506
   cases e506
   replace hx506_0 := (HB.out.cell (World.block_lt_of_cell? w _ hx506_0)).trans hx506_0
   replace p506 := eq_true p506
   replace q506 := eq_true q506
   go_wp2_with (first | ((with_reducible refine gg_ ?_); refine gc_ 81 (some 24) Tryz.func81 #[.int .i64 (rd l0_0 x9_1)] ?_; (with_reducible refine (spec_l1Num.calls k1 (rd l0_0 x9_1) t507 _ A11.out).mono ?_); rintro e w13 ⟨rfl, hb⟩; refine ⟨_, rfl, ?_⟩; replace BK505 := kO_ BK505 hb; replace HB := bE_ HB hb; (try clear hb)))
   go_roundg k1
   case measure => have := HK1.out; omega
   case rel => exact ⟨((x3_1 ++ (⟨#[32]⟩ : ByteArray)) ++ t507), (wrap64 (x9_1 + 1)), sR_, sR_, H', ⟨by have := HK1.out; omega⟩, ⟨kk_ BK505⟩, ⟨bb_ HB⟩⟩
  replace H := iq_ H; rcases H with ⟨c14b0, c14b1, H⟩ | ⟨c14b0, c14b1, c14, H⟩
  ·replace H := jp_ H; obtain ⟨c15, H⟩ := H
   have c15b0 := eq_true c15
   have c15b1 : decide (x3_1.size + 1 ≤ 9223372036854775807) = true := decide_eq_true c15
   try have c15b2 : (9223372036854775807 < x3_1.size + 1) = False := eq_false (Nat.not_lt.2 c15)
   have H' := aS_ H
   clear H
   have p506 : 0 ≤ (x9_1 : Int) := of_decide_eq_true (by assumption)
   have q506 : x9_1 < (l0_0.length : Int) := of_decide_eq_true (by assumption)
   obtain ⟨ad506, e506, hx506_0⟩ := Kd.at_int HR0_0.out x9_1 p506 q506
   cases e506
   replace hx506_0 := (HB.out.cell (World.block_lt_of_cell? w _ hx506_0)).trans hx506_0
   replace p506 := eq_true p506
   replace q506 := eq_true q506
   go_wp2
   go_roundg k1
   case measure => have := HK1.out; omega
   case rel => exact ⟨(x3_1 ++ (⟨#[46]⟩ : ByteArray)), (wrap64 (x9_1 + 1)), sR_, sR_, H', ⟨by have := HK1.out; omega⟩, ⟨kk_ BK505⟩, ⟨bb_ HB⟩⟩
  replace H := bs_ H; obtain ⟨t508, A16, H⟩ := H
  replace H := jp_ H; obtain ⟨c17, H⟩ := H
  have c17b0 := eq_true c17
  have c17b1 : decide (x3_1.size + t508.size ≤ 9223372036854775807) = true := decide_eq_true c17
  try have c17b2 : (9223372036854775807 < x3_1.size + t508.size) = False := eq_false (Nat.not_lt.2 c17)
  have H' := aS_ H
  clear H
  have p506 : 0 ≤ (x9_1 : Int) := of_decide_eq_true (by assumption)
  have q506 : x9_1 < (l0_0.length : Int) := of_decide_eq_true (by assumption)
  obtain ⟨ad506, e506, hx506_0⟩ := Kd.at_int HR0_0.out x9_1 p506 q506
  cases e506
  replace hx506_0 := (HB.out.cell (World.block_lt_of_cell? w _ hx506_0)).trans hx506_0
  replace p506 := eq_true p506
  replace q506 := eq_true q506
  go_wp2_with (first | ((with_reducible refine gg_ ?_); refine gc_ 81 (some 24) Tryz.func81 #[.int .i64 (rd l0_0 x9_1)] ?_; (with_reducible refine (spec_l1Num.calls k1 (rd l0_0 x9_1) t508 _ A16.out).mono ?_); rintro e w18 ⟨rfl, hb⟩; refine ⟨_, rfl, ?_⟩; replace BK505 := kO_ BK505 hb; replace HB := bE_ HB hb; (try clear hb)))
  go_roundg k1
  case measure => have := HK1.out; omega
  case rel => exact ⟨(x3_1 ++ t508), (wrap64 (x9_1 + 1)), sR_, sR_, H', ⟨by have := HK1.out; omega⟩, ⟨kk_ BK505⟩, ⟨bb_ HB⟩⟩
 obtain rfl := Option.some.inj H
 go_wp2
 go_ret
 exact ⟨eR_, bb_ HB⟩
/-! ### spec_TableText: function 20 -/
def spec_TableText.f (k : Nat) (l0_0 : List Int) : Option (ByteArray × Bool) := (spec_prGood.f k l0_0).bind fun t510 => (if t510 = true then ((spec_prText.f k l0_0).bind fun t511 => (some (t511, true))) else (some ((⟨#[]⟩ : ByteArray), false)))
theorem spec_TableText.mono : ∀ a0 k, LeO (spec_TableText.f k a0) (spec_TableText.f (k + 1) a0) := by
 intro a0 k
 unfold spec_TableText.f
 exact mo2_ spec_prGood.mono spec_prText.mono
set_option maxHeartbeats 8000000 in
set_option maxRecDepth 100000 in
theorem spec_TableText.calls (k : Nat) (A0_0 : Option Addr) (c0_0 : Nat) (l0_0 : List Int) (r1 : ByteArray) (r2 : Bool) (w : World) (hr0_0 : Kd.C (Kd.int .i64) w A0_0 l0_0.length l0_0) (hc0_0 : l0_0.length ≤ c0_0) (h : spec_TableText.f k l0_0 = some (r1, r2)) :
  Calls Tryz.prog 20 #[.agg #[.slice A0_0 l0_0.length c0_0]] w fun e w' => e = .returned (.tuple #[.string r1, .bool r2]) ∧ Below w.heap.size w w' := by
 have hu26 := Tryz.underlying26
 have HR0_0 := aS_ hr0_0
 have HC0_0 := aS_ hc0_0
 clear hr0_0 hc0_0
 have HB := aS_ (Below.refl w.heap.size w)
 have H : ((spec_prGood.f k l0_0).bind fun t510 => (if t510 = true then ((spec_prText.f k l0_0).bind fun t511 => (some (t511, true))) else (some ((⟨#[]⟩ : ByteArray), false)))) = some (r1, r2) := h
 clear h
 replace H := bs_ H; obtain ⟨t510, A2, H⟩ := H
 replace H := it_ H; rcases H with ⟨rfl, H⟩ | ⟨rfl, H⟩
 ·replace H := bs_ H; obtain ⟨t511, A4, H⟩ := H
  simp only [Option.some.injEq, Prod.mk.injEq] at H
  obtain ⟨rfl, rfl⟩ := H
  go_enter Tryz.func20, Tryz.ntmps20
  go_wp2_with (first | ((with_reducible refine gg_ ?_); refine bx_ 1 #[.slice A0_0 l0_0.length c0_0] 26 ?_; intro gb509 hg w5 hbox hb; have BK509 := aS_ (hbox); have GW509 := gE_ HB hg; have GE509 := gE_ HB hg; replace HB := bE_ HB hb; clear hb hbox hg; obtain ⟨hcz6_0, hfz6_0⟩ := c10_ BK509) | ((with_reducible refine gg_ ?_); refine gc_ 30 (some 5) Tryz.func30 #[.agg #[.slice A0_0 l0_0.length c0_0]] ?_; (with_reducible refine (spec_prGood.calls k _ _ l0_0 true _ ?side1 ?side2 A2.out).mono ?_); (case side1 => exact cB_ HR0_0 HB); (case side2 => exact HC0_0.out); rintro e w7 ⟨rfl, hb⟩; refine ⟨_, rfl, ?_⟩; replace BK509 := kO_ BK509 hb; replace HB := bE_ HB hb; (try clear hb); obtain ⟨hcz8_0, hfz8_0⟩ := c10_ BK509) | ((with_reducible refine gg_ ?_); refine gc_ 50 (some 8) Tryz.func50 #[.agg #[.slice A0_0 l0_0.length c0_0]] ?_; (with_reducible refine (spec_prText.calls k _ _ l0_0 t511 _ ?side1 ?side2 A4.out).mono ?_); (case side1 => exact cB_ HR0_0 HB); (case side2 => exact HC0_0.out); rintro e w9 ⟨rfl, hb⟩; refine ⟨_, rfl, ?_⟩; replace BK509 := kO_ BK509 hb; replace HB := bE_ HB hb; (try clear hb)))
  go_ret2
  exact ⟨eR_, bb_ HB⟩
 simp only [Option.some.injEq, Prod.mk.injEq] at H
 obtain ⟨rfl, rfl⟩ := H
 go_enter Tryz.func20, Tryz.ntmps20
 go_wp2_with (first | ((with_reducible refine gg_ ?_); refine bx_ 1 #[.slice A0_0 l0_0.length c0_0] 26 ?_; intro gb509 hg w10 hbox hb; have BK509 := aS_ (hbox); have GW509 := gE_ HB hg; have GE509 := gE_ HB hg; replace HB := bE_ HB hb; clear hb hbox hg; obtain ⟨hcz11_0, hfz11_0⟩ := c10_ BK509) | ((with_reducible refine gg_ ?_); refine gc_ 30 (some 5) Tryz.func30 #[.agg #[.slice A0_0 l0_0.length c0_0]] ?_; (with_reducible refine (spec_prGood.calls k _ _ l0_0 false _ ?side1 ?side2 A2.out).mono ?_); (case side1 => exact cB_ HR0_0 HB); (case side2 => exact HC0_0.out); rintro e w12 ⟨rfl, hb⟩; refine ⟨_, rfl, ?_⟩; replace BK509 := kO_ BK509 hb; replace HB := bE_ HB hb; (try clear hb)))
 go_ret2
 exact ⟨eR_, bb_ HB⟩
/-! ### impl_ParseTable: function 21 -/
def impl_ParseTable.l0 : Nat → List ByteArray → Int → Int → List Int → Option (List Int × Bool)
 | 0, _, _, _, _ => none
 | k + 1, x11, x12, x13, x514000 => if x13 < x12 then (if 0 ≤ x13 then (if x13 < (x11.length : Int) then ((impl_readNumber.f (rdOf ByteArray.empty x11 x13)).bind fun bt519 => (if (rdOf ByteArray.empty x11 x13).toList = ([46] : List UInt8) then (if x514000.length < 17592186044416 then (impl_ParseTable.l0 k x11 x12 (wrap64 (x13 + 1)) (x514000 ++ [(-1)])) else (none)) else (if bt519.2 = true then (if bt519.1 < 0 then (some (([] : List Int), false)) else (if x514000.length < 17592186044416 then (impl_ParseTable.l0 k x11 x12 (wrap64 (x13 + 1)) (x514000 ++ [bt519.1])) else (none))) else (some (([] : List Int), false))))) else (none)) else (none)) else ((impl_isTable.f k x514000).bind fun t517 => (if t517 = true then (some (x514000, true)) else (some (([] : List Int), false))))
def impl_ParseTable.f (k : Nat) (a0 : ByteArray) : Option (List Int × Bool) := (strings_Split.f a0 (⟨#[32]⟩ : ByteArray)).bind fun t514 => (impl_ParseTable.l0 k t514 (t514.length : Int) 0 ([] : List Int))
theorem impl_ParseTable.mono_l : ∀ k, (∀ y0 y1 y2 y3, LeO (impl_ParseTable.l0 k y0 y1 y2 y3) (impl_ParseTable.l0 (k + 1) y0 y1 y2 y3))
 | 0 => fun _ _ _ _ r h => by simp [impl_ParseTable.l0] at h
 | k + 1 => by
  have ih0 := impl_ParseTable.mono_l k
  intro y0 y1 y2 y3
  unfold impl_ParseTable.l0
  exact mo2_ ih0 impl_isTable.mono
theorem impl_ParseTable.mono : ∀ a0 k, LeO (impl_ParseTable.f k a0) (impl_ParseTable.f (k + 1) a0) := by
 intro a0 k
 have ih0 := impl_ParseTable.mono_l k
 unfold impl_ParseTable.f
 exact mo2_ ih0 impl_isTable.mono
set_option maxHeartbeats 8000000 in
set_option maxRecDepth 100000 in
theorem impl_ParseTable.calls (k : Nat) (a0 : ByteArray) (r1 : List Int) (r2 : Bool) (w : World) (hG : GP w) (h : impl_ParseTable.f k a0 = some (r1, r2)) :
  Calls Tryz.prog 21 #[.string a0] w fun e w' => ∃ v0_ : Value, e = .returned (.tuple #[.agg #[v0_], .bool r2]) ∧ Kd.R (Kd.int .i64) 3 w' w.heap.size (fun _ => True) v0_ r1 ∧ Below w.heap.size w w' := by
 have HG := aS_ hG
 clear hG
 have hu26 := Tryz.underlying26
 have HB := aS_ (Below.refl w.heap.size w)
 have H : ((strings_Split.f a0 (⟨#[32]⟩ : ByteArray)).bind fun t514 => (impl_ParseTable.l0 k t514 (t514.length : Int) 0 ([] : List Int))) = some (r1, r2) := h
 clear h
 replace H := bs_ H; obtain ⟨t514, A2, H⟩ := H
 have H' := aS_ H
 clear H
 go_enter Tryz.func21, Tryz.ntmps21
 go_wp2_with (first | ((with_reducible refine gg_ ?_); refine bx_ 2 #[.slice none 0 0] 26 ?_; intro gb512 hg w3 hbox hb; have BK512 := aS_ (hbox); have GW512 := gE_ HB hg; have GE512 := gE_ HB hg; replace HB := bE_ HB hb; clear hb hbox hg) | ((with_reducible refine gg_ ?_); refine bx_ 4 #[.slice none 0 0] 26 ?_; intro gb513 hg w4 hbox hb; have BK513 := aS_ (hbox); have GW513 := gE_ HB hg; have GE513 := gE_ HB hg; replace HB := bE_ HB hb; have NB512_513 := nL_ BK512 hg; have NB513_512 := nG_ BK512 hg; replace BK512 := kO_ BK512 hb; clear hb hbox hg; have hnb5 := NB513_512.out; have hnc5 := NB512_513.out; obtain ⟨hcz6_0, hfz6_0⟩ := c10_ BK513) | ((with_reducible refine gg_ ?_); refine gc_ 51 (some 11) Tryz.func51 #[.string a0, .string (⟨#[32]⟩ : ByteArray)] ?_; (with_reducible refine (strings_Split.calls a0 (⟨#[32]⟩ : ByteArray) t514 _ ?sideG A2.out).mono ?_); (case sideG => exact GP.on HG.out (bb_ HB)); rintro e w7 ⟨v515, rfl, ho0, hb⟩; refine ⟨_, rfl, ?_⟩; have HO516 := aS_ (Kd.R_lower ho0 (below_size (bb_ HB))); replace BK512 := aS_ (blk_below (g := gb512) (o := .cells #[.slice none 0 0] 26 (0, 0)) (by (with_reducible repeat (first | refine kN_ ?_ _ | refine kD_ ?_ | refine kA_ ?_ _)); refine blk_far ?_ NB512_513.out _; (with_reducible repeat (first | refine kN_ ?_ _ | refine kD_ ?_ | refine kA_ ?_ _)); exact BK512.out) hb); replace BK513 := aS_ (blk_below (g := gb513) (o := .cells #[.slice none 0 0] 26 (0, 0)) (by (with_reducible repeat (first | refine kN_ ?_ _ | refine kD_ ?_ | refine kA_ ?_ _)); refine blk_put (cs := #[.slice none 0 0]) ?_ 0 _ rfl; (with_reducible repeat (first | refine kN_ ?_ _ | refine kD_ ?_ | refine kA_ ?_ _)); exact BK513.out) hb); replace HB := bE_ HB hb; (try clear hb); (try clear ho0); obtain ⟨Ao8, co8, eo8⟩ := Kd.R_slice HO516.out; subst eo8))
 go_loopg [13] k (fun kq v13 w' => ∃ (x13_1 : Int) (x514000_1 : List Int) (u514000 : Value), v13 = .int .i64 x13_1 ∧ Aside0 (impl_ParseTable.l0 kq t514 (t514.length : Int) x13_1 x514000_1 = some (r1, r2)) ∧ Aside0 (kq ≤ k) ∧ Aside0 (Kd.R Kd.string 9 w' w.heap.size (fun _ => True) (.slice Ao8 t514.length co8) t514) ∧ Aside0 (Kd.R (Kd.int .i64) 3 w' w.heap.size (fun _ => True) u514000 x514000_1) ∧ Aside0 (w'.heap[gb512]? = some (.cells #[(.slice none 0 0)] 26 (0, 0))) ∧ Aside0 (w'.heap[gb513]? = some (.cells #[u514000] 26 (0, 0))) ∧ Aside0 (Below w.heap.size w w'))
 case atStart => exact ⟨(0), (([] : List Int)), (.slice none 0 0), sR_, H', ⟨Nat.le_refl _⟩, ⟨rr_ HO516⟩, ⟨by first | exact Kd.R_nil _ _ _ _ _ | exact Kd.N_nil _ _ _ _ _ | exact Kd.V_nil _ _ _ _ _ | exact Kd.Q_nil _ _ _ _ _ | exact Kd.S_nil _ _ _ _ _⟩, ⟨kk_ BK512⟩, ⟨kk_ BK513⟩, ⟨bb_ HB⟩⟩
 case round =>
 clear H'
 try clear hcz6_0
 try clear hfz6_0
 obtain ⟨x13_1, x514000_1, u514000, rfl, HA, HK1, HO_11, HO_514000, BK512, BK513, HB⟩ := hrel
 cases gk with
 | zero => exact absurd HA.out (by simp [impl_ParseTable.l0])
 | succ k1 =>
 have H := HA.out
 clear HA
 simp only [impl_ParseTable.l0] at H
 replace H := id_ H; rcases H with ⟨c9b0, H⟩ | ⟨c9b0, H⟩
 ·replace H := jd_ H; obtain ⟨c10b0, H⟩ := H
  replace H := jd_ H; obtain ⟨c11b0, H⟩ := H
  replace H := bs_ H; obtain ⟨⟨t519, t520⟩, A12, H⟩ := H
  replace H := iq_ H; rcases H with ⟨c13b0, c13b1, H⟩ | ⟨c13b0, c13b1, c13, H⟩
  ·replace H := jp_ H; obtain ⟨c14, H⟩ := H
   have LMc14 := aS_ c14
   clear c14
   obtain ⟨y521, hy521⟩ : ∃ y_ : List Int, y_ = (x514000_1 ++ [(-1)]) := ⟨_, rfl⟩
   replace H : (impl_ParseTable.l0 k1 t514 (t514.length : Int) (wrap64 (x13_1 + 1)) y521) = some (r1, r2) := yH_ hy521 H
   have Ny521 := aS_ hy521
   clear hy521
   have H' := aS_ H
   clear H
   have p518 : 0 ≤ (x13_1 : Int) := of_decide_eq_true (by assumption)
   have q518 : x13_1 < (t514.length : Int) := of_decide_eq_true (by assumption)
   obtain ⟨ad518, e518, hx518_0⟩ := Kd.at_string (Kd.R_reads' HO_11.out).2.2 x13_1 p518 q518
   cases e518
   replace p518 := eq_true p518
   replace q518 := eq_true q518
   go_wp2_with (first | ((with_reducible refine gg_ ?_); refine gc_ 52 (some 19) Tryz.func52 #[.string (rdOf ByteArray.empty t514 x13_1)] ?_; (with_reducible refine (impl_readNumber.calls (rdOf ByteArray.empty t514 x13_1) t519 t520 _ ?sideG A12.out).mono ?_); (case sideG => exact GP.on HG.out (bb_ HB)); rintro e w15 ⟨rfl, hb⟩; refine ⟨_, rfl, ?_⟩; replace HO_11 := aS_ (Kd.R_below (rr_ HO_11) hb); replace HO_514000 := aS_ (Kd.R_below (rr_ HO_514000) hb); replace BK512 := kO_ BK512 hb; replace BK513 := kO_ BK513 hb; replace HB := bE_ HB hb; (try clear hb); have hnb16 := NB513_512.out; have hnc16 := NB512_513.out; obtain ⟨hcz17_0, hfz17_0⟩ := c10_ BK513) | ((with_reducible refine gate_builtin (b := .append) (xs := #[.tmp 34, .tmp 36]) rfl ?_); at_builtin; refine Kd.R_append (Kd.int .i64) (w0 := w) w.heap.size rfl (.tmp 34) (.tmp 36) 24 3 (.int .i64 0) 8 rfl Tryz.underlying24 info3 rfl (by decide) (by omega) u514000 x514000_1 (-1) [.int .i64 (-1)] (fun _ => True) (fun _ => False) rfl rfl ?aP (fun _ hk => hk.elim) ?aF ?aO ?aB ?aS ?aL ?_; (case aP => exact rfl); (case aB => exact (bb_ HB)); (case aF => exact (fun _ _ => trivial)); (case aO => exact (rr_ HO_514000)); (case aS => exact (below_size (bb_ HB))); (case aL => have := LMc14.out; omega); intro v522 w18 ho hb hg hat; rw [← Ny521.out] at ho; replace HO_11 := aS_ (Kd.R_over' (rr_ HO_11) (Kd.R_typed (rr_ HO_514000)) (by decide) hg); replace BK512 := aS_ (blk_grown (g := gb512) (o := .cells #[.slice none 0 0] 26 (0, 0)) (kk_ BK512) hg (Kd.R_ne HO_514000.out BK512.out (by decide))); replace BK513 := aS_ (blk_grown (g := gb513) (o := .cells #[u514000] 26 (0, 0)) (kk_ BK513) hg (Kd.R_ne HO_514000.out BK513.out (by decide))); replace HB := aS_ (hb); have HO523 := aS_ (ho); clear HO_514000; clear ho hb hg hat; obtain ⟨Ao19, co19, eo19⟩ := Kd.R_slice HO523.out; subst eo19; obtain ⟨hcz20_0, hfz20_0⟩ := c10_ BK513))
   go_roundg k1
   case measure => have := HK1.out; omega
   case rel => exact ⟨(wrap64 (x13_1 + 1)), (y521), (.slice Ao19 y521.length co19), sR_, H', ⟨by have := HK1.out; omega⟩, ⟨by (with_reducible repeat (first | apply rA_ | apply rN_ | apply rD_)); exact Kd.R_mono (Kd.R_far (p := ⟨gb513, 0, none⟩) (Kd.R_types HO_11.out BK513.out (by decide)) (fun _ hk => hk.2) (.slice Ao19 y521.length co19)) (fun _ hk => trivial)⟩, ⟨by (with_reducible repeat (first | apply rA_ | apply rN_ | apply rD_)); exact Kd.R_mono (Kd.R_far (p := ⟨gb513, 0, none⟩) (Kd.R_types HO523.out BK513.out (by decide)) (fun _ hk => hk.2) (.slice Ao19 y521.length co19)) (fun _ hk => trivial)⟩, ⟨by (with_reducible repeat (first | refine kN_ ?_ _ | refine kD_ ?_ | refine kA_ ?_ _)); refine blk_far ?_ NB512_513.out _; (with_reducible repeat (first | refine kN_ ?_ _ | refine kD_ ?_ | refine kA_ ?_ _)); exact BK512.out⟩, ⟨by (with_reducible repeat (first | refine kN_ ?_ _ | refine kD_ ?_ | refine kA_ ?_ _)); refine blk_put (cs := #[u514000]) ?_ 0 _ rfl; (with_reducible repeat (first | refine kN_ ?_ _ | refine kD_ ?_ | refine kA_ ?_ _)); exact BK513.out⟩, ⟨bb_ HB⟩⟩
  replace H := it_ H; rcases H with ⟨rfl, H⟩ | ⟨rfl, H⟩
  ·replace H := id_ H; rcases H with ⟨c22b0, H⟩ | ⟨c22b0, H⟩
   ·simp only [Option.some.injEq, Prod.mk.injEq] at H
    obtain ⟨rfl, rfl⟩ := H
    have p518 : 0 ≤ (x13_1 : Int) := of_decide_eq_true (by assumption)
    have q518 : x13_1 < (t514.length : Int) := of_decide_eq_true (by assumption)
    obtain ⟨ad518, e518, hx518_0⟩ := Kd.at_string (Kd.R_reads' HO_11.out).2.2 x13_1 p518 q518
    cases e518
    replace p518 := eq_true p518
    replace q518 := eq_true q518
    go_wp2_with (first | ((with_reducible refine gg_ ?_); refine gc_ 52 (some 19) Tryz.func52 #[.string (rdOf ByteArray.empty t514 x13_1)] ?_; (with_reducible refine (impl_readNumber.calls (rdOf ByteArray.empty t514 x13_1) t519 true _ ?sideG A12.out).mono ?_); (case sideG => exact GP.on HG.out (bb_ HB)); rintro e w23 ⟨rfl, hb⟩; refine ⟨_, rfl, ?_⟩; replace HO_11 := aS_ (Kd.R_below (rr_ HO_11) hb); replace HO_514000 := aS_ (Kd.R_below (rr_ HO_514000) hb); replace BK512 := kO_ BK512 hb; replace BK513 := kO_ BK513 hb; replace HB := bE_ HB hb; (try clear hb); have hnb24 := NB512_513.out; have hnc24 := NB513_512.out; obtain ⟨hcz25_0, hfz25_0⟩ := c10_ BK512))
    refine bodyPost_ret (results_ct rfl _ _ gb512 26 #[.slice none 0 0] (0, 0) _ rfl (by (with_reducible repeat (first | refine kN_ ?_ _ | refine kD_ ?_ | refine kA_ ?_ _)); refine blk_put (cs := #[.slice none 0 0]) ?_ 0 _ rfl; (with_reducible repeat (first | refine kN_ ?_ _ | refine kD_ ?_ | refine kA_ ?_ _)); exact BK512.out) Tryz.underlying26 rfl (by kernel_rfl)) rfl ?_
    exact ⟨_, by first | rfl | (simp [errW_none, errW_some] <;> rfl) | (simp [*, errW_none, errW_some] <;> rfl), by first | exact Kd.R_nil _ _ _ _ _ | exact Kd.N_nil _ _ _ _ _ | exact Kd.V_nil _ _ _ _ _ | exact Kd.Q_nil _ _ _ _ _ | exact Kd.S_nil _ _ _ _ _, bb_ HB⟩
   replace H := jp_ H; obtain ⟨c26, H⟩ := H
   have LMc26 := aS_ c26
   clear c26
   obtain ⟨y524, hy524⟩ : ∃ y_ : List Int, y_ = (x514000_1 ++ [t519]) := ⟨_, rfl⟩
   replace H : (impl_ParseTable.l0 k1 t514 (t514.length : Int) (wrap64 (x13_1 + 1)) y524) = some (r1, r2) := yH_ hy524 H
   have Ny524 := aS_ hy524
   clear hy524
   have H' := aS_ H
   clear H
   have p518 : 0 ≤ (x13_1 : Int) := of_decide_eq_true (by assumption)
   have q518 : x13_1 < (t514.length : Int) := of_decide_eq_true (by assumption)
   obtain ⟨ad518, e518, hx518_0⟩ := Kd.at_string (Kd.R_reads' HO_11.out).2.2 x13_1 p518 q518
   cases e518
   replace p518 := eq_true p518
   replace q518 := eq_true q518
   go_wp2_with (first | ((with_reducible refine gg_ ?_); refine gc_ 52 (some 19) Tryz.func52 #[.string (rdOf ByteArray.empty t514 x13_1)] ?_; (with_reducible refine (impl_readNumber.calls (rdOf ByteArray.empty t514 x13_1) t519 true _ ?sideG A12.out).mono ?_); (case sideG => exact GP.on HG.out (bb_ HB)); rintro e w27 ⟨rfl, hb⟩; refine ⟨_, rfl, ?_⟩; replace HO_11 := aS_ (Kd.R_below (rr_ HO_11) hb); replace HO_514000 := aS_ (Kd.R_below (rr_ HO_514000) hb); replace BK512 := kO_ BK512 hb; replace BK513 := kO_ BK513 hb; replace HB := bE_ HB hb; (try clear hb); have hnb28 := NB513_512.out; have hnc28 := NB512_513.out; obtain ⟨hcz29_0, hfz29_0⟩ := c10_ BK513) | ((with_reducible refine gate_builtin (b := .append) (xs := #[.tmp 34, .tmp 36]) rfl ?_); at_builtin; refine Kd.R_append (Kd.int .i64) (w0 := w) w.heap.size rfl (.tmp 34) (.tmp 36) 24 3 (.int .i64 0) 8 rfl Tryz.underlying24 info3 rfl (by decide) (by omega) u514000 x514000_1 t519 [.int .i64 t519] (fun _ => True) (fun _ => False) rfl rfl ?aP (fun _ hk => hk.elim) ?aF ?aO ?aB ?aS ?aL ?_; (case aP => exact rfl); (case aB => exact (bb_ HB)); (case aF => exact (fun _ _ => trivial)); (case aO => exact (rr_ HO_514000)); (case aS => exact (below_size (bb_ HB))); (case aL => have := LMc26.out; omega); intro v525 w30 ho hb hg hat; rw [← Ny524.out] at ho; replace HO_11 := aS_ (Kd.R_over' (rr_ HO_11) (Kd.R_typed (rr_ HO_514000)) (by decide) hg); replace BK512 := aS_ (blk_grown (g := gb512) (o := .cells #[.slice none 0 0] 26 (0, 0)) (kk_ BK512) hg (Kd.R_ne HO_514000.out BK512.out (by decide))); replace BK513 := aS_ (blk_grown (g := gb513) (o := .cells #[u514000] 26 (0, 0)) (kk_ BK513) hg (Kd.R_ne HO_514000.out BK513.out (by decide))); replace HB := aS_ (hb); have HO526 := aS_ (ho); clear HO_514000; clear ho hb hg hat; obtain ⟨Ao31, co31, eo31⟩ := Kd.R_slice HO526.out; subst eo31; obtain ⟨hcz32_0, hfz32_0⟩ := c10_ BK513))
   go_roundg k1
   case measure => have := HK1.out; omega
   case rel => exact ⟨(wrap64 (x13_1 + 1)), (y524), (.slice Ao31 y524.length co31), sR_, H', ⟨by have := HK1.out; omega⟩, ⟨by (with_reducible repeat (first | apply rA_ | apply rN_ | apply rD_)); exact Kd.R_mono (Kd.R_far (p := ⟨gb513, 0, none⟩) (Kd.R_types HO_11.out BK513.out (by decide)) (fun _ hk => hk.2) (.slice Ao31 y524.length co31)) (fun _ hk => trivial)⟩, ⟨by (with_reducible repeat (first | apply rA_ | apply rN_ | apply rD_)); exact Kd.R_mono (Kd.R_far (p := ⟨gb513, 0, none⟩) (Kd.R_types HO526.out BK513.out (by decide)) (fun _ hk => hk.2) (.slice Ao31 y524.length co31)) (fun _ hk => trivial)⟩, ⟨by (with_reducible repeat (first | refine kN_ ?_ _ | refine kD_ ?_ | refine kA_ ?_ _)); refine blk_far ?_ NB512_513.out _; (with_reducible repeat (first | refine kN_ ?_ _ | refine kD_ ?_ | refine kA_ ?_ _)); exact BK512.out⟩, ⟨by (with_reducible repeat (first | refine kN_ ?_ _ | refine kD_ ?_ | refine kA_ ?_ _)); refine blk_put (cs := #[u514000]) ?_ 0 _ rfl; (with_reducible repeat (first | refine kN_ ?_ _ | refine kD_ ?_ | refine kA_ ?_ _)); exact BK513.out⟩, ⟨bb_ HB⟩⟩
  simp only [Option.some.injEq, Prod.mk.injEq] at H
  obtain ⟨rfl, rfl⟩ := H
  have p518 : 0 ≤ (x13_1 : Int) := of_decide_eq_true (by assumption)
  have q518 : x13_1 < (t514.length : Int) := of_decide_eq_true (by assumption)
  obtain ⟨ad518, e518, hx518_0⟩ := Kd.at_string (Kd.R_reads' HO_11.out).2.2 x13_1 p518 q518
  cases e518
  replace p518 := eq_true p518
  replace q518 := eq_true q518
  go_wp2_with (first | ((with_reducible refine gg_ ?_); refine gc_ 52 (some 19) Tryz.func52 #[.string (rdOf ByteArray.empty t514 x13_1)] ?_; (with_reducible refine (impl_readNumber.calls (rdOf ByteArray.empty t514 x13_1) t519 false _ ?sideG A12.out).mono ?_); (case sideG => exact GP.on HG.out (bb_ HB)); rintro e w33 ⟨rfl, hb⟩; refine ⟨_, rfl, ?_⟩; replace HO_11 := aS_ (Kd.R_below (rr_ HO_11) hb); replace HO_514000 := aS_ (Kd.R_below (rr_ HO_514000) hb); replace BK512 := kO_ BK512 hb; replace BK513 := kO_ BK513 hb; replace HB := bE_ HB hb; (try clear hb); have hnb34 := NB512_513.out; have hnc34 := NB513_512.out; obtain ⟨hcz35_0, hfz35_0⟩ := c10_ BK512))
  refine bodyPost_ret (results_ct rfl _ _ gb512 26 #[.slice none 0 0] (0, 0) _ rfl (by (with_reducible repeat (first | refine kN_ ?_ _ | refine kD_ ?_ | refine kA_ ?_ _)); refine blk_put (cs := #[.slice none 0 0]) ?_ 0 _ rfl; (with_reducible repeat (first | refine kN_ ?_ _ | refine kD_ ?_ | refine kA_ ?_ _)); exact BK512.out) Tryz.underlying26 rfl (by kernel_rfl)) rfl ?_
  exact ⟨_, by first | rfl | (simp [errW_none, errW_some] <;> rfl) | (simp [*, errW_none, errW_some] <;> rfl), by first | exact Kd.R_nil _ _ _ _ _ | exact Kd.N_nil _ _ _ _ _ | exact Kd.V_nil _ _ _ _ _ | exact Kd.Q_nil _ _ _ _ _ | exact Kd.S_nil _ _ _ _ _, bb_ HB⟩
 replace H := bs_ H; obtain ⟨t517, A36, H⟩ := H
 replace H := it_ H; rcases H with ⟨rfl, H⟩ | ⟨rfl, H⟩
 ·simp only [Option.some.injEq, Prod.mk.injEq] at H
  obtain ⟨rfl, rfl⟩ := H
  have hnb38 := NB513_512.out
  have hnc38 := NB512_513.out
  obtain ⟨hcz39_0, hfz39_0⟩ := c10_ BK513
  obtain ⟨Ao40, co40, eo40⟩ := Kd.R_slice HO_514000.out
  subst eo40
  go_wp2_with (first | ((with_reducible refine gg_ ?_); refine gc_ 28 (some 41) Tryz.func28 #[.agg #[.slice Ao40 x514000_1.length co40]] ?_; (with_reducible refine (impl_isTable.calls k1 _ _ x514000_1 true _ ?side1 ?side2 A36.out).mono ?_); (case side1 => exact cR_ HO_514000); (case side2 => exact (Kd.R_reads' HO_514000.out).2.1); rintro e w41 ⟨rfl, hb⟩; refine ⟨_, rfl, ?_⟩; replace HO_11 := aS_ (Kd.R_below (rr_ HO_11) hb); replace HO_514000 := aS_ (Kd.R_below (rr_ HO_514000) hb); replace BK512 := kO_ BK512 hb; replace BK513 := kO_ BK513 hb; replace HB := bE_ HB hb; (try clear hb); obtain ⟨hcz42_0, hfz42_0⟩ := c10_ BK513; obtain ⟨hcz43_0, hfz43_0⟩ := c10_ BK512))
  refine bodyPost_ret (results_ct rfl _ _ gb512 26 #[.slice Ao40 x514000_1.length co40] (0, 0) _ rfl (by (with_reducible repeat (first | refine kN_ ?_ _ | refine kD_ ?_ | refine kA_ ?_ _)); refine blk_put (cs := #[.slice none 0 0]) ?_ 0 _ rfl; (with_reducible repeat (first | refine kN_ ?_ _ | refine kD_ ?_ | refine kA_ ?_ _)); exact BK512.out) Tryz.underlying26 rfl (by kernel_rfl)) rfl ?_
  exact ⟨_, by first | rfl | (simp [errW_none, errW_some] <;> rfl) | (simp [*, errW_none, errW_some] <;> rfl), by (with_reducible repeat (first | apply rA_ | apply rN_ | apply rD_)); exact Kd.R_mono (Kd.R_far (p := ⟨gb512, 0, none⟩) (Kd.R_types HO_514000.out BK512.out (by decide)) (fun _ hk => hk.2) (.slice Ao40 x514000_1.length co40)) (fun _ hk => trivial), bb_ HB⟩
 simp only [Option.some.injEq, Prod.mk.injEq] at H
 obtain ⟨rfl, rfl⟩ := H
 have hnb44 := NB513_512.out
 have hnc44 := NB512_513.out
 obtain ⟨hcz45_0, hfz45_0⟩ := c10_ BK513
 obtain ⟨Ao46, co46, eo46⟩ := Kd.R_slice HO_514000.out
 subst eo46
 go_wp2_with (first | ((with_reducible refine gg_ ?_); refine gc_ 28 (some 41) Tryz.func28 #[.agg #[.slice Ao46 x514000_1.length co46]] ?_; (with_reducible refine (impl_isTable.calls k1 _ _ x514000_1 false _ ?side1 ?side2 A36.out).mono ?_); (case side1 => exact cR_ HO_514000); (case side2 => exact (Kd.R_reads' HO_514000.out).2.1); rintro e w47 ⟨rfl, hb⟩; refine ⟨_, rfl, ?_⟩; replace HO_11 := aS_ (Kd.R_below (rr_ HO_11) hb); replace HO_514000 := aS_ (Kd.R_below (rr_ HO_514000) hb); replace BK512 := kO_ BK512 hb; replace BK513 := kO_ BK513 hb; replace HB := bE_ HB hb; (try clear hb); obtain ⟨hcz48_0, hfz48_0⟩ := c10_ BK512))
 refine bodyPost_ret (results_ct rfl _ _ gb512 26 #[.slice none 0 0] (0, 0) _ rfl (by (with_reducible repeat (first | refine kN_ ?_ _ | refine kD_ ?_ | refine kA_ ?_ _)); refine blk_put (cs := #[.slice none 0 0]) ?_ 0 _ rfl; (with_reducible repeat (first | refine kN_ ?_ _ | refine kD_ ?_ | refine kA_ ?_ _)); exact BK512.out) Tryz.underlying26 rfl (by kernel_rfl)) rfl ?_
 exact ⟨_, by first | rfl | (simp [errW_none, errW_some] <;> rfl) | (simp [*, errW_none, errW_some] <;> rfl), by first | exact Kd.R_nil _ _ _ _ _ | exact Kd.N_nil _ _ _ _ _ | exact Kd.V_nil _ _ _ _ _ | exact Kd.Q_nil _ _ _ _ _ | exact Kd.S_nil _ _ _ _ _, bb_ HB⟩
/-! ### spec_l1Cur_spoilt: function 55 -/
mutual
def spec_l1Cur_spoilt.l0 : Nat → ByteArray → ByteArray → Int → List Int → Int → Int → Option (ByteArray × Int × Int)
 | 0, _, _, _, _, _, _ => none
 | k + 1, x1, x2, x7, x1000, x1001, x1002 => if x7 > 0 then (spec_l1Cur_spoilt.j1 k x1 x2 x7 (decide ((x1.size : Int) > 0)) x1000 x1001 x1002) else (spec_l1Cur_spoilt.j1 k x1 x2 x7 false x1000 x1001 x1002)
def spec_l1Cur_spoilt.j1 : Nat → ByteArray → ByteArray → Int → Bool → List Int → Int → Int → Option (ByteArray × Int × Int)
 | 0, _, _, _, _, _, _, _ => none
 | k + 1, x1, x2, x7, x19, x1000, x1001, x1002 => if x19 = true then ((spec_l1Cur_pick.f x1000 x1001 x1002 (x1.size : Int)).bind fun bt530 => ((spec_l1Cur_pick.f x1000 bt530.2.1 bt530.2.2 (x2.size : Int)).bind fun bt533 => (if 0 ≤ bt533.1 then (if bt533.1 < (x2.size : Int) then ((some (([bt x2 bt533.1] : List Int) : List Int)).bind fun y536 => ((spec_l1Cur_pick.f x1000 bt533.2.1 bt533.2.2 3).bind fun bt539 => (if bt539.1 = 0 then (if 0 ≤ bt530.1 then (if bt530.1 ≤ (x1.size : Int) then (if (x1.extract 0 (bt530.1 : Int).toNat).size + (strOfNums y536).size ≤ 9223372036854775807 then (if ((x1.extract 0 (bt530.1 : Int).toNat) ++ (strOfNums y536)).size + (x1.extract (bt530.1 : Int).toNat x1.size).size ≤ 9223372036854775807 then (spec_l1Cur_spoilt.l0 k (((x1.extract 0 (bt530.1 : Int).toNat) ++ (strOfNums y536)) ++ (x1.extract (bt530.1 : Int).toNat x1.size)) x2 (wrap64 (x7 - 1)) x1000 bt539.2.1 bt539.2.2) else (none)) else (none)) else (none)) else (none)) else (if bt539.1 = 1 then (if 0 ≤ bt530.1 then (if bt530.1 ≤ (x1.size : Int) then (if (x1.extract 0 (bt530.1 : Int).toNat).size + (strOfNums y536).size ≤ 9223372036854775807 then (if 0 ≤ (wrap64 (bt530.1 + 1)) then (if (wrap64 (bt530.1 + 1)) ≤ (x1.size : Int) then (if ((x1.extract 0 (bt530.1 : Int).toNat) ++ (strOfNums y536)).size + (x1.extract ((wrap64 (bt530.1 + 1)) : Int).toNat x1.size).size ≤ 9223372036854775807 then (spec_l1Cur_spoilt.l0 k (((x1.extract 0 (bt530.1 : Int).toNat) ++ (strOfNums y536)) ++ (x1.extract ((wrap64 (bt530.1 + 1)) : Int).toNat x1.size)) x2 (wrap64 (x7 - 1)) x1000 bt539.2.1 bt539.2.2) else (none)) else (none)) else (none)) else (none)) else (none)) else (none)) else (if 0 ≤ bt530.1 then (if bt530.1 ≤ (x1.size : Int) then (if 0 ≤ (wrap64 (bt530.1 + 1)) then (if (wrap64 (bt530.1 + 1)) ≤ (x1.size : Int) then (if (x1.extract 0 (bt530.1 : Int).toNat).size + (x1.extract ((wrap64 (bt530.1 + 1)) : Int).toNat x1.size).size ≤ 9223372036854775807 then (spec_l1Cur_spoilt.l0 k ((x1.extract 0 (bt530.1 : Int).toNat) ++ (x1.extract ((wrap64 (bt530.1 + 1)) : Int).toNat x1.size)) x2 (wrap64 (x7 - 1)) x1000 bt539.2.1 bt539.2.2) else (none)) else (none)) else (none)) else (none)) else (none)))))) else (none)) else (none)))) else (some (x1, x1001, x1002))
end
def spec_l1Cur_spoilt.f (k : Nat) (s0_0 : List Int) (s0_1 : Int) (s0_2 : Int) (a1 : ByteArray) (a2 : ByteArray) : Option (ByteArray × Int × Int) := (spec_l1Cur_pick.f s0_0 s0_1 s0_2 2).bind fun bt527 => (spec_l1Cur_spoilt.l0 k a1 a2 (wrap64 (1 + bt527.1)) s0_0 bt527.2.1 bt527.2.2)
theorem spec_l1Cur_spoilt.mono_l : ∀ k, (∀ y0 y1 y2 y3 y4 y5, LeO (spec_l1Cur_spoilt.l0 k y0 y1 y2 y3 y4 y5) (spec_l1Cur_spoilt.l0 (k + 1) y0 y1 y2 y3 y4 y5)) ∧ (∀ y0 y1 y2 y3 y4 y5 y6, LeO (spec_l1Cur_spoilt.j1 k y0 y1 y2 y3 y4 y5 y6) (spec_l1Cur_spoilt.j1 (k + 1) y0 y1 y2 y3 y4 y5 y6))
 | 0 => ⟨fun _ _ _ _ _ _ r h => by simp [spec_l1Cur_spoilt.l0] at h, fun _ _ _ _ _ _ _ r h => by simp [spec_l1Cur_spoilt.j1] at h⟩
 | k + 1 => by
  obtain ⟨ih0, ih1⟩ := spec_l1Cur_spoilt.mono_l k
  refine ⟨?_, ?_⟩
  ·intro y0 y1 y2 y3 y4 y5
   unfold spec_l1Cur_spoilt.l0
   exact mo2_ ih0 ih1
  intro y0 y1 y2 y3 y4 y5 y6
  unfold spec_l1Cur_spoilt.j1
  exact mo2_ ih0 ih1
theorem spec_l1Cur_spoilt.mono : ∀ a0 a1 a2 a3 a4 k, LeO (spec_l1Cur_spoilt.f k a0 a1 a2 a3 a4) (spec_l1Cur_spoilt.f (k + 1) a0 a1 a2 a3 a4) := by
 intro a0 a1 a2 a3 a4 k
 obtain ⟨ih0, ih1⟩ := spec_l1Cur_spoilt.mono_l k
 unfold spec_l1Cur_spoilt.f
 exact mo2_ ih0 ih1
set_option maxHeartbeats 8000000 in
set_option maxRecDepth 100000 in
theorem spec_l1Cur_spoilt.calls (k : Nat) (g : Nat) (s0_0 : List Int) (s0_1 : Int) (s0_2 : Int) (a1 : ByteArray) (a2 : ByteArray) (r1 : ByteArray) (r2 : Int) (r3 : Int) (w0 w : World) (hI : IsS69 w0 w g s0_0 s0_1 s0_2) (hB : Below w0.heap.size w0 w) (h : spec_l1Cur_spoilt.f k s0_0 s0_1 s0_2 a1 a2 = some (r1, r2, r3)) :
  Calls Tryz.prog 55 #[.pointer (some ⟨g, 0, none⟩), .string a1, .string a2] w fun e w' => e = .returned (.string r1) ∧ IsS69 w0 w' g s0_0 r2 r3 ∧ Below w0.heap.size w0 w' ∧ KeepBut w w' g none := by
 have HI0 := aS_ hI
 have HK := aS_ (KeepBut.refl w g none)
 have HL := aS_ hB.size
 clear hI
 have HW0 := aS_ hB.size
 have HB := aS_ hB
 clear hB
 have H : ((spec_l1Cur_pick.f s0_0 s0_1 s0_2 2).bind fun bt527 => (spec_l1Cur_spoilt.l0 k a1 a2 (wrap64 (1 + bt527.1)) s0_0 bt527.2.1 bt527.2.2)) = some (r1, r2, r3) := h
 clear h
 replace H := bs_ H; obtain ⟨⟨t527, t528, t529⟩, A4, H⟩ := H
 have H' := aS_ H
 clear H
 go_enter Tryz.func55, Tryz.ntmps55
 go_wp2_with (first | (go_at_call 88; (with_reducible refine (spec_l1Cur_pick.calls g s0_0 s0_1 s0_2 2 t527 t528 t529 w0 _ ?side1 ?side2 A4.out).mono ?_); (case side1 => exact ss_ HI0); (case side2 => exact bI_ HB HI0); rintro e w5 ⟨rfl, hi, hb, hk⟩; replace HK := aS_ (KeepBut.trans (hh_ HK) hk (.inl rfl)); replace HB := aS_ (hb); replace HI0 := aS_ (hi); (try clear hb); (try clear hk); (try clear hi)))
 repeat (go_quiet (first | (go_at_call 88; (with_reducible refine (spec_l1Cur_pick.calls g s0_0 s0_1 s0_2 2 t527 t528 t529 w0 _ ?side1 ?side2 A4.out).mono ?_); (case side1 => exact ss_ HI0); (case side2 => exact bI_ HB HI0); rintro e w5 ⟨rfl, hi, hb, hk⟩; replace HK := aS_ (KeepBut.trans (hh_ HK) hk (.inl rfl)); replace HB := aS_ (hb); replace HI0 := aS_ (hi); (try clear hb); (try clear hk); (try clear hi))); try go_wp2_with (first | (go_at_call 88; (with_reducible refine (spec_l1Cur_pick.calls g s0_0 s0_1 s0_2 2 t527 t528 t529 w0 _ ?side1 ?side2 A4.out).mono ?_); (case side1 => exact ss_ HI0); (case side2 => exact bI_ HB HI0); rintro e w5 ⟨rfl, hi, hb, hk⟩; replace HK := aS_ (KeepBut.trans (hh_ HK) hk (.inl rfl)); replace HB := aS_ (hb); replace HI0 := aS_ (hi); (try clear hb); (try clear hk); (try clear hi))))
 go_loopg [1, 7] k (fun kq v1 v7 w' => ∃ (x1_1 : ByteArray) (x7_1 : Int) (x1001_1 : Int) (x1002_1 : Int), v1 = .string x1_1 ∧ v7 = .int .i64 x7_1 ∧ Aside0 (spec_l1Cur_spoilt.l0 kq x1_1 a2 x7_1 s0_0 x1001_1 x1002_1 = some (r1, r2, r3)) ∧ Aside0 (kq ≤ k) ∧ Aside0 (IsS69 w0 w' g s0_0 x1001_1 x1002_1) ∧ Aside0 (KeepBut w w' g none) ∧ Aside0 (Below w0.heap.size w0 w'))
 case atStart => exact ⟨(a1), (wrap64 (1 + t527)), (t528), (t529), sR_, sR_, H', ⟨Nat.le_refl _⟩, ⟨ss_ HI0⟩, ⟨hh_ HK⟩, ⟨bI_ HB HI0⟩⟩
 case round =>
 clear H'
 obtain ⟨x1_1, x7_1, x1001_1, x1002_1, rfl, rfl, HA, HK1, HI0, HK, HB⟩ := hrel
 cases gk with
 | zero => exact absurd HA.out (by simp [spec_l1Cur_spoilt.l0])
 | succ k1 =>
 have H := HA.out
 clear HA
 simp only [spec_l1Cur_spoilt.l0] at H
 have HC6 := aS_ H
 clear H
 go_upto_region 2 with (fail)
 repeat (go_quiet (fail); go_upto_region 2 with (fail))
 go_cut [19] (fun v19 wc => ∃ (kq : Nat) (x19_5 : Bool), v19 = .bool x19_5 ∧ Aside0 (spec_l1Cur_spoilt.j1 kq x1_1 a2 x7_1 x19_5 s0_0 x1001_1 x1002_1 = some (r1, r2, r3)) ∧ Aside0 (kq ≤ k1) ∧ Aside0 (IsS69 w0 wc g s0_0 x1001_1 x1002_1) ∧ Aside0 (KeepBut w wc g none) ∧ Aside0 (Below w0.heap.size w0 wc))
 case first =>
  have H := HC6.out
  clear HC6
  replace H := id_ H; rcases H with ⟨c7b0, H⟩ | ⟨c7b0, H⟩
  ·(first | rw [c7b0] | (simp only [i64_w, i32_w]; rw [c7b0]) | skip)
   have H' := aS_ H
   clear H
   go_wp2
   repeat (go_quiet (fail); try go_wp2)
   go_meet
   case rel => exact ⟨_, (decide ((x1_1.size : Int) > 0)), sR_, H', ⟨by have := HK1.out; first | omega | exact Nat.le_refl _⟩, ⟨ss_ HI0⟩, ⟨hh_ HK⟩, ⟨bI_ HB HI0⟩⟩
  (first | rw [c7b0] | (simp only [i64_w, i32_w]; rw [c7b0]) | skip)
  have H' := aS_ H
  clear H
  go_wp2
  repeat (go_quiet (fail); try go_wp2)
  go_meet
  case rel => exact ⟨_, (false), sR_, H', ⟨by have := HK1.out; first | omega | exact Nat.le_refl _⟩, ⟨ss_ HI0⟩, ⟨hh_ HK⟩, ⟨bI_ HB HI0⟩⟩
 case rest =>
 clear HC6
 obtain ⟨kq, x19_5, rfl, HA, HJ5, HI0, HK, HB⟩ := hcut
 cases kq with
 | zero => exact absurd HA.out (by simp [spec_l1Cur_spoilt.j1])
 | succ kj5 =>
 have H := HA.out
 clear HA
 simp only [spec_l1Cur_spoilt.j1] at H
 replace H := it_ H; rcases H with ⟨rfl, H⟩ | ⟨rfl, H⟩
 ·replace H := bs_ H; obtain ⟨⟨t530, t531, t532⟩, A9, H⟩ := H
  replace H := bs_ H; obtain ⟨⟨t533, t534, t535⟩, A10, H⟩ := H
  replace H := jd_ H; obtain ⟨c11b0, H⟩ := H
  replace H := jd_ H; obtain ⟨c12b0, H⟩ := H
  obtain ⟨y536, hy536⟩ : ∃ y_ : List Int, y_ = (([bt a2 t533] : List Int)) := ⟨_, rfl⟩
  replace H : ((spec_l1Cur_pick.f s0_0 t534 t535 3).bind fun bt539 => (if bt539.1 = 0 then (if 0 ≤ t530 then (if t530 ≤ (x1_1.size : Int) then (if (x1_1.extract 0 (t530 : Int).toNat).size + (strOfNums y536).size ≤ 9223372036854775807 then (if ((x1_1.extract 0 (t530 : Int).toNat) ++ (strOfNums y536)).size + (x1_1.extract (t530 : Int).toNat x1_1.size).size ≤ 9223372036854775807 then (spec_l1Cur_spoilt.l0 kj5 (((x1_1.extract 0 (t530 : Int).toNat) ++ (strOfNums y536)) ++ (x1_1.extract (t530 : Int).toNat x1_1.size)) a2 (wrap64 (x7_1 - 1)) s0_0 bt539.2.1 bt539.2.2) else (none)) else (none)) else (none)) else (none)) else (if bt539.1 = 1 then (if 0 ≤ t530 then (if t530 ≤ (x1_1.size : Int) then (if (x1_1.extract 0 (t530 : Int).toNat).size + (strOfNums y536).size ≤ 9223372036854775807 then (if 0 ≤ (wrap64 (t530 + 1)) then (if (wrap64 (t530 + 1)) ≤ (x1_1.size : Int) then (if ((x1_1.extract 0 (t530 : Int).toNat) ++ (strOfNums y536)).size + (x1_1.extract ((wrap64 (t530 + 1)) : Int).toNat x1_1.size).size ≤ 9223372036854775807 then (spec_l1Cur_spoilt.l0 kj5 (((x1_1.extract 0 (t530 : Int).toNat) ++ (strOfNums y536)) ++ (x1_1.extract ((wrap64 (t530 + 1)) : Int).toNat x1_1.size)) a2 (wrap64 (x7_1 - 1)) s0_0 bt539.2.1 bt539.2.2) else (none)) else (none)) else (none)) else (none)) else (none)) else (none)) else (if 0 ≤ t530 then (if t530 ≤ (x1_1.size : Int) then (if 0 ≤ (wrap64 (t530 + 1)) then (if (wrap64 (t530 + 1)) ≤ (x1_1.size : Int) then (if (x1_1.extract 0 (t530 : Int).toNat).size + (x1_1.extract ((wrap64 (t530 + 1)) : Int).toNat x1_1.size).size ≤ 9223372036854775807 then (spec_l1Cur_spoilt.l0 kj5 ((x1_1.extract 0 (t530 : Int).toNat) ++ (x1_1.extract ((wrap64 (t530 + 1)) : Int).toNat x1_1.size)) a2 (wrap64 (x7_1 - 1)) s0_0 bt539.2.1 bt539.2.2) else (none)) else (none)) else (none)) else (none)) else (none))))) = some (r1, r2, r3) := yH_ hy536 H
  have Ny536 := aS_ hy536
  clear hy536
  replace H := bs_ H; obtain ⟨⟨t539, t540, t541⟩, A14, H⟩ := H
  replace H := iq_ H; rcases H with ⟨c15b0, c15b1, H⟩ | ⟨c15b0, c15b1, c15, H⟩
  ·replace H := je_ H; obtain ⟨c16b0, c16b1, H⟩ := H
   replace H := je_ H; obtain ⟨c17b0, c17b1, H⟩ := H
   replace H := jp_ H; obtain ⟨c18, H⟩ := H
   have c18b0 := eq_true c18
   have c18b1 : decide ((x1_1.extract 0 (t530 : Int).toNat).size + (strOfNums y536).size ≤ 9223372036854775807) = true := decide_eq_true c18
   try have c18b2 : (9223372036854775807 < (x1_1.extract 0 (t530 : Int).toNat).size + (strOfNums y536).size) = False := eq_false (Nat.not_lt.2 c18)
   have c19b0 := eq_true (of_decide_eq_true (by assumption) : 0 ≤ t530)
   have c20b0 := eq_true (of_decide_eq_true (by assumption) : t530 ≤ (x1_1.size : Int))
   replace H := jp_ H; obtain ⟨c21, H⟩ := H
   have c21b0 := eq_true c21
   have c21b1 : decide (((x1_1.extract 0 (t530 : Int).toNat) ++ (strOfNums y536)).size + (x1_1.extract (t530 : Int).toNat x1_1.size).size ≤ 9223372036854775807) = true := decide_eq_true c21
   try have c21b2 : (9223372036854775807 < ((x1_1.extract 0 (t530 : Int).toNat) ++ (strOfNums y536)).size + (x1_1.extract (t530 : Int).toNat x1_1.size).size) = False := eq_false (Nat.not_lt.2 c21)
   have H' := aS_ H
   clear H
   go_wp2_with (first | (go_at_call 88; (with_reducible refine (spec_l1Cur_pick.calls g s0_0 x1001_1 x1002_1 (x1_1.size : Int) t530 t531 t532 w0 _ ?side1 ?side2 A9.out).mono ?_); (case side1 => exact ss_ HI0); (case side2 => exact bI_ HB HI0); rintro e w22 ⟨rfl, hi, hb, hk⟩; replace HK := aS_ (KeepBut.trans (hh_ HK) hk (.inl rfl)); replace HB := aS_ (hb); replace HI0 := aS_ (hi); (try clear hb); (try clear hk); (try clear hi)) | (go_at_call 88; (with_reducible refine (spec_l1Cur_pick.calls g s0_0 t531 t532 (a2.size : Int) t533 t534 t535 w0 _ ?side1 ?side2 A10.out).mono ?_); (case side1 => exact ss_ HI0); (case side2 => exact bI_ HB HI0); rintro e w23 ⟨rfl, hi, hb, hk⟩; replace HK := aS_ (KeepBut.trans (hh_ HK) hk (.inl rfl)); replace HB := aS_ (hb); replace HI0 := aS_ (hi); (try clear hb); (try clear hk); (try clear hi); have p13 : 0 ≤ (t533 : Int) := of_decide_eq_true (by assumption); have q13 : t533 < (a2.size : Int) := of_decide_eq_true (by assumption); have hx13 := bt_at a2 t533; replace p13 := eq_true p13; replace q13 := eq_true q13) | ((with_reducible refine gate_dst (N := 32) rfl ?_); (try (refine gate_guard (by rfl) ?_; dsimp only)); refine Kd.R_lit (Kd.int .u8) _ 5 ?hg (N := 32) ?hd (xs := ([bt a2 t533] : List Int)) (inner := [.int .u8 (bt a2 t533)]) (ok := fun _ => True) (okp := fun _ => True) ?hr ?hp (fun _ hk => hk) trivial (Below.refl _ _) (Nat.le_refl _) (by simp) ?_; (case hd => rfl); (case hg => rfl); (case hr => first | (go_simp; done) | (go_simp; rfl)); (case hp => exact (Reps.one (show Kd.M (Kd.int .u8) _ _ _ (bt a2 t533) [.int .u8 (bt a2 t533)] from rfl) (Reps.none _ _))); intro v537 w24 ho25 hb hg_ hnew_; clear hg_ hnew_; (first | rw [← Ny536.out] at ho25 | (simp only [Int.reduceToNat] at ho25; rw [← Ny536.out] at ho25)); have HO538 := aS_ (Kd.R_lower ho25 (keep_size (w := w) (g := g) (row := none) (hh_ HK))); replace HK := aS_ (KeepBut.trans (hh_ HK) (KeepBut.of_below hb g none) (.inl rfl)); replace HB := aS_ (below_step (bI_ HB HI0) hb); replace HI0 := aS_ (IsS69.below (ss_ HI0) hb); clear hb ho25; have hcv26 := own_string (P := Tryz.prog) Tryz.underlying22 Tryz.underlying5 Tryz.underlying9 (Kd.own_of_R HO538.out)) | (go_at_call 88; (with_reducible refine (spec_l1Cur_pick.calls g s0_0 t534 t535 3 t539 t540 t541 w0 _ ?side1 ?side2 A14.out).mono ?_); (case side1 => exact ss_ HI0); (case side2 => exact bI_ HB HI0); rintro e w27 ⟨rfl, hi, hb, hk⟩; replace HO538 := aS_ (Kd.R_mono (Kd.R_keep (IsS69.apart (show IsS69 w0 _ g s0_0 t534 t535 from ss_ HI0) (rr_ HO538) (by decide)) hk (fun _ h => h.2)) (fun _ h => h.1)); replace HK := aS_ (KeepBut.trans (hh_ HK) hk (.inl rfl)); replace HB := aS_ (hb); replace HI0 := aS_ (hi); (try clear hb); (try clear hk); (try clear hi)))
   repeat (go_quiet (first | (go_at_call 88; (with_reducible refine (spec_l1Cur_pick.calls g s0_0 x1001_1 x1002_1 (x1_1.size : Int) t530 t531 t532 w0 _ ?side1 ?side2 A9.out).mono ?_); (case side1 => exact ss_ HI0); (case side2 => exact bI_ HB HI0); rintro e w22 ⟨rfl, hi, hb, hk⟩; replace HK := aS_ (KeepBut.trans (hh_ HK) hk (.inl rfl)); replace HB := aS_ (hb); replace HI0 := aS_ (hi); (try clear hb); (try clear hk); (try clear hi)) | (go_at_call 88; (with_reducible refine (spec_l1Cur_pick.calls g s0_0 t531 t532 (a2.size : Int) t533 t534 t535 w0 _ ?side1 ?side2 A10.out).mono ?_); (case side1 => exact ss_ HI0); (case side2 => exact bI_ HB HI0); rintro e w23 ⟨rfl, hi, hb, hk⟩; replace HK := aS_ (KeepBut.trans (hh_ HK) hk (.inl rfl)); replace HB := aS_ (hb); replace HI0 := aS_ (hi); (try clear hb); (try clear hk); (try clear hi); have p13 : 0 ≤ (t533 : Int) := of_decide_eq_true (by assumption); have q13 : t533 < (a2.size : Int) := of_decide_eq_true (by assumption); have hx13 := bt_at a2 t533; replace p13 := eq_true p13; replace q13 := eq_true q13) | ((with_reducible refine gate_dst (N := 32) rfl ?_); (try (refine gate_guard (by rfl) ?_; dsimp only)); refine Kd.R_lit (Kd.int .u8) _ 5 ?hg (N := 32) ?hd (xs := ([bt a2 t533] : List Int)) (inner := [.int .u8 (bt a2 t533)]) (ok := fun _ => True) (okp := fun _ => True) ?hr ?hp (fun _ hk => hk) trivial (Below.refl _ _) (Nat.le_refl _) (by simp) ?_; (case hd => rfl); (case hg => rfl); (case hr => first | (go_simp; done) | (go_simp; rfl)); (case hp => exact (Reps.one (show Kd.M (Kd.int .u8) _ _ _ (bt a2 t533) [.int .u8 (bt a2 t533)] from rfl) (Reps.none _ _))); intro v537 w24 ho25 hb hg_ hnew_; clear hg_ hnew_; (first | rw [← Ny536.out] at ho25 | (simp only [Int.reduceToNat] at ho25; rw [← Ny536.out] at ho25)); have HO538 := aS_ (Kd.R_lower ho25 (keep_size (w := w) (g := g) (row := none) (hh_ HK))); replace HK := aS_ (KeepBut.trans (hh_ HK) (KeepBut.of_below hb g none) (.inl rfl)); replace HB := aS_ (below_step (bI_ HB HI0) hb); replace HI0 := aS_ (IsS69.below (ss_ HI0) hb); clear hb ho25; have hcv26 := own_string (P := Tryz.prog) Tryz.underlying22 Tryz.underlying5 Tryz.underlying9 (Kd.own_of_R HO538.out)) | (go_at_call 88; (with_reducible refine (spec_l1Cur_pick.calls g s0_0 t534 t535 3 t539 t540 t541 w0 _ ?side1 ?side2 A14.out).mono ?_); (case side1 => exact ss_ HI0); (case side2 => exact bI_ HB HI0); rintro e w27 ⟨rfl, hi, hb, hk⟩; replace HO538 := aS_ (Kd.R_mono (Kd.R_keep (IsS69.apart (show IsS69 w0 _ g s0_0 t534 t535 from ss_ HI0) (rr_ HO538) (by decide)) hk (fun _ h => h.2)) (fun _ h => h.1)); replace HK := aS_ (KeepBut.trans (hh_ HK) hk (.inl rfl)); replace HB := aS_ (hb); replace HI0 := aS_ (hi); (try clear hb); (try clear hk); (try clear hi))); try go_wp2_with (first | (go_at_call 88; (with_reducible refine (spec_l1Cur_pick.calls g s0_0 x1001_1 x1002_1 (x1_1.size : Int) t530 t531 t532 w0 _ ?side1 ?side2 A9.out).mono ?_); (case side1 => exact ss_ HI0); (case side2 => exact bI_ HB HI0); rintro e w22 ⟨rfl, hi, hb, hk⟩; replace HK := aS_ (KeepBut.trans (hh_ HK) hk (.inl rfl)); replace HB := aS_ (hb); replace HI0 := aS_ (hi); (try clear hb); (try clear hk); (try clear hi)) | (go_at_call 88; (with_reducible refine (spec_l1Cur_pick.calls g s0_0 t531 t532 (a2.size : Int) t533 t534 t535 w0 _ ?side1 ?side2 A10.out).mono ?_); (case side1 => exact ss_ HI0); (case side2 => exact bI_ HB HI0); rintro e w23 ⟨rfl, hi, hb, hk⟩; replace HK := aS_ (KeepBut.trans (hh_ HK) hk (.inl rfl)); replace HB := aS_ (hb); replace HI0 := aS_ (hi); (try clear hb); (try clear hk); (try clear hi); have p13 : 0 ≤ (t533 : Int) := of_decide_eq_true (by assumption); have q13 : t533 < (a2.size : Int) := of_decide_eq_true (by assumption); have hx13 := bt_at a2 t533; replace p13 := eq_true p13; replace q13 := eq_true q13) | ((with_reducible refine gate_dst (N := 32) rfl ?_); (try (refine gate_guard (by rfl) ?_; dsimp only)); refine Kd.R_lit (Kd.int .u8) _ 5 ?hg (N := 32) ?hd (xs := ([bt a2 t533] : List Int)) (inner := [.int .u8 (bt a2 t533)]) (ok := fun _ => True) (okp := fun _ => True) ?hr ?hp (fun _ hk => hk) trivial (Below.refl _ _) (Nat.le_refl _) (by simp) ?_; (case hd => rfl); (case hg => rfl); (case hr => first | (go_simp; done) | (go_simp; rfl)); (case hp => exact (Reps.one (show Kd.M (Kd.int .u8) _ _ _ (bt a2 t533) [.int .u8 (bt a2 t533)] from rfl) (Reps.none _ _))); intro v537 w24 ho25 hb hg_ hnew_; clear hg_ hnew_; (first | rw [← Ny536.out] at ho25 | (simp only [Int.reduceToNat] at ho25; rw [← Ny536.out] at ho25)); have HO538 := aS_ (Kd.R_lower ho25 (keep_size (w := w) (g := g) (row := none) (hh_ HK))); replace HK := aS_ (KeepBut.trans (hh_ HK) (KeepBut.of_below hb g none) (.inl rfl)); replace HB := aS_ (below_step (bI_ HB HI0) hb); replace HI0 := aS_ (IsS69.below (ss_ HI0) hb); clear hb ho25; have hcv26 := own_string (P := Tryz.prog) Tryz.underlying22 Tryz.underlying5 Tryz.underlying9 (Kd.own_of_R HO538.out)) | (go_at_call 88; (with_reducible refine (spec_l1Cur_pick.calls g s0_0 t534 t535 3 t539 t540 t541 w0 _ ?side1 ?side2 A14.out).mono ?_); (case side1 => exact ss_ HI0); (case side2 => exact bI_ HB HI0); rintro e w27 ⟨rfl, hi, hb, hk⟩; replace HO538 := aS_ (Kd.R_mono (Kd.R_keep (IsS69.apart (show IsS69 w0 _ g s0_0 t534 t535 from ss_ HI0) (rr_ HO538) (by decide)) hk (fun _ h => h.2)) (fun _ h => h.1)); replace HK := aS_ (KeepBut.trans (hh_ HK) hk (.inl rfl)); replace HB := aS_ (hb); replace HI0 := aS_ (hi); (try clear hb); (try clear hk); (try clear hi))))
   go_roundg kj5
   case measure => have := HK1.out; have := HJ5.out; omega
   case rel => exact ⟨(((x1_1.extract 0 (t530 : Int).toNat) ++ (strOfNums y536)) ++ (x1_1.extract (t530 : Int).toNat x1_1.size)), (wrap64 (x7_1 - 1)), (t540), (t541), sR_, sR_, H', ⟨by have := HK1.out; have := HJ5.out; omega⟩, ⟨ss_ HI0⟩, ⟨hh_ HK⟩, ⟨bI_ HB HI0⟩⟩
  replace H := iq_ H; rcases H with ⟨c28b0, c28b1, H⟩ | ⟨c28b0, c28b1, c28, H⟩
  ·replace H := je_ H; obtain ⟨c29b0, c29b1, H⟩ := H
   replace H := je_ H; obtain ⟨c30b0, c30b1, H⟩ := H
   replace H := jp_ H; obtain ⟨c31, H⟩ := H
   have c31b0 := eq_true c31
   have c31b1 : decide ((x1_1.extract 0 (t530 : Int).toNat).size + (strOfNums y536).size ≤ 9223372036854775807) = true := decide_eq_true c31
   try have c31b2 : (9223372036854775807 < (x1_1.extract 0 (t530 : Int).toNat).size + (strOfNums y536).size) = False := eq_false (Nat.not_lt.2 c31)
   obtain ⟨ji32, hji32⟩ : ∃ j_ : Int, (wrap64 (t530 + 1)) = j_ := ⟨_, rfl⟩
   replace H : (if 0 ≤ (ji32) then (if (ji32) ≤ (x1_1.size : Int) then (if ((x1_1.extract 0 (t530 : Int).toNat) ++ (strOfNums y536)).size + (x1_1.extract ((ji32) : Int).toNat x1_1.size).size ≤ 9223372036854775807 then (spec_l1Cur_spoilt.l0 kj5 (((x1_1.extract 0 (t530 : Int).toNat) ++ (strOfNums y536)) ++ (x1_1.extract ((ji32) : Int).toNat x1_1.size)) a2 (wrap64 (x7_1 - 1)) s0_0 t540 t541) else (none)) else (none)) else (none)) = some (r1, r2, r3) := by first | (rw [hji32] at H; exact H) | (simp only [hji32] at H ⊢; exact H)
   (try rw [hji32] at A9)
   (try rw [hji32] at A10)
   (try rw [hji32] at A14)
   have hji32w : (IntKind.i64.wrap (t530 + 1)) = ji32 := (i64_w _).trans hji32
   replace H := je_ H; obtain ⟨c33b0, c33b1, H⟩ := H
   replace H := je_ H; obtain ⟨c34b0, c34b1, H⟩ := H
   replace H := jp_ H; obtain ⟨c35, H⟩ := H
   have c35b0 := eq_true c35
   have c35b1 : decide (((x1_1.extract 0 (t530 : Int).toNat) ++ (strOfNums y536)).size + (x1_1.extract ((ji32) : Int).toNat x1_1.size).size ≤ 9223372036854775807) = true := decide_eq_true c35
   try have c35b2 : (9223372036854775807 < ((x1_1.extract 0 (t530 : Int).toNat) ++ (strOfNums y536)).size + (x1_1.extract ((ji32) : Int).toNat x1_1.size).size) = False := eq_false (Nat.not_lt.2 c35)
   have H' := aS_ H
   clear H
   go_wp2_with (first | (go_at_call 88; (with_reducible refine (spec_l1Cur_pick.calls g s0_0 x1001_1 x1002_1 (x1_1.size : Int) t530 t531 t532 w0 _ ?side1 ?side2 A9.out).mono ?_); (case side1 => exact ss_ HI0); (case side2 => exact bI_ HB HI0); rintro e w36 ⟨rfl, hi, hb, hk⟩; replace HK := aS_ (KeepBut.trans (hh_ HK) hk (.inl rfl)); replace HB := aS_ (hb); replace HI0 := aS_ (hi); (try clear hb); (try clear hk); (try clear hi)) | (go_at_call 88; (with_reducible refine (spec_l1Cur_pick.calls g s0_0 t531 t532 (a2.size : Int) t533 t534 t535 w0 _ ?side1 ?side2 A10.out).mono ?_); (case side1 => exact ss_ HI0); (case side2 => exact bI_ HB HI0); rintro e w37 ⟨rfl, hi, hb, hk⟩; replace HK := aS_ (KeepBut.trans (hh_ HK) hk (.inl rfl)); replace HB := aS_ (hb); replace HI0 := aS_ (hi); (try clear hb); (try clear hk); (try clear hi); have p13 : 0 ≤ (t533 : Int) := of_decide_eq_true (by assumption); have q13 : t533 < (a2.size : Int) := of_decide_eq_true (by assumption); have hx13 := bt_at a2 t533; replace p13 := eq_true p13; replace q13 := eq_true q13) | ((with_reducible refine gate_dst (N := 32) rfl ?_); (try (refine gate_guard (by rfl) ?_; dsimp only)); refine Kd.R_lit (Kd.int .u8) _ 5 ?hg (N := 32) ?hd (xs := ([bt a2 t533] : List Int)) (inner := [.int .u8 (bt a2 t533)]) (ok := fun _ => True) (okp := fun _ => True) ?hr ?hp (fun _ hk => hk) trivial (Below.refl _ _) (Nat.le_refl _) (by simp) ?_; (case hd => rfl); (case hg => rfl); (case hr => first | (go_simp; done) | (go_simp; rfl)); (case hp => exact (Reps.one (show Kd.M (Kd.int .u8) _ _ _ (bt a2 t533) [.int .u8 (bt a2 t533)] from rfl) (Reps.none _ _))); intro v537 w38 ho39 hb hg_ hnew_; clear hg_ hnew_; (first | rw [← Ny536.out] at ho39 | (simp only [Int.reduceToNat] at ho39; rw [← Ny536.out] at ho39)); have HO538 := aS_ (Kd.R_lower ho39 (keep_size (w := w) (g := g) (row := none) (hh_ HK))); replace HK := aS_ (KeepBut.trans (hh_ HK) (KeepBut.of_below hb g none) (.inl rfl)); replace HB := aS_ (below_step (bI_ HB HI0) hb); replace HI0 := aS_ (IsS69.below (ss_ HI0) hb); clear hb ho39; have hcv40 := own_string (P := Tryz.prog) Tryz.underlying22 Tryz.underlying5 Tryz.underlying9 (Kd.own_of_R HO538.out)) | (go_at_call 88; (with_reducible refine (spec_l1Cur_pick.calls g s0_0 t534 t535 3 t539 t540 t541 w0 _ ?side1 ?side2 A14.out).mono ?_); (case side1 => exact ss_ HI0); (case side2 => exact bI_ HB HI0); rintro e w41 ⟨rfl, hi, hb, hk⟩; replace HO538 := aS_ (Kd.R_mono (Kd.R_keep (IsS69.apart (show IsS69 w0 _ g s0_0 t534 t535 from ss_ HI0) (rr_ HO538) (by decide)) hk (fun _ h => h.2)) (fun _ h => h.1)); replace HK := aS_ (KeepBut.trans (hh_ HK) hk (.inl rfl)); replace HB := aS_ (hb); replace HI0 := aS_ (hi); (try clear hb); (try clear hk); (try clear hi)))
   repeat (go_quiet (first | (go_at_call 88; (with_reducible refine (spec_l1Cur_pick.calls g s0_0 x1001_1 x1002_1 (x1_1.size : Int) t530 t531 t532 w0 _ ?side1 ?side2 A9.out).mono ?_); (case side1 => exact ss_ HI0); (case side2 => exact bI_ HB HI0); rintro e w36 ⟨rfl, hi, hb, hk⟩; replace HK := aS_ (KeepBut.trans (hh_ HK) hk (.inl rfl)); replace HB := aS_ (hb); replace HI0 := aS_ (hi); (try clear hb); (try clear hk); (try clear hi)) | (go_at_call 88; (with_reducible refine (spec_l1Cur_pick.calls g s0_0 t531 t532 (a2.size : Int) t533 t534 t535 w0 _ ?side1 ?side2 A10.out).mono ?_); (case side1 => exact ss_ HI0); (case side2 => exact bI_ HB HI0); rintro e w37 ⟨rfl, hi, hb, hk⟩; replace HK := aS_ (KeepBut.trans (hh_ HK) hk (.inl rfl)); replace HB := aS_ (hb); replace HI0 := aS_ (hi); (try clear hb); (try clear hk); (try clear hi); have p13 : 0 ≤ (t533 : Int) := of_decide_eq_true (by assumption); have q13 : t533 < (a2.size : Int) := of_decide_eq_true (by assumption); have hx13 := bt_at a2 t533; replace p13 := eq_true p13; replace q13 := eq_true q13) | ((with_reducible refine gate_dst (N := 32) rfl ?_); (try (refine gate_guard (by rfl) ?_; dsimp only)); refine Kd.R_lit (Kd.int .u8) _ 5 ?hg (N := 32) ?hd (xs := ([bt a2 t533] : List Int)) (inner := [.int .u8 (bt a2 t533)]) (ok := fun _ => True) (okp := fun _ => True) ?hr ?hp (fun _ hk => hk) trivial (Below.refl _ _) (Nat.le_refl _) (by simp) ?_; (case hd => rfl); (case hg => rfl); (case hr => first | (go_simp; done) | (go_simp; rfl)); (case hp => exact (Reps.one (show Kd.M (Kd.int .u8) _ _ _ (bt a2 t533) [.int .u8 (bt a2 t533)] from rfl) (Reps.none _ _))); intro v537 w38 ho39 hb hg_ hnew_; clear hg_ hnew_; (first | rw [← Ny536.out] at ho39 | (simp only [Int.reduceToNat] at ho39; rw [← Ny536.out] at ho39)); have HO538 := aS_ (Kd.R_lower ho39 (keep_size (w := w) (g := g) (row := none) (hh_ HK))); replace HK := aS_ (KeepBut.trans (hh_ HK) (KeepBut.of_below hb g none) (.inl rfl)); replace HB := aS_ (below_step (bI_ HB HI0) hb); replace HI0 := aS_ (IsS69.below (ss_ HI0) hb); clear hb ho39; have hcv40 := own_string (P := Tryz.prog) Tryz.underlying22 Tryz.underlying5 Tryz.underlying9 (Kd.own_of_R HO538.out)) | (go_at_call 88; (with_reducible refine (spec_l1Cur_pick.calls g s0_0 t534 t535 3 t539 t540 t541 w0 _ ?side1 ?side2 A14.out).mono ?_); (case side1 => exact ss_ HI0); (case side2 => exact bI_ HB HI0); rintro e w41 ⟨rfl, hi, hb, hk⟩; replace HO538 := aS_ (Kd.R_mono (Kd.R_keep (IsS69.apart (show IsS69 w0 _ g s0_0 t534 t535 from ss_ HI0) (rr_ HO538) (by decide)) hk (fun _ h => h.2)) (fun _ h => h.1)); replace HK := aS_ (KeepBut.trans (hh_ HK) hk (.inl rfl)); replace HB := aS_ (hb); replace HI0 := aS_ (hi); (try clear hb); (try clear hk); (try clear hi))); try go_wp2_with (first | (go_at_call 88; (with_reducible refine (spec_l1Cur_pick.calls g s0_0 x1001_1 x1002_1 (x1_1.size : Int) t530 t531 t532 w0 _ ?side1 ?side2 A9.out).mono ?_); (case side1 => exact ss_ HI0); (case side2 => exact bI_ HB HI0); rintro e w36 ⟨rfl, hi, hb, hk⟩; replace HK := aS_ (KeepBut.trans (hh_ HK) hk (.inl rfl)); replace HB := aS_ (hb); replace HI0 := aS_ (hi); (try clear hb); (try clear hk); (try clear hi)) | (go_at_call 88; (with_reducible refine (spec_l1Cur_pick.calls g s0_0 t531 t532 (a2.size : Int) t533 t534 t535 w0 _ ?side1 ?side2 A10.out).mono ?_); (case side1 => exact ss_ HI0); (case side2 => exact bI_ HB HI0); rintro e w37 ⟨rfl, hi, hb, hk⟩; replace HK := aS_ (KeepBut.trans (hh_ HK) hk (.inl rfl)); replace HB := aS_ (hb); replace HI0 := aS_ (hi); (try clear hb); (try clear hk); (try clear hi); have p13 : 0 ≤ (t533 : Int) := of_decide_eq_true (by assumption); have q13 : t533 < (a2.size : Int) := of_decide_eq_true (by assumption); have hx13 := bt_at a2 t533; replace p13 := eq_true p13; replace q13 := eq_true q13) | ((with_reducible refine gate_dst (N := 32) rfl ?_); (try (refine gate_guard (by rfl) ?_; dsimp only)); refine Kd.R_lit (Kd.int .u8) _ 5 ?hg (N := 32) ?hd (xs := ([bt a2 t533] : List Int)) (inner := [.int .u8 (bt a2 t533)]) (ok := fun _ => True) (okp := fun _ => True) ?hr ?hp (fun _ hk => hk) trivial (Below.refl _ _) (Nat.le_refl _) (by simp) ?_; (case hd => rfl); (case hg => rfl); (case hr => first | (go_simp; done) | (go_simp; rfl)); (case hp => exact (Reps.one (show Kd.M (Kd.int .u8) _ _ _ (bt a2 t533) [.int .u8 (bt a2 t533)] from rfl) (Reps.none _ _))); intro v537 w38 ho39 hb hg_ hnew_; clear hg_ hnew_; (first | rw [← Ny536.out] at ho39 | (simp only [Int.reduceToNat] at ho39; rw [← Ny536.out] at ho39)); have HO538 := aS_ (Kd.R_lower ho39 (keep_size (w := w) (g := g) (row := none) (hh_ HK))); replace HK := aS_ (KeepBut.trans (hh_ HK) (KeepBut.of_below hb g none) (.inl rfl)); replace HB := aS_ (below_step (bI_ HB HI0) hb); replace HI0 := aS_ (IsS69.below (ss_ HI0) hb); clear hb ho39; have hcv40 := own_string (P := Tryz.prog) Tryz.underlying22 Tryz.underlying5 Tryz.underlying9 (Kd.own_of_R HO538.out)) | (go_at_call 88; (with_reducible refine (spec_l1Cur_pick.calls g s0_0 t534 t535 3 t539 t540 t541 w0 _ ?side1 ?side2 A14.out).mono ?_); (case side1 => exact ss_ HI0); (case side2 => exact bI_ HB HI0); rintro e w41 ⟨rfl, hi, hb, hk⟩; replace HO538 := aS_ (Kd.R_mono (Kd.R_keep (IsS69.apart (show IsS69 w0 _ g s0_0 t534 t535 from ss_ HI0) (rr_ HO538) (by decide)) hk (fun _ h => h.2)) (fun _ h => h.1)); replace HK := aS_ (KeepBut.trans (hh_ HK) hk (.inl rfl)); replace HB := aS_ (hb); replace HI0 := aS_ (hi); (try clear hb); (try clear hk); (try clear hi))))
   go_roundg kj5
   case measure => have := HK1.out; have := HJ5.out; omega
   case rel => exact ⟨(((x1_1.extract 0 (t530 : Int).toNat) ++ (strOfNums y536)) ++ (x1_1.extract ((ji32) : Int).toNat x1_1.size)), (wrap64 (x7_1 - 1)), (t540), (t541), (by first | rfl | (simp; done) | (simp only [← hji32] <;> (first | rfl | simp)) | (simp [*]; done)), sR_, H', ⟨by have := HK1.out; have := HJ5.out; omega⟩, ⟨ss_ HI0⟩, ⟨hh_ HK⟩, ⟨bI_ HB HI0⟩⟩
  replace H := je_ H; obtain ⟨c42b0, c42b1, H⟩ := H
  replace H := je_ H; obtain ⟨c43b0, c43b1, H⟩ := H
  obtain ⟨ji44, hji44⟩ : ∃ j_ : Int, (wrap64 (t530 + 1)) = j_ := ⟨_, rfl⟩
  replace H : (if 0 ≤ (ji44) then (if (ji44) ≤ (x1_1.size : Int) then (if (x1_1.extract 0 (t530 : Int).toNat).size + (x1_1.extract ((ji44) : Int).toNat x1_1.size).size ≤ 9223372036854775807 then (spec_l1Cur_spoilt.l0 kj5 ((x1_1.extract 0 (t530 : Int).toNat) ++ (x1_1.extract ((ji44) : Int).toNat x1_1.size)) a2 (wrap64 (x7_1 - 1)) s0_0 t540 t541) else (none)) else (none)) else (none)) = some (r1, r2, r3) := by first | (rw [hji44] at H; exact H) | (simp only [hji44] at H ⊢; exact H)
  (try rw [hji44] at A9)
  (try rw [hji44] at A10)
  (try rw [hji44] at A14)
  have hji44w : (IntKind.i64.wrap (t530 + 1)) = ji44 := (i64_w _).trans hji44
  replace H := je_ H; obtain ⟨c45b0, c45b1, H⟩ := H
  replace H := je_ H; obtain ⟨c46b0, c46b1, H⟩ := H
  replace H := jp_ H; obtain ⟨c47, H⟩ := H
  have c47b0 := eq_true c47
  have c47b1 : decide ((x1_1.extract 0 (t530 : Int).toNat).size + (x1_1.extract ((ji44) : Int).toNat x1_1.size).size ≤ 9223372036854775807) = true := decide_eq_true c47
  try have c47b2 : (9223372036854775807 < (x1_1.extract 0 (t530 : Int).toNat).size + (x1_1.extract ((ji44) : Int).toNat x1_1.size).size) = False := eq_false (Nat.not_lt.2 c47)
  have H' := aS_ H
  clear H
  go_wp2_with (first | (go_at_call 88; (with_reducible refine (spec_l1Cur_pick.calls g s0_0 x1001_1 x1002_1 (x1_1.size : Int) t530 t531 t532 w0 _ ?side1 ?side2 A9.out).mono ?_); (case side1 => exact ss_ HI0); (case side2 => exact bI_ HB HI0); rintro e w48 ⟨rfl, hi, hb, hk⟩; replace HK := aS_ (KeepBut.trans (hh_ HK) hk (.inl rfl)); replace HB := aS_ (hb); replace HI0 := aS_ (hi); (try clear hb); (try clear hk); (try clear hi)) | (go_at_call 88; (with_reducible refine (spec_l1Cur_pick.calls g s0_0 t531 t532 (a2.size : Int) t533 t534 t535 w0 _ ?side1 ?side2 A10.out).mono ?_); (case side1 => exact ss_ HI0); (case side2 => exact bI_ HB HI0); rintro e w49 ⟨rfl, hi, hb, hk⟩; replace HK := aS_ (KeepBut.trans (hh_ HK) hk (.inl rfl)); replace HB := aS_ (hb); replace HI0 := aS_ (hi); (try clear hb); (try clear hk); (try clear hi); have p13 : 0 ≤ (t533 : Int) := of_decide_eq_true (by assumption); have q13 : t533 < (a2.size : Int) := of_decide_eq_true (by assumption); have hx13 := bt_at a2 t533; replace p13 := eq_true p13; replace q13 := eq_true q13) | ((with_reducible refine gate_dst (N := 32) rfl ?_); (try (refine gate_guard (by rfl) ?_; dsimp only)); refine Kd.R_lit (Kd.int .u8) _ 5 ?hg (N := 32) ?hd (xs := ([bt a2 t533] : List Int)) (inner := [.int .u8 (bt a2 t533)]) (ok := fun _ => True) (okp := fun _ => True) ?hr ?hp (fun _ hk => hk) trivial (Below.refl _ _) (Nat.le_refl _) (by simp) ?_; (case hd => rfl); (case hg => rfl); (case hr => first | (go_simp; done) | (go_simp; rfl)); (case hp => exact (Reps.one (show Kd.M (Kd.int .u8) _ _ _ (bt a2 t533) [.int .u8 (bt a2 t533)] from rfl) (Reps.none _ _))); intro v537 w50 ho51 hb hg_ hnew_; clear hg_ hnew_; (first | rw [← Ny536.out] at ho51 | (simp only [Int.reduceToNat] at ho51; rw [← Ny536.out] at ho51)); have HO538 := aS_ (Kd.R_lower ho51 (keep_size (w := w) (g := g) (row := none) (hh_ HK))); replace HK := aS_ (KeepBut.trans (hh_ HK) (KeepBut.of_below hb g none) (.inl rfl)); replace HB := aS_ (below_step (bI_ HB HI0) hb); replace HI0 := aS_ (IsS69.below (ss_ HI0) hb); clear hb ho51; have hcv52 := own_string (P := Tryz.prog) Tryz.underlying22 Tryz.underlying5 Tryz.underlying9 (Kd.own_of_R HO538.out)) | (go_at_call 88; (with_reducible refine (spec_l1Cur_pick.calls g s0_0 t534 t535 3 t539 t540 t541 w0 _ ?side1 ?side2 A14.out).mono ?_); (case side1 => exact ss_ HI0); (case side2 => exact bI_ HB HI0); rintro e w53 ⟨rfl, hi, hb, hk⟩; replace HO538 := aS_ (Kd.R_mono (Kd.R_keep (IsS69.apart (show IsS69 w0 _ g s0_0 t534 t535 from ss_ HI0) (rr_ HO538) (by decide)) hk (fun _ h => h.2)) (fun _ h => h.1)); replace HK := aS_ (KeepBut.trans (hh_ HK) hk (.inl rfl)); replace HB := aS_ (hb); replace HI0 := aS_ (hi); (try clear hb); (try clear hk); (try clear hi)))
  repeat (go_quiet (first | (go_at_call 88; (with_reducible refine (spec_l1Cur_pick.calls g s0_0 x1001_1 x1002_1 (x1_1.size : Int) t530 t531 t532 w0 _ ?side1 ?side2 A9.out).mono ?_); (case side1 => exact ss_ HI0); (case side2 => exact bI_ HB HI0); rintro e w48 ⟨rfl, hi, hb, hk⟩; replace HK := aS_ (KeepBut.trans (hh_ HK) hk (.inl rfl)); replace HB := aS_ (hb); replace HI0 := aS_ (hi); (try clear hb); (try clear hk); (try clear hi)) | (go_at_call 88; (with_reducible refine (spec_l1Cur_pick.calls g s0_0 t531 t532 (a2.size : Int) t533 t534 t535 w0 _ ?side1 ?side2 A10.out).mono ?_); (case side1 => exact ss_ HI0); (case side2 => exact bI_ HB HI0); rintro e w49 ⟨rfl, hi, hb, hk⟩; replace HK := aS_ (KeepBut.trans (hh_ HK) hk (.inl rfl)); replace HB := aS_ (hb); replace HI0 := aS_ (hi); (try clear hb); (try clear hk); (try clear hi); have p13 : 0 ≤ (t533 : Int) := of_decide_eq_true (by assumption); have q13 : t533 < (a2.size : Int) := of_decide_eq_true (by assumption); have hx13 := bt_at a2 t533; replace p13 := eq_true p13; replace q13 := eq_true q13) | ((with_reducible refine gate_dst (N := 32) rfl ?_); (try (refine gate_guard (by rfl) ?_; dsimp only)); refine Kd.R_lit (Kd.int .u8) _ 5 ?hg (N := 32) ?hd (xs := ([bt a2 t533] : List Int)) (inner := [.int .u8 (bt a2 t533)]) (ok := fun _ => True) (okp := fun _ => True) ?hr ?hp (fun _ hk => hk) trivial (Below.refl _ _) (Nat.le_refl _) (by simp) ?_; (case hd => rfl); (case hg => rfl); (case hr => first | (go_simp; done) | (go_simp; rfl)); (case hp => exact (Reps.one (show Kd.M (Kd.int .u8) _ _ _ (bt a2 t533) [.int .u8 (bt a2 t533)] from rfl) (Reps.none _ _))); intro v537 w50 ho51 hb hg_ hnew_; clear hg_ hnew_; (first | rw [← Ny536.out] at ho51 | (simp only [Int.reduceToNat] at ho51; rw [← Ny536.out] at ho51)); have HO538 := aS_ (Kd.R_lower ho51 (keep_size (w := w) (g := g) (row := none) (hh_ HK))); replace HK := aS_ (KeepBut.trans (hh_ HK) (KeepBut.of_below hb g none) (.inl rfl)); replace HB := aS_ (below_step (bI_ HB HI0) hb); replace HI0 := aS_ (IsS69.below (ss_ HI0) hb); clear hb ho51; have hcv52 := own_string (P := Tryz.prog) Tryz.underlying22 Tryz.underlying5 Tryz.underlying9 (Kd.own_of_R HO538.out)) | (go_at_call 88; (with_reducible refine (spec_l1Cur_pick.calls g s0_0 t534 t535 3 t539 t540 t541 w0 _ ?side1 ?side2 A14.out).mono ?_); (case side1 => exact ss_ HI0); (case side2 => exact bI_ HB HI0); rintro e w53 ⟨rfl, hi, hb, hk⟩; replace HO538 := aS_ (Kd.R_mono (Kd.R_keep (IsS69.apart (show IsS69 w0 _ g s0_0 t534 t535 from ss_ HI0) (rr_ HO538) (by decide)) hk (fun _ h => h.2)) (fun _ h => h.1)); replace HK := aS_ (KeepBut.trans (hh_ HK) hk (.inl rfl)); replace HB := aS_ (hb); replace HI0 := aS_ (hi); (try clear hb); (try clear hk); (try clear hi))); try go_wp2_with (first | (go_at_call 88; (with_reducible refine (spec_l1Cur_pick.calls g s0_0 x1001_1 x1002_1 (x1_1.size : Int) t530 t531 t532 w0 _ ?side1 ?side2 A9.out).mono ?_); (case side1 => exact ss_ HI0); (case side2 => exact bI_ HB HI0); rintro e w48 ⟨rfl, hi, hb, hk⟩; replace HK := aS_ (KeepBut.trans (hh_ HK) hk (.inl rfl)); replace HB := aS_ (hb); replace HI0 := aS_ (hi); (try clear hb); (try clear hk); (try clear hi)) | (go_at_call 88; (with_reducible refine (spec_l1Cur_pick.calls g s0_0 t531 t532 (a2.size : Int) t533 t534 t535 w0 _ ?side1 ?side2 A10.out).mono ?_); (case side1 => exact ss_ HI0); (case side2 => exact bI_ HB HI0); rintro e w49 ⟨rfl, hi, hb, hk⟩; replace HK := aS_ (KeepBut.trans (hh_ HK) hk (.inl rfl)); replace HB := aS_ (hb); replace HI0 := aS_ (hi); (try clear hb); (try clear hk); (try clear hi); have p13 : 0 ≤ (t533 : Int) := of_decide_eq_true (by assumption); have q13 : t533 < (a2.size : Int) := of_decide_eq_true (by assumption); have hx13 := bt_at a2 t533; replace p13 := eq_true p13; replace q13 := eq_true q13) | ((with_reducible refine gate_dst (N := 32) rfl ?_); (try (refine gate_guard (by rfl) ?_; dsimp only)); refine Kd.R_lit (Kd.int .u8) _ 5 ?hg (N := 32) ?hd (xs := ([bt a2 t533] : List Int)) (inner := [.int .u8 (bt a2 t533)]) (ok := fun _ => True) (okp := fun _ => True) ?hr ?hp (fun _ hk => hk) trivial (Below.refl _ _) (Nat.le_refl _) (by simp) ?_; (case hd => rfl); (case hg => rfl); (case hr => first | (go_simp; done) | (go_simp; rfl)); (case hp => exact (Reps.one (show Kd.M (Kd.int .u8) _ _ _ (bt a2 t533) [.int .u8 (bt a2 t533)] from rfl) (Reps.none _ _))); intro v537 w50 ho51 hb hg_ hnew_; clear hg_ hnew_; (first | rw [← Ny536.out] at ho51 | (simp only [Int.reduceToNat] at ho51; rw [← Ny536.out] at ho51)); have HO538 := aS_ (Kd.R_lower ho51 (keep_size (w := w) (g := g) (row := none) (hh_ HK))); replace HK := aS_ (KeepBut.trans (hh_ HK) (KeepBut.of_below hb g none) (.inl rfl)); replace HB := aS_ (below_step (bI_ HB HI0) hb); replace HI0 := aS_ (IsS69.below (ss_ HI0) hb); clear hb ho51; have hcv52 := own_string (P := Tryz.prog) Tryz.underlying22 Tryz.underlying5 Tryz.underlying9 (Kd.own_of_R HO538.out)) | (go_at_call 88; (with_reducible refine (spec_l1Cur_pick.calls g s0_0 t534 t535 3 t539 t540 t541 w0 _ ?side1 ?side2 A14.out).mono ?_); (case side1 => exact ss_ HI0); (case side2 => exact bI_ HB HI0); rintro e w53 ⟨rfl, hi, hb, hk⟩; replace HO538 := aS_ (Kd.R_mono (Kd.R_keep (IsS69.apart (show IsS69 w0 _ g s0_0 t534 t535 from ss_ HI0) (rr_ HO538) (by decide)) hk (fun _ h => h.2)) (fun _ h => h.1)); replace HK := aS_ (KeepBut.trans (hh_ HK) hk (.inl rfl)); replace HB := aS_ (hb); replace HI0 := aS_ (hi); (try clear hb); (try clear hk); (try clear hi))))
  go_roundg kj5
  case measure => have := HK1.out; have := HJ5.out; omega
  case rel => exact ⟨((x1_1.extract 0 (t530 : Int).toNat) ++ (x1_1.extract ((ji44) : Int).toNat x1_1.size)), (wrap64 (x7_1 - 1)), (t540), (t541), (by first | rfl | (simp; done) | (simp only [← hji44] <;> (first | rfl | simp)) | (simp [*]; done)), sR_, H', ⟨by have := HK1.out; have := HJ5.out; omega⟩, ⟨ss_ HI0⟩, ⟨hh_ HK⟩, ⟨bI_ HB HI0⟩⟩
 simp only [Option.some.injEq, Prod.mk.injEq] at H
 obtain ⟨rfl, rfl, rfl⟩ := H
 go_wp2
 repeat (go_quiet (fail); try go_wp2)
 go_ret
 exact ⟨eR_, ss_ HI0, bI_ HB HI0, hh_ HK⟩
end Go.Proofs.YteakjjimkagmkaaGreatDoor.G
