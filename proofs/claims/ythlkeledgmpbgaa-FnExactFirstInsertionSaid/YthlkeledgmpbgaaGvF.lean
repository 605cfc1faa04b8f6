/- The contracts of slices.IndexFunc over a predicate that makes memory, of a table's 'comes' (a key may come next) and 'first' (the least order): over a map of truth values. -/
import Derived.Test.YthlkeledgmpbgaaGx6
import Derived.Test.YthlkeledgmpbgaaGwA
import Derived.Test.YthlkeledgmpbgaaGwC
import Derived.Test.YthlkeledgmpbgaaGvMap
import Derived.Test.YthlkeledgmpbgaaGvO
import Derived.Deep.QuietTactic
import Derived.BigQuiet
namespace Go.Proofs.Ythlkeledgmpbgaa.G
open Go.RowKit Go.Proofs.YthlkeledgmpbgaaW.PrintWords Go.Proofs.YthlkeledgmpbgaaW.PrintLast Go.Proofs.YthlkeledgmpbgaaW.PrintMore
set_option linter.unusedVariables false
set_option linter.unusedSimpArgs false

/-! ### slices.IndexFunc over a predicate that makes memory -/
def PredM (g : Nat) (lb : Array Value) (p : Int → Bool) (l : List Int) (w : World) : Prop :=
  ∀ (W : World) (x : Int), x ∈ l → Below w.heap.size w W → Calls Try.prog g (#[.int .i64 x] ++ lb) W fun e w' => e = .returned (.bool (p x)) ∧ Below W.heap.size W w'
set_option maxHeartbeats 2000000 in
theorem slices_IndexFunc.callsM (A : Option Addr) (c : Nat) (l : List Int) (g : Nat) (lb : Array Value) (p : Int → Bool) (w : World)
    (eg : ∀ args w, (callFunc g args).run Try.prog w = .ok (.enter g args) w)
    (hp0 : PredM g lb p l w) (hr : Kd.C (Kd.int .i64) w A l.length l) (hc : l.length ≤ c) :
    Calls Try.prog 38 #[.slice A l.length c, .func (.func g) #[] lb] w fun e w' => e = .returned (.int .i64 (idxF p l 0)) ∧ Below w.heap.size w w' := by
  have hbig : l.length ≤ 9223372036854775807 := hr.2.1
  have HR := Aside0.mk hr
  have HP := Aside0.mk hp0
  clear hr hc hp0
  go_enter Try.func38, Try.ntmps38
  go_wp2
  go_loopg [5, 8] l.length (fun gg _ s8 wr => ∃ kk : Nat, kk ≤ l.length ∧ l.length - kk ≤ gg ∧ s8 = .int .i64 kk ∧ Aside0 (Below w.heap.size w wr) ∧ Aside0 (∀ j, j < kk → p (l.getD j 0) = false))
  case atStart => exact ⟨0, Nat.zero_le _, by omega, rfl, ⟨Below.refl _ _⟩, ⟨fun j hj => absurd hj (Nat.not_lt_zero _)⟩⟩
  case round =>
    obtain ⟨kk, hkk, hg, rfl, HB, AA⟩ := hrel
    by_cases hlt : kk < l.length
    · have hltz : (kk : Int) < (l.length : Int) := by omega
      obtain ⟨ad, rfl, hx⟩ := Kd.at_int (Kd.C_below HR.out HB.out) (kk : Int) (by omega) hltz
      rw [Int.toNat_natCast] at hx
      obtain ⟨y, hy⟩ : ∃ y, y = rd l (kk : Int) := ⟨_, rfl⟩
      rw [← hy] at hx
      have B : Aside0 (l.getD kk 0 = y) := ⟨by rw [hy, rd, Int.toNat_natCast]⟩
      have hmem : y ∈ l := by rw [← B.out, List.getD_eq_getElem?_getD, List.getElem?_eq_getElem hlt]; exact List.getElem_mem hlt
      clear hy
      have hcall := Aside0.mk (fun W (hb : Below w.heap.size w W) => HP.out W y hmem hb)
      clear hmem
      cases hq : p y with
      | true =>
        rw [hq] at hcall
        go_wp2_with (go_at_fn g; refine (hcall.out _ (by first | exact HB.out | exact below_drew1 HB.out | exact pw_below_drewN HB.out _)).mono ?_; rintro e w' ⟨rfl, hb⟩; have nB_ := Aside0.mk (below_step (by first | exact HB.out | exact below_drew1 HB.out | exact pw_below_drewN HB.out _) hb); clear HB hb; have HB := nB_; clear nB_)
        go_ret
        refine ⟨?_, HB.out⟩
        rw [idxF_hit p l kk 0 hlt AA.out (by rw [B.out]; exact hq)]
        simp
      | false =>
        rw [hq] at hcall
        go_wp2_with (go_at_fn g; refine (hcall.out _ (by first | exact HB.out | exact below_drew1 HB.out | exact pw_below_drewN HB.out _)).mono ?_; rintro e w' ⟨rfl, hb⟩; have nB_ := Aside0.mk (below_step (by first | exact HB.out | exact below_drew1 HB.out | exact pw_below_drewN HB.out _) hb); clear HB hb; have HB := nB_; clear nB_)
        go_roundg (l.length - (kk + 1))
        case measure => omega
        case rel =>
          refine ⟨kk + 1, by omega, by omega, by go_num, HB, ⟨fun j hj => ?_⟩⟩
          by_cases e : j = kk
          · subst e
            rw [B.out]; exact hq
          · exact AA.out j (by omega)
    · have hltz : ¬ (kk : Int) < (l.length : Int) := by omega
      obtain rfl : kk = l.length := by omega
      go_wp2
      go_ret
      refine ⟨?_, HB.out⟩
      rw [idxF_miss p l 0 AA.out]; rfl
/-! ### Whether a key may come next -/
def wayS (l S : List Int) (key : Int) : Nat → Nat → Bool
  | 0, _ => true
  | d + 1, k => decide (l.getD ((key.toNat + k) % l.length) 0 ∈ S) && wayS l S key d (k + 1)
theorem mp_zero (w : World) : (zeroValue 4).run Try.prog w = .ok (.bool false) w := by kernel_rfl
set_option maxHeartbeats 4000000 in
set_option maxRecDepth 100000 in
theorem comesC (A : Option Addr) (c0 : Nat) (l : List Int) (key at_ : Int) (cst K0 b nb : Nat) (S : List Int) (w : World)
    (hr : Kd.C (Kd.int .i64) w A l.length l) (hc : l.length ≤ c0) (hm : MapIs Try.prog 3 4 w b nb S) (h1 : 1 ≤ l.length) (h2 : l.length ≤ 1000)
    (hcells : ∀ j, j < l.length → -1 ≤ l.getD j 0 ∧ l.getD j 0 ≤ 999) (hk0 : 0 ≤ key) (hk9 : key ≤ 999) (hix : slices_Index_int_int.f K0 l key = some at_) (hcost : impl_Table_cost.f l at_ = some (cst : Int)) (hcl : cst ≤ 1000) :
    Calls Try.prog 40 #[.agg #[.slice A l.length c0], .int .i64 key, .map (some b)] w fun e w' => e = .returned (.bool (wayS l S key cst 0 && !decide (key ∈ S))) ∧ Below w.heap.size w w' := by
  have HR := Aside0.mk hr
  have HC := Aside0.mk hc
  have HM := Aside0.mk hm
  have HIX := Aside0.mk hix
  have HCO := Aside0.mk hcost
  have HL := Aside0.mk (show 1 ≤ l.length ∧ l.length ≤ 1000 ∧ 0 ≤ key ∧ key ≤ 999 ∧ cst ≤ 1000 from ⟨h1, h2, hk0, hk9, hcl⟩)
  have HCE := Aside0.mk hcells
  have HB := Aside0.mk (Below.refl w.heap.size w)
  clear hr hc hm hix hcost h1 h2 hk0 hk9 hcl hcells
  go_enter Try.func40, Try.ntmps40
  go_wp2_with (first
    | ((with_reducible refine gate_dst (N := 3) rfl ?_); refine box_event ?hg (N := 3) ?hd (cs := #[.slice A l.length c0]) (t := 28) ?hr ?_; (case hd => rfl); (case hg => rfl); (case hr => first | (go_simp; done) | (go_simp; rfl)); intro gb hg w4 hbox hb; have nB_ := Aside0.mk (below_step HB.out hb); have BK := Aside0.mk hbox; have GE := Aside0.mk ((by rw [hg]; exact below_size HB.out) : w.heap.size ≤ gb); clear HB; have HB := nB_; clear nB_ hb hbox hg; have hcz := (blk_cell BK.out 0).trans rfl)
    | (go_at_call 47; refine (slices_Index_int_int.calls K0 _ _ l key at_ _ ?s1 HC.out HIX.out).mono ?_; (case s1 => exact Kd.C_below HR.out HB.out); rintro e w5 ⟨rfl, ⟨nd, rfl⟩⟩)
    | (go_at_call 37; refine (impl_Table_cost.calls _ _ l at_ (cst : Int) _ ?s1 HC.out HCO.out).mono ?_; (case s1 => exact Kd.C_drewN (Kd.C_below HR.out HB.out) _); rintro e w6 ⟨rfl, hb⟩; have nB_ := Aside0.mk (below_step (pw_below_drewN HB.out _) hb); have nK_ := Aside0.mk (blk_below (g := gb) (blk_drewN BK.out _) hb); clear HB BK hb; have HB := nB_; have BK := nK_; clear nB_ nK_))
  go_loopg [8, 16] cst (fun gg _ s16 wr => ∃ k : Nat, Aside0 (k ≤ cst) ∧ Aside0 (cst - k ≤ gg) ∧ s16 = .int .i64 (k : Int) ∧ Aside0 (wr.heap[gb]? = some (.cells #[.slice A l.length c0] 28 (0, 0))) ∧ Aside0 (Below w.heap.size w wr) ∧ Aside0 (wayS l S key cst 0 = wayS l S key (cst - k) k))
  case atStart => exact ⟨0, ⟨Nat.zero_le _⟩, ⟨by omega⟩, rfl, ⟨BK.out⟩, ⟨HB.out⟩, ⟨rfl⟩⟩
  case round =>
    clear BK HB
    obtain ⟨k, HKL, HG, rfl, BK, HB, HW⟩ := hrel
    obtain ⟨z, hz⟩ : ∃ z : Int, z = (k : Int) := ⟨_, rfl⟩
    rw [← hz]
    have HZ := Aside0.mk hz
    by_cases hlt : k < cst
    · have c1 : decide (z < (cst : Int)) = true := decide_eq_true (by omega)
      have hcz : wr.cell? ⟨gb, 0, none⟩ = some (.slice A l.length c0) := (blk_cell BK.out 0).trans rfl
      obtain ⟨y, hy⟩ : ∃ y : Int, Int.tmod (key + z) (l.length : Int) = y := ⟨_, rfl⟩
      have hyn : y = (((key.toNat + k) % l.length : Nat) : Int) := by
        have hl := HL.out
        rw [← hy, hz, show key + (k : Int) = ((key.toNat + k : Nat) : Int) by omega]; rfl
      have hylt := Nat.mod_lt (key.toNat + k) (show 0 < l.length by have := HL.out; omega)
      have hs : IntKind.i64.wrap (key + z) = key + z := by have := HL.out; rw [IntKind.wrap_i64]; omega
      have n0 : ((l.length : Int) == 0) = false := beq_eq_false_iff_ne.mpr (by omega)
      have n1 : ¬ l = [] := fun e => by rw [e] at hylt; simp at hylt
      have p1 : 0 ≤ y := by omega
      have p2 : y < (l.length : Int) := by omega
      obtain ⟨ad, rfl, hx⟩ := Kd.at_int (Kd.C_below HR.out HB.out) y p1 p2
      obtain ⟨v, hv⟩ : ∃ v, v = rd l y := ⟨_, rfl⟩
      rw [← hv] at hx
      have hvl : v = l.getD ((key.toNat + k) % l.length) 0 := by rw [hv, hyn, rd, Int.toNat_natCast]
      have hvw : (Lit.int .i64 v).wf = true := by
        have := HCE.out _ hylt
        rw [← hvl] at this
        simp only [Lit.wf, Bool.and_eq_true, decide_eq_true_eq]
        have e1 : IntKind.i64.min = -9223372036854775808 := by decide
        have e2 : IntKind.i64.max = 9223372036854775807 := by decide
        rw [e1, e2]; omega
      obtain ⟨cb, hcb⟩ : ∃ cb : Bool, cb = decide (v ∈ S) := ⟨_, rfl⟩
      have hlk : ∀ q : Nat, (Instr.lookup 51 (.map (some b)) (.int .i64 v) false).run Try.prog (wr.drewN q) = .ok (.bool cb) (wr.drewN q) := fun q => by
        rw [hcb]
        exact MapIs.look (T := 51) (K := 3) (E := 4) Try.underlying51 Try.underlying3 Try.underlying4 (HM.out.below HM.out.lt (pw_below_drewN HB.out q)) (mp_zero _) hvw
      have HV := Aside0.mk hvl
      have HCB := Aside0.mk hcb
      have q1 := eq_true p1
      have q2 := eq_true p2
      clear hz hyn hylt p1 p2 hv hvl hvw hcb
      go_wp2
      refine wp_region_quiet_lit (by kernel_rfl) (by kernel_rfl) ?_
      refine wpQuiet_step (fun K hK => ?_)
      go_simp
      refine hK _ ?_
      clear hK K
      refine wpQuiet_step (fun K hK => ?_)
      go_simp
      refine hK _ ?_
      clear hK K
      refine wpQuiet_step (fun K hK => ?_)
      go_simp
      refine hK _ ?_
      clear hK K
      refine wpQuiet_step (fun K hK => ?_)
      go_simp
      refine hK _ ?_
      clear hK K
      refine wpQuiet_step (fun K hK => ?_)
      go_simp
      refine hK _ ?_
      clear hK K
      refine wpQuiet_step (fun K hK => ?_)
      go_simp
      refine hK _ ?_
      clear hK K
      refine wpQuiet_step (fun K hK => ?_)
      go_simp
      refine hK _ ?_
      clear hK K
      refine wpQuiet_step (fun K hK => ?_)
      go_simp
      refine hK _ ?_
      clear hK K
      refine wpQuiet_step (fun K hK => ?_)
      go_simp
      refine hK _ ?_
      clear hK K
      refine wpQuiet_step (fun K hK => ?_)
      go_simp
      refine hK _ ?_
      clear hK K
      refine wpQuiet_step (fun K hK => ?_)
      go_simp
      refine hK _ ?_
      clear hK K
      refine wpQuiet_step (fun K hK => ?_)
      go_simp
      refine hK _ ?_
      clear hK K
      refine wpQuiet_step (fun K hK => ?_)
      go_simp
      refine hK _ ?_
      clear hK K
      refine wpQuiet_step (fun K hK => ?_)
      go_simp
      refine hK _ ?_
      clear hK K
      refine wpQuiet_nil ?_
      intro _ hw'
      obtain ⟨nq, hw''⟩ := hw'
      subst hw''
      cases cb with
      | true =>
        have hb2 := pw_below_drewN HB.out nq
        have hk2 := blk_drewN BK.out nq
        have HB2 := Aside0.mk hb2
        have BK2 := Aside0.mk hk2
        clear hb2 hk2
        go_wp2
        go_roundg (gk - 1)
        case measure => have := HG.out; omega
        case rel =>
          refine ⟨k + 1, ⟨by omega⟩, ⟨by have := HG.out; omega⟩, by have h1 := HZ.out; have h2 := HL.out; have h3 : wrap64 (z + 1) = ((k + 1 : Nat) : Int) := (by unfold wrap64; omega); rw [h3], ⟨BK2.out⟩, ⟨HB2.out⟩, ⟨?_⟩⟩
          rw [HW.out, show cst - k = (cst - (k + 1)) + 1 by omega, wayS, ← HV.out, ← HCB.out, Bool.true_and]
      | false =>
        have hb2 := pw_below_drewN HB.out nq
        have HB2 := Aside0.mk hb2
        clear hb2
        go_wp2
        go_ret
        refine ⟨?_, HB2.out⟩
        rw [HW.out, show cst - k = (cst - (k + 1)) + 1 by omega, wayS, ← HV.out, ← HCB.out, Bool.false_and, Bool.false_and]
        rfl
    · have c1 : decide (z < (cst : Int)) = false := decide_eq_false (by omega)
      obtain ⟨cb, hcb⟩ : ∃ cb : Bool, cb = decide (key ∈ S) := ⟨_, rfl⟩
      have hkw : (Lit.int .i64 key).wf = true := by
        have := HL.out
        simp only [Lit.wf, Bool.and_eq_true, decide_eq_true_eq]
        have e1 : IntKind.i64.min = -9223372036854775808 := by decide
        have e2 : IntKind.i64.max = 9223372036854775807 := by decide
        rw [e1, e2]; omega
      have hlk : (Instr.lookup 51 (.map (some b)) (.int .i64 key) false).run Try.prog wr = .ok (.bool cb) wr := by
        rw [hcb]
        exact MapIs.look (T := 51) (K := 3) (E := 4) Try.underlying51 Try.underlying3 Try.underlying4 (HM.out.below HM.out.lt HB.out) (mp_zero _) hkw
      have HCB := Aside0.mk hcb
      clear hz hcb hkw
      go_wp2
      go_ret
      refine ⟨?_, HB.out⟩
      rw [HW.out, show cst - k = 0 by omega, wayS, Bool.true_and, ← HCB.out]
      rfl
/-! ### The least order -/
theorem MapIs.ne_cells {P : Program} {K E : TypeId} {W : World} {b n : Nat} {S : List Int} (h : MapIs P K E W b n S) {g t : Nat} {cs : Array Value} {z : Nat × Nat} (hg : W.heap[g]? = some (.cells cs t z)) : g ≠ b := by
  obtain ⟨D, ⟨es, clock, h0, _⟩, _⟩ := h
  intro e
  subst e
  rw [h0] at hg
  cases hg
set_option maxHeartbeats 4000000 in
theorem firstP (A : Option Addr) (c0 : Nat) (l : List Int) (ats : Int → Int) (cst : Int → Nat) (K0 b nb : Nat) (S : List Int) (bx dc : Nat) (ks : List Int) (w : World)
    (hr : Kd.C (Kd.int .i64) w A l.length l) (hc : l.length ≤ c0) (hm : MapIs Try.prog 3 4 w b nb S)
    (hbx : w.heap[bx]? = some (.cells #[.slice A l.length c0] 28 (0, 0))) (hdc : w.heap[dc]? = some (.cells #[.map (some b)] 51 (0, 0))) (h1 : 1 ≤ l.length) (h2 : l.length ≤ 1000)
    (hcells : ∀ j, j < l.length → -1 ≤ l.getD j 0 ∧ l.getD j 0 ≤ 999)
    (hks : ∀ x, x ∈ ks → 0 ≤ x ∧ x ≤ 999 ∧ slices_Index_int_int.f K0 l x = some (ats x) ∧ impl_Table_cost.f l (ats x) = some (cst x : Int) ∧ cst x ≤ 1000) :
    PredM 39 #[.pointer (some ⟨bx, 0, none⟩), .pointer (some ⟨dc, 0, none⟩)] (fun x => wayS l S x (cst x) 0 && !decide (x ∈ S)) ks w := by
  intro W x hx hb
  obtain ⟨k1, k2, k3, k4, k5⟩ := hks x hx
  have hcall := comesC A c0 l x (ats x) (cst x) K0 b nb S W (Kd.C_below hr hb) hc (hm.below hm.lt hb) h1 h2 hcells k1 k2 k3 k4 k5
  have BK := Aside0.mk ((hb.block bx (blk_lt hbx)).trans hbx)
  have DC := Aside0.mk ((hb.block dc (blk_lt hdc)).trans hdc)
  generalize hp : (wayS l S x (cst x) 0 && !decide (x ∈ S)) = pb
  simp only [hp]
  rw [hp] at hcall
  clear hb hr hc hm hbx hdc h1 h2 hcells hks k1 k2 k3 k4 k5 hx hp
  simp only [List.append_toArray, List.append_nil]
  have hcz := (blk_cell BK.out 0).trans rfl
  have hcd := (blk_cell DC.out 0).trans rfl
  go_enter Try.func39, Try.ntmps39
  go_wp2_with (go_at_call 40; refine hcall.mono ?_; rintro e w5 ⟨rfl, hb⟩)
  go_ret
  exact ⟨rfl, hb⟩
def atK (l : List Int) (x : Int) : Int := (slices_Index_int_int.f 2000 l x).getD 0
def cstK (l : List Int) (x : Int) : Nat := ((impl_Table_cost.f l (atK l x)).getD 0).toNat
def keyOk (l : List Int) (x : Int) : Bool := decide (0 ≤ x) && decide (x ≤ 999) && decide (slices_Index_int_int.f 2000 l x = some (atK l x)) && decide (impl_Table_cost.f l (atK l x) = some (cstK l x : Int)) && decide (cstK l x ≤ 1000)
def cellOk (x : Int) : Bool := decide (-1 ≤ x) && decide (x ≤ 999)
def comesF (l S : List Int) (x : Int) : Bool := wayS l S x (cstK l x) 0 && !decide (x ∈ S)
def firstGo (l ks : List Int) : Nat → List Int → Option (List Int)
  | 0, S => some S
  | d + 1, S => if 0 ≤ idxF (comesF l S) ks 0 then firstGo l ks d (S ++ [rd ks (idxF (comesF l S) ks 0)]) else none
def impl_Table_first.f (l0_0 : List Int) : Option (List Int) :=
  if 1 ≤ l0_0.length ∧ l0_0.length ≤ 1000 ∧ l0_0.all cellOk = true ∧ (keysZ l0_0).all (keyOk l0_0) = true then firstGo l0_0 (keysZ l0_0) (keysZ l0_0).length [] else none
theorem idxF_lt (p : Int → Bool) : ∀ (l : List Int) (i : Int), 0 ≤ i → idxF p l i < i + l.length ∧ (idxF p l i = -1 ∨ i ≤ idxF p l i)
  | [], i, h => by simp [idxF]; omega
  | x :: r, i, h => by
    have := idxF_lt p r (i + 1) (by omega)
    by_cases c : p x = true
    · simp [idxF, c]; omega
    · simp only [idxF, c, if_false, List.length_cons]; constructor <;> omega
theorem kz_len (l : List Int) : (keysZ l).length ≤ l.length := by
  have := List.length_filter_le (fun x => !negKey x) (sortZ l)
  rw [sortZ_len] at this
  exact this
theorem rd_mem' (l : List Int) (z : Int) (h0 : 0 ≤ z) (h1 : z < l.length) : rd l z ∈ l := by
  rw [rd, List.getD_eq_getElem?_getD, List.getElem?_eq_getElem (by omega)]
  exact List.getElem_mem _
theorem blk_new (W : World) (o : Obj) : (W.alloc o).heap[W.heap.size]? = some o := Array.getElem?_push_size
theorem made3 {w : World} (w4 : World) (gb : Nat) {cs : Array Value} (hB : Below w.heap.size w w4) (hbk : w4.heap[gb]? = some (.cells cs 28 (0, 0))) :
    MapIs Try.prog 3 4 (((w4.alloc (Obj.cells #[] 3)).alloc (Obj.map #[] 0)).alloc (Obj.cells #[Value.map (some (w4.heap.size + 1))] 51)) (w4.heap.size + 1) 0 []
    ∧ (((w4.alloc (Obj.cells #[] 3)).alloc (Obj.map #[] 0)).alloc (Obj.cells #[Value.map (some (w4.heap.size + 1))] 51)).heap[w4.heap.size + 1 + 1]? = some (.cells #[Value.map (some (w4.heap.size + 1))] 51 (0, 0))
    ∧ (((w4.alloc (Obj.cells #[] 3)).alloc (Obj.map #[] 0)).alloc (Obj.cells #[Value.map (some (w4.heap.size + 1))] 51)).heap[gb]? = some (.cells cs 28 (0, 0))
    ∧ Kd.R (Kd.int .i64) 3 (((w4.alloc (Obj.cells #[] 3)).alloc (Obj.map #[] 0)).alloc (Obj.cells #[Value.map (some (w4.heap.size + 1))] 51)) w.heap.size (fun k => k ≠ w4.heap.size + 1) (Value.slice (some { block := w4.heap.size, off := 0 }) 0 0) []
    ∧ Below w.heap.size w (((w4.alloc (Obj.cells #[] 3)).alloc (Obj.map #[] 0)).alloc (Obj.cells #[Value.map (some (w4.heap.size + 1))] 51)) := by
  have hb4 := Below.refl w4.heap.size w4
  have hb5 := below_alloc hb4 (Obj.cells #[] 3)
  have hb6 := below_alloc hb5 (Obj.map #[] 0)
  have hb7 := below_alloc hb6 (Obj.cells #[Value.map (some (w4.heap.size + 1))] 51)
  refine ⟨?_, ?_, ?_, ?_, below_alloc (below_alloc (below_alloc hB _) _) _⟩
  · have h := MapIs.made (P := Try.prog) (K := 3) (E := 4) (w4.alloc (Obj.cells #[] 3))
    have e : (w4.alloc (Obj.cells #[] 3)).heap.size = w4.heap.size + 1 := by simp
    rw [e] at h
    exact h.below h.lt (below_alloc (Below.refl _ _) _)
  · have e : ((w4.alloc (Obj.cells #[] 3)).alloc (Obj.map #[] 0)).heap.size = w4.heap.size + 1 + 1 := by simp
    exact e ▸ blk_new _ _
  · exact (hb7.block gb (blk_lt hbk)).trans hbk
  · have ho : (((w4.alloc (Obj.cells #[] 3)).alloc (Obj.map #[] 0)).alloc (Obj.cells #[Value.map (some (w4.heap.size + 1))] 51)).ownsRow w.heap.size 3 1 (.slice (some ⟨w4.heap.size, 0, none⟩) 0 0) 0 (nums .i64 []) := own_alloc (own_alloc (World.ownsRow_made w4 #[] 0 (below_size hB) (Nat.zero_le _) (by simp)) _) _
    refine R_of_nums rfl ho (fun k_ hk => ?_)
    simp only [Value.ownBlock, Option.some.injEq] at hk
    omega
set_option maxHeartbeats 8000000 in
set_option maxRecDepth 100000 in
theorem impl_Table_first.calls (A0_0 : Option Addr) (c0_0 : Nat) (l0_0 : List Int) (r : List Int) (w : World) (hr0_0 : Kd.C (Kd.int .i64) w A0_0 l0_0.length l0_0) (hc0_0 : l0_0.length ≤ c0_0) (h : impl_Table_first.f l0_0 = some r) :
    Calls Try.prog 21 #[.agg #[.slice A0_0 l0_0.length c0_0]] w fun e w' => ∃ v0_ : Value, e = .returned (v0_) ∧ Kd.R (Kd.int .i64) 3 w' w.heap.size (fun _ => True) v0_ r ∧ Below w.heap.size w w' := by
  unfold impl_Table_first.f at h
  split at h
  case isFalse => cases h
  rename_i hl
  obtain ⟨h1, h2, hcl, hkl⟩ := hl
  have hcells : ∀ j, j < l0_0.length → -1 ≤ l0_0.getD j 0 ∧ l0_0.getD j 0 ≤ 999 := fun j hj => by
    have hm : l0_0.getD j 0 ∈ l0_0 := by rw [List.getD_eq_getElem?_getD, List.getElem?_eq_getElem hj]; exact List.getElem_mem hj
    have := List.all_eq_true.mp hcl _ hm
    simpa [cellOk] using this
  have hks : ∀ x, x ∈ keysZ l0_0 → 0 ≤ x ∧ x ≤ 999 ∧ slices_Index_int_int.f 2000 l0_0 x = some (atK l0_0 x) ∧ impl_Table_cost.f l0_0 (atK l0_0 x) = some (cstK l0_0 x : Int) ∧ cstK l0_0 x ≤ 1000 := fun x hx => by
    have := List.all_eq_true.mp hkl _ hx
    simp only [keyOk, Bool.and_eq_true, decide_eq_true_eq] at this
    exact ⟨this.1.1.1.1, this.1.1.1.2, this.1.1.2, this.1.2, this.2⟩
  have hkf : impl_Table_keys.f l0_0 = some (keysZ l0_0) := by unfold impl_Table_keys.f; rw [if_pos ⟨h1, by omega⟩]
  have HKL := Aside0.mk (Nat.le_trans (kz_len l0_0) h2)
  obtain ⟨ks, hk⟩ : ∃ ks, ks = keysZ l0_0 := ⟨_, rfl⟩
  rw [← hk] at h hks hkf HKL
  have HR := Aside0.mk hr0_0
  have HC := Aside0.mk hc0_0
  have HF := Aside0.mk h
  have HS := Aside0.mk hks
  have HCE := Aside0.mk hcells
  have HL := Aside0.mk (And.intro h1 h2)
  have HKF := Aside0.mk hkf
  have HB := Aside0.mk (Below.refl w.heap.size w)
  have hmm := @run_makeMap Try.prog
  clear hr0_0 hc0_0 h hks hcells hcl hkl hk h1 h2 hkf
  go_enter Try.func21, Try.ntmps21
  go_upto_region 2 with (first
    | ((with_reducible refine gate_dst (N := 1) rfl ?_); refine box_event ?hg (N := 1) ?hd (cs := #[.slice A0_0 l0_0.length c0_0]) (t := 28) ?hr ?_; (case hd => rfl); (case hg => rfl); (case hr => first | (go_simp; done) | (go_simp; rfl)); intro gb hg w4 hbox hb; have nB_ := Aside0.mk (below_step HB.out hb); have BK := Aside0.mk hbox; clear HB; have HB := nB_; clear nB_ hb hbox hg)
    | fail)
  have SW := Aside0.mk (made3 w4 gb HB.out BK.out)
  have hbb : w.heap.size ≤ w4.heap.size + 1 := Nat.le_succ_of_le (below_size HB.out)
  clear BK HB hmm
  generalize hW : (((w4.alloc (Obj.cells #[] 3)).alloc (Obj.map #[] 0)).alloc (Obj.cells #[Value.map (some (w4.heap.size + 1))] 51)) = W3 at SW ⊢
  generalize hb : w4.heap.size + 1 = b at SW hbb ⊢
  generalize hd : b + 1 = dc at SW ⊢
  generalize hv : (Value.slice (some { block := w4.heap.size, off := 0 }) 0 0) = v0 at SW ⊢
  clear hW hb hd hv
  obtain ⟨m1, m2, m3, m4, m5⟩ := SW.out
  have HM := Aside0.mk m1
  have DC := Aside0.mk m2
  have BX := Aside0.mk m3
  have HO := Aside0.mk m4
  have HB := Aside0.mk m5
  have hcz := (blk_cell m3 0).trans rfl
  clear SW m1 m2 m3 m4 m5
  go_upto_region 3 with (go_at_call 25; refine (impl_Table_keys.calls _ _ l0_0 ks _ ?s1 HC.out HKF.out).mono ?_; (case s1 => exact Kd.C_below HR.out HB.out); rintro e w5 ⟨v5, rfl, hk, hb⟩)
  clear hcz
  obtain ⟨Al, cl, rfl⟩ := Kd.R_slice hk
  have HK := Aside0.mk (Kd.R_lower (Kd.R_mono (ok' := fun k => k ≠ b ∧ some k ≠ v0.ownBlock) (Kd.R_bound hk) (fun k hk => ⟨fun e => by have := HM.out.lt; have := hk.2.1; omega, fun e => by have := Kd.R_lt HO.out k e.symm; have := hk.2.1; omega⟩)) (below_size HB.out))
  have nO := Aside0.mk (Kd.R_mono (ok' := fun k => k ≠ b ∧ some k ≠ (Value.slice Al ks.length cl).ownBlock) (Kd.R_below (Kd.R_bound HO.out) hb) (fun k hk2 => ⟨hk2.1, fun e => by have := Kd.R_base hk k e.symm; have := hk2.2.2.1; omega⟩))
  have nM := Aside0.mk (HM.out.below HM.out.lt hb)
  have nD := Aside0.mk ((hb.block dc (blk_lt DC.out)).trans DC.out)
  have nX := Aside0.mk ((hb.block gb (blk_lt BX.out)).trans BX.out)
  have nB := Aside0.mk (below_step HB.out hb)
  have HBB := Aside0.mk (show w.heap.size ≤ b from hbb)
  clear HO HM DC BX HB hk hb hbb
  go_wp2
  go_loopg [3, 13] ks.length (fun gg v3 v13 wr => ∃ (q : Nat) (S : List Int), Aside0 (firstGo l0_0 ks (ks.length - q) S = some r) ∧ Aside0 (q ≤ ks.length) ∧ Aside0 (ks.length - q ≤ gg) ∧ v13 = .int .i64 (q : Int) ∧ Aside0 (S.length = q) ∧ Aside0 (MapIs Try.prog 3 4 wr b q S)
    ∧ Aside0 (wr.heap[dc]? = some (.cells #[Value.map (some b)] 51 (0, 0))) ∧ Aside0 (wr.heap[gb]? = some (.cells #[.slice A0_0 l0_0.length c0_0] 28 (0, 0)))
    ∧ Aside0 (Kd.R (Kd.int .i64) 3 wr w.heap.size (fun k => k ≠ b ∧ some k ≠ v3.ownBlock) (Value.slice Al ks.length cl) ks) ∧ Aside0 (Kd.R (Kd.int .i64) 3 wr w.heap.size (fun k => k ≠ b ∧ some k ≠ (Value.slice Al ks.length cl).ownBlock) v3 S) ∧ Aside0 (Below w.heap.size w wr))
  case atStart => exact ⟨0, [], HF, ⟨Nat.zero_le _⟩, ⟨by omega⟩, rfl, ⟨rfl⟩, nM, nD, nX, HK, nO, nB⟩
  case round =>
    clear nM nD nX HK nO nB HF
    obtain ⟨q, S, HF, HQ, HG, rfl, HSL, HM, DC, BX, HK, HO, HB⟩ := hrel
    obtain ⟨z, hz⟩ : ∃ z : Int, z = (q : Int) := ⟨_, rfl⟩
    rw [← hz]
    have HZ := Aside0.mk hz
    by_cases hlt : q < ks.length
    · have c1 : decide (z < (ks.length : Int)) = true := decide_eq_true (by omega)
      have H := HF.out
      rw [show ks.length - q = (ks.length - (q + 1)) + 1 by omega, firstGo] at H
      obtain ⟨i, hi⟩ : ∃ i, i = idxF (comesF l0_0 S) ks 0 := ⟨_, rfl⟩
      rw [← hi] at H
      have hil := (idxF_lt (comesF l0_0 S) ks 0 (by omega)).1
      rw [← hi] at hil
      by_cases ci : 0 ≤ i
      · rw [if_pos ci] at H
        have HH := Aside0.mk H
        have HI := Aside0.mk hi.symm
        have p2 : i < (ks.length : Int) := by omega
        obtain ⟨ad, rfl, hx⟩ := Kd.at_int (Kd.R_reads' HK.out).2.2 i ci p2
        obtain ⟨x, hxe⟩ : ∃ x, x = rd ks i := ⟨_, rfl⟩
        have HX := Aside0.mk hxe
        have hmem : x ∈ ks := hxe ▸ rd_mem' ks i ci p2
        rw [← hxe] at hx
        have HMEM := Aside0.mk hmem
        have HCX := Aside0.mk hx
        have q1 := eq_true ci
        have q2 := eq_true p2
        clear hz H hi hil ci p2 hxe hmem HF hx
        go_upto_region 6 with (go_at_call 38; refine (slices_IndexFunc.callsM _ _ ks _ _ (comesF l0_0 S) _ (enters_of Try.func39 (by kernel_rfl) rfl) ?s1 ?s2 ?s3).mono ?_; (case s1 => exact firstP A0_0 c0_0 l0_0 (atK l0_0) (cstK l0_0) 2000 b q S gb dc ks _ (Kd.C_below HR.out HB.out) HC.out HM.out BX.out DC.out HL.out.1 HL.out.2 HCE.out HS.out); (case s2 => exact (Kd.R_reads' HK.out).2.2); (case s3 => exact (Kd.R_reads' HK.out).2.1); rintro e w6 ⟨rfl, hb⟩; rw [HI.out]; have hx6 := pw_cell_below hb HCX.out)
        have nM := Aside0.mk (HM.out.below HM.out.lt hb)
        have nD := Aside0.mk ((hb.block dc (blk_lt DC.out)).trans DC.out)
        have nX := Aside0.mk ((hb.block gb (blk_lt BX.out)).trans BX.out)
        have nK := Aside0.mk (Kd.R_below HK.out hb)
        have nO := Aside0.mk (Kd.R_below HO.out hb)
        have nB := Aside0.mk (below_step HB.out hb)
        clear HM DC BX HK HO HB hb hx6 HCX
        have hkw : (Lit.int .i64 x).wf = true := by
          have := HS.out x HMEM.out
          simp only [Lit.wf, Bool.and_eq_true, decide_eq_true_eq]
          have e1 : IntKind.i64.min = -9223372036854775808 := by decide
          have e2 : IntKind.i64.max = 9223372036854775807 := by decide
          rw [e1, e2]; omega
        obtain ⟨w7, hup, hM7, hg7⟩ := MapIs.put (T := 51) (K := 3) (E := 4) Try.underlying51 Try.underlying3 Try.underlying4 nM.out (by rw [maxLen]; have := HKL.out; omega) hkw
        have hne1 : some gb ≠ some b := fun e => nM.out.ne_cells nX.out (Option.some.inj e)
        have hne2 : some dc ≠ some b := fun e => nM.out.ne_cells nD.out (Option.some.inj e)
        have hbW : w.heap.size ≤ b := HBB.out
        have DC := Aside0.mk (blk_grown nD.out hg7 hne2)
        have BX := Aside0.mk (blk_grown nX.out hg7 hne1)
        have HK := Aside0.mk (Kd.R_grown nK.out hg7 (fun k hk e => hk.1 (Option.some.inj e)))
        have HO := Aside0.mk (Kd.R_grown nO.out hg7 (fun k hk e => hk.1 (Option.some.inj e)))
        have HB := Aside0.mk (nB.out.grown hg7 (below_size nB.out) (fun k hk => by cases hk; exact hbW))
        have HM := Aside0.mk hM7
        have hcd := (blk_cell nD.out 0).trans rfl
        clear nM nX nK nO nB hkw hM7 hg7 hne1 hne2 hbW
        go_upto_region 7 with fail
        clear hcd nD hup
        have HLM := Aside0.mk (show S.length < 17592186044416 by have := HSL.out; have := HKL.out; omega)
        go_wp2_with ((with_reducible refine gate_builtin (b := .append) (xs := #[.tmp 23, .tmp 25]) rfl ?_); at_builtin; refine Kd.R_append (Kd.int .i64) (w0 := w) w.heap.size rfl (.tmp 23) (.tmp 25) 22 3 (.int .i64 0) 8 rfl Try.underlying22 gv_info3 rfl (by decide) (by omega) u3 S x [.int .i64 x] (fun k_ => k_ ≠ b ∧ some k_ ≠ (Value.slice (some ad) ks.length cl).ownBlock) (fun _ => False) rfl rfl ?aP (fun _ hk => hk.elim) ?aF ?aO ?aB ?aS ?aL ?_; (case aP => exact rfl); (case aB => exact (by repeat (first | (with_reducible first | exact HB.out | apply below_alloc | apply pw_below_drewN | apply below_drew1) | exact HB.out))); (case aF => exact (fun k_ hk => ⟨fun e_ => by have := HM.out.lt; (try simp at hk); omega, fun e_ => by have := Kd.R_lt HK.out k_ e_.symm; (try simp at hk); omega⟩)); (case aO => exact (by (with_reducible repeat (first | apply Kd.R_alloc | apply Kd.R_drewN | apply Kd.R_drew)); exact HO.out)); (case aS => exact (below_size (by repeat (first | (with_reducible first | exact HB.out | apply below_alloc | apply pw_below_drewN | apply below_drew1) | exact HB.out)))); (case aL => have := HLM.out; omega); intro v26 w8 ho hb hg hat)
        have hMr : some b ≠ u3.ownBlock := fun e => (HO.out.1 b e.symm).1 rfl
        have nM := Aside0.mk (HM.out.kept hg hMr)
        have nD := Aside0.mk (blk_grown DC.out hg (Kd.R_ne HO.out DC.out (by decide)))
        have nX := Aside0.mk (blk_grown BX.out hg (Kd.R_ne HO.out BX.out (by decide)))
        have nK := Aside0.mk (Kd.R_after (ok := (fun k_ => k_ ≠ b)) HK.out hg hat)
        have nO := Aside0.mk ho
        have nB := Aside0.mk hb
        have HH2 := Aside0.mk (show firstGo l0_0 ks (ks.length - (q + 1)) (S ++ [x]) = some r by rw [HX.out]; exact HH.out)
        clear HM DC BX HK HO HB ho hb hg hat hMr
        go_roundg (gk - 1)
        case measure => have := HG.out; omega
        case rel => exact ⟨q + 1, S ++ [x], HH2, ⟨by omega⟩, ⟨by have := HG.out; omega⟩, by have h1 := HZ.out; have h2 := HKL.out; have h3 : wrap64 (z + 1) = ((q + 1 : Nat) : Int) := (by unfold wrap64; omega); rw [h3], ⟨by rw [List.length_append, HSL.out]; rfl⟩, nM, nD, nX, nK, nO, nB⟩
      · rw [if_neg ci] at H
        cases H
    · have c1 : decide (z < (ks.length : Int)) = false := decide_eq_false (by omega)
      have hq0 : ks.length - q = 0 := by omega
      have H := HF.out
      rw [hq0, firstGo] at H
      obtain rfl := Option.some.inj H
      clear hz H
      go_wp2
      go_ret
      exact ⟨_, rfl, Kd.R_mono HO.out (fun _ _ => trivial), HB.out⟩
end Go.Proofs.Ythlkeledgmpbgaa.G
