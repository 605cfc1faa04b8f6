/- The law FnInsertionOrders: part 4 of the printed functions and the facts on them that its row leans on (merged by this session's slim.py). -/
import Derived.Test.YteakjjimkagmkaaGreatDoorZFnInsertionOrders3
set_option linter.unusedVariables false
set_option linter.unusedSimpArgs false
namespace Go.Proofs.YteakjjimkagmkaaGreatDoor.G
open Go.RowKit Go.Proofs.YteakjjimkagmkaaGreatDoorW.PrintWords Go.Proofs.YteakjjimkagmkaaGreatDoorW.PrintLast Go.Proofs.YteakjjimkagmkaaGreatDoorW.PrintMore
attribute [local go_sem] max2_int min2_int max_two min_two max_three min_three max_four min_four   -- for this text's walks alone
/-! ### spec_DrawParseTable: function 22 -/
def spec_DrawParseTable.j0 : Nat → ByteArray → List Int → Int → Int → Option (ByteArray)
 | 0, _, _, _, _ => none
 | k + 1, x5, x543000, x543001, x543002 => (spec_l1Cur_one.f x543000 x543001 x543002 3).bind fun bt551 => (if bt551.1 = true then ((spec_l1Cur_spoilt.f k x543000 bt551.2.1 bt551.2.2 x5 (⟨#[48, 49, 50, 51, 46, 32, 45]⟩ : ByteArray)).bind fun bt554 => (some bt554.1)) else (some x5))
def spec_DrawParseTable.f (k : Nat) (l0 : List Int) : Option (ByteArray) := (spec_l1Cur_table.f k l0 0 0).bind fun bt543 => ((spec_prGood.f k bt543.1).bind fun t549 => (if t549 = true then ((spec_prText.f k bt543.1).bind fun t550 => (spec_DrawParseTable.j0 k t550 l0 bt543.2.1 bt543.2.2)) else (spec_DrawParseTable.j0 k (⟨#[46, 32, 49, 32, 53, 32, 50]⟩ : ByteArray) l0 bt543.2.1 bt543.2.2)))
theorem spec_DrawParseTable.mono_l : ∀ k, (∀ y0 y1 y2 y3, LeO (spec_DrawParseTable.j0 k y0 y1 y2 y3) (spec_DrawParseTable.j0 (k + 1) y0 y1 y2 y3))
 | 0 => fun _ _ _ _ r h => by simp [spec_DrawParseTable.j0] at h
 | k + 1 => by
  have ih0 := spec_DrawParseTable.mono_l k
  intro y0 y1 y2 y3
  unfold spec_DrawParseTable.j0
  exact mo5_ ih0 spec_l1Cur_spoilt.mono spec_l1Cur_table.mono spec_prGood.mono spec_prText.mono
theorem spec_DrawParseTable.mono : ∀ a0 k, LeO (spec_DrawParseTable.f k a0) (spec_DrawParseTable.f (k + 1) a0) := by
 intro a0 k
 have ih0 := spec_DrawParseTable.mono_l k
 unfold spec_DrawParseTable.f
 exact mo5_ ih0 spec_l1Cur_spoilt.mono spec_l1Cur_table.mono spec_prGood.mono spec_prText.mono
set_option maxHeartbeats 8000000 in
set_option maxRecDepth 100000 in
theorem spec_DrawParseTable.calls (k : Nat) (A0 : Option Addr) (c0 : Nat) (l0 : List Int) (r : ByteArray) (w : World) (hr0 : Kd.C (Kd.int .u8) w A0 l0.length l0) (hc0 : l0.length ≤ c0) (h : spec_DrawParseTable.f k l0 = some r) :
  Calls Tryz.prog 22 #[.slice A0 l0.length c0] w fun e w' => e = .returned (.string r) ∧ Below w.heap.size w w' := by
 have hu69 := Tryz.underlying69
 have hu26 := Tryz.underlying26
 have HR0 := aS_ hr0
 have HC0 := aS_ hc0
 clear hr0 hc0
 have HB := aS_ (Below.refl w.heap.size w)
 have H : ((spec_l1Cur_table.f k l0 0 0).bind fun bt543 => ((spec_prGood.f k bt543.1).bind fun t549 => (if t549 = true then ((spec_prText.f k bt543.1).bind fun t550 => (spec_DrawParseTable.j0 k t550 l0 bt543.2.1 bt543.2.2)) else (spec_DrawParseTable.j0 k (⟨#[46, 32, 49, 32, 53, 32, 50]⟩ : ByteArray) l0 bt543.2.1 bt543.2.2)))) = some r := h
 clear h
 replace H := bs_ H; obtain ⟨⟨t543, t546, t547⟩, A2, H⟩ := H
 replace H := bs_ H; obtain ⟨t549, A3, H⟩ := H
 have HC4 := aS_ H
 clear H
 go_enter Tryz.func22, Tryz.ntmps22
 go_upto_if 12 with (first | ((with_reducible refine gg_ ?_); refine bx_ 8 #[.slice A0 l0.length c0, .int .i64 0, .int .u64 0] 69 ?_; intro gb542 hg w5 hbox hb; have GW542 := gE_ HB hg; have GE542 := gE_ HB hg; have HI542 := aS_ ((⟨_, _,  hbox, (by rw [hg]; exact (below_size (bb_ HB))), HR0.out⟩ : IsS69 w w5 gb542 l0 0 0)); replace HB := bE_ HB hb; clear hb hbox hg) | ((with_reducible refine gg_ ?_); refine gc_ 53 (some 10) Tryz.func53 #[.pointer (some ⟨gb542, 0, none⟩)] ?_; (with_reducible refine (spec_l1Cur_table.calls k gb542 l0 0 0 t543 t546 t547 w _ ?side1 ?side2 A2.out).mono ?_); (case side1 => exact ss_ HI542); (case side2 => exact bI_ HB HI542); rintro e w6 ⟨v544, rfl, ho0, hi, hb, hk⟩; refine ⟨_, rfl, ?_⟩; have HO545 := aS_ (Kd.R_lower ho0 (below_size (bI_ HB HI542))); replace HB := aS_ (hb); replace HI542 := aS_ (hi); (try clear hb); (try clear hk); (try clear hi); (try clear ho0)) | ((with_reducible refine gg_ ?_); refine bx_ 4 #[.slice none 0 0] 26 ?_; intro gb548 hg w7 hbox hb; replace HO545 := aS_ (Kd.R_below (rr_ HO545) hb); have BK548 := aS_ (hbox); have GW548 := aS_ ((by rw [hg]; exact (below_size (bI_ HB HI542)) : w.heap.size ≤ gb548)); have GE548 := aS_ ((by rw [hg]; exact (below_size (bI_ HB HI542)) : w.heap.size ≤ gb548)); replace HB := aS_ (below_step (bI_ HB HI542) hb); have NB542_548 := aS_ ((by rw [hg]; exact Nat.ne_of_lt (IsS69.lt (show IsS69 w _ gb542 l0 t546 t547 from ss_ HI542)) : gb542 ≠ gb548)); have NB548_542 := aS_ ((by rw [hg]; exact Nat.ne_of_gt (IsS69.lt (show IsS69 w _ gb542 l0 t546 t547 from ss_ HI542)) : gb548 ≠ gb542)); replace HI542 := aS_ (IsS69.below (ss_ HI542) hb); clear hb hbox hg; obtain ⟨Ao8, co8, eo8⟩ := Kd.R_slice HO545.out; subst eo8; have hnb9 := NB548_542.out; have hnc9 := NB542_548.out; obtain ⟨hcz10_0, hfz10_0⟩ := c10_ BK548) | ((with_reducible refine gg_ ?_); refine gc_ 30 (some 12) Tryz.func30 #[.agg #[.slice Ao8 t543.length co8]] ?_; (with_reducible refine (spec_prGood.calls k _ _ t543 t549 _ ?side1 ?side2 A3.out).mono ?_); (case side1 => refine (Kd.R_reads' (e := 3) (base := w.heap.size) (ok := fun k_ => True) (n := t543.length) (c := co8) ?_).2.2; exact (by (with_reducible repeat (first | apply rA_ | apply rN_ | apply rD_)); exact (Kd.R_mono (Kd.R_far (p := ⟨gb548, 0, none⟩) (Kd.R_types HO545.out BK548.out (by decide)) (fun _ hk => hk.2) (.slice Ao8 t543.length co8)) (fun _ h_ => h_.1)))); (case side2 => exact (Kd.R_reads' HO545.out).2.1); rintro e w11 ⟨rfl, hb⟩; refine ⟨_, rfl, ?_⟩; replace HO545 := aS_ (Kd.R_below (by (with_reducible repeat (first | apply rA_ | apply rN_ | apply rD_)); exact (Kd.R_mono (Kd.R_far (p := ⟨gb548, 0, none⟩) (Kd.R_types HO545.out BK548.out (by decide)) (fun _ hk => hk.2) (.slice Ao8 t543.length co8)) (fun _ h_ => h_.1))) hb); replace BK548 := aS_ (blk_below (g := gb548) (o := .cells #[.slice Ao8 t543.length co8] 26 (0, 0)) (by (with_reducible repeat (first | refine kN_ ?_ _ | refine kD_ ?_ | refine kA_ ?_ _)); refine blk_put (cs := #[.slice none 0 0]) ?_ 0 _ rfl; (with_reducible repeat (first | refine kN_ ?_ _ | refine kD_ ?_ | refine kA_ ?_ _)); exact BK548.out) hb); replace HB := aS_ (below_step (by repeat (first | (with_reducible first | exact HB.out | apply bA_ | apply pN_ | apply bD_ | refine bS_ ?_ (IsS69.ge HI542.out) | refine bS_ ?_ GE548.out) | exact HB.out)) hb); replace HI542 := aS_ (IsS69.below (show IsS69 w (w7.setCell ⟨gb548, 0, none⟩ (.slice Ao8 t543.length co8)) gb542 l0 t546 t547 from ss_ HI542) hb); (try clear hb); (try clear hk)))
 (try simp only [Act.put, List.setIfInBounds_toArray, List.set_cons_zero, List.set_cons_succ])
 go_cut [5] (fun v5 wc => ∃ (kq : Nat) (x5_3 : ByteArray), v5 = .string x5_3 ∧ Aside0 (spec_DrawParseTable.j0 kq x5_3 l0 t546 t547 = some r) ∧ Aside0 (kq ≤ k) ∧ Aside0 (Kd.R (Kd.int .i64) 3 wc w.heap.size (fun _ => True) (.slice Ao8 t543.length co8) t543) ∧ Aside0 (wc.heap[gb548]? = some (.cells #[(.slice Ao8 t543.length co8)] 26 (0, 0))) ∧ Aside0 (IsS69 w wc gb542 l0 t546 t547) ∧ Aside0 (Below w.heap.size w wc))
 case first =>
  have H := HC4.out
  clear HC4
  replace H := it_ H; rcases H with ⟨rfl, H⟩ | ⟨rfl, H⟩
  ·replace H := bs_ H; obtain ⟨t550, A13, H⟩ := H
   have H' := aS_ H
   clear H
   have hnb14 := NB548_542.out
   have hnc14 := NB542_548.out
   obtain ⟨hcz15_0, hfz15_0⟩ := c10_ BK548
   go_wp2_with (first | ((with_reducible refine gg_ ?_); refine gc_ 50 (some 14) Tryz.func50 #[.agg #[.slice Ao8 t543.length co8]] ?_; (with_reducible refine (spec_prText.calls k _ _ t543 t550 _ ?side1 ?side2 A13.out).mono ?_); (case side1 => exact cR_ HO545); (case side2 => exact (Kd.R_reads' HO545.out).2.1); rintro e w16 ⟨rfl, hb⟩; refine ⟨_, rfl, ?_⟩; replace HO545 := aS_ (Kd.R_below (rr_ HO545) hb); replace BK548 := kO_ BK548 hb; replace HB := aS_ (below_step (by repeat (first | (with_reducible first | exact HB.out | apply bA_ | apply pN_ | apply bD_ | refine bS_ ?_ (IsS69.ge HI542.out) | refine bS_ ?_ GE548.out) | exact HB.out)) hb); replace HI542 := aS_ (IsS69.below (ss_ HI542) hb); (try clear hb)))
   go_meet
   case rel => exact ⟨_, (t550), sR_, H', ⟨by first | omega | exact Nat.le_refl _⟩, ⟨rr_ HO545⟩, ⟨kk_ BK548⟩, ⟨ss_ HI542⟩, ⟨by repeat (first | (with_reducible first | exact HB.out | apply bA_ | apply pN_ | apply bD_ | refine bS_ ?_ (IsS69.ge HI542.out) | refine bS_ ?_ GE548.out) | exact HB.out)⟩⟩
  have H' := aS_ H
  clear H
  go_wp2
  go_meet
  case rel => exact ⟨_, ((⟨#[46, 32, 49, 32, 53, 32, 50]⟩ : ByteArray)), sR_, H', ⟨by first | omega | exact Nat.le_refl _⟩, ⟨rr_ HO545⟩, ⟨kk_ BK548⟩, ⟨ss_ HI542⟩, ⟨by repeat (first | (with_reducible first | exact HB.out | apply bA_ | apply pN_ | apply bD_ | refine bS_ ?_ (IsS69.ge HI542.out) | refine bS_ ?_ GE548.out) | exact HB.out)⟩⟩
 case rest =>
 clear HC4
 try clear hcz10_0
 try clear hfz10_0
 obtain ⟨kq, x5_3, rfl, HA, HJ3, HO_549000, BK548, HI542, HB⟩ := hcut
 cases kq with
 | zero => exact absurd HA.out (by simp [spec_DrawParseTable.j0])
 | succ kj3 =>
 have H := HA.out
 clear HA
 simp only [spec_DrawParseTable.j0] at H
 replace H := bs_ H; obtain ⟨⟨t551, t552, t553⟩, A17, H⟩ := H
 replace H := it_ H; rcases H with ⟨rfl, H⟩ | ⟨rfl, H⟩
 ·replace H := bs_ H; obtain ⟨⟨t554, t555, t556⟩, A19, H⟩ := H
  obtain rfl := Option.some.inj H
  go_wp2_with (first | ((with_reducible refine gg_ ?_); refine gc_ 54 (some 16) Tryz.func54 #[.pointer (some ⟨gb542, 0, none⟩), .int .i64 3] ?_; (with_reducible refine (spec_l1Cur_one.calls gb542 l0 t546 t547 3 true t552 t553 w _ ?side1 ?side2 A17.out).mono ?_); (case side1 => exact ss_ HI542); (case side2 => repeat (first | (with_reducible first | exact HB.out | apply bA_ | apply pN_ | apply bD_ | refine bS_ ?_ (IsS69.ge HI542.out) | refine bS_ ?_ GE548.out) | exact HB.out)); rintro e w20 ⟨rfl, hi, hb, hk⟩; refine ⟨_, rfl, ?_⟩; replace HO_549000 := aS_ (Kd.R_mono (Kd.R_keep (IsS69.apart (show IsS69 w _ gb542 l0 t546 t547 from ss_ HI542) (rr_ HO_549000) (by decide)) hk (fun _ h => h.2)) (fun _ h => h.1)); replace BK548 := aS_ (KeepBut.blk hk (g' := gb548) (o := .cells #[.slice Ao8 t543.length co8] 26 (0, 0)) (kk_ BK548) NB548_542.out (by simp)); replace HB := aS_ (hb); replace HI542 := aS_ (hi); (try clear hb); (try clear hk); (try clear hi)) | ((with_reducible refine gg_ ?_); refine gc_ 55 (some 19) Tryz.func55 #[.pointer (some ⟨gb542, 0, none⟩), .string x5_3, .string (⟨#[48, 49, 50, 51, 46, 32, 45]⟩ : ByteArray)] ?_; (with_reducible refine (spec_l1Cur_spoilt.calls kj3 gb542 l0 t552 t553 x5_3 (⟨#[48, 49, 50, 51, 46, 32, 45]⟩ : ByteArray) t554 t555 t556 w _ ?side1 ?side2 A19.out).mono ?_); (case side1 => exact ss_ HI542); (case side2 => repeat (first | (with_reducible first | exact HB.out | apply bA_ | apply pN_ | apply bD_ | refine bS_ ?_ (IsS69.ge HI542.out) | refine bS_ ?_ GE548.out) | exact HB.out)); rintro e w21 ⟨rfl, hi, hb, hk⟩; refine ⟨_, rfl, ?_⟩; replace HO_549000 := aS_ (Kd.R_mono (Kd.R_keep (IsS69.apart (show IsS69 w _ gb542 l0 t552 t553 from ss_ HI542) (rr_ HO_549000) (by decide)) hk (fun _ h => h.2)) (fun _ h => h.1)); replace BK548 := aS_ (KeepBut.blk hk (g' := gb548) (o := .cells #[.slice Ao8 t543.length co8] 26 (0, 0)) (kk_ BK548) NB548_542.out (by simp)); replace HB := aS_ (hb); replace HI542 := aS_ (hi); (try clear hb); (try clear hk); (try clear hi)))
  go_ret
  exact ⟨eR_, by repeat (first | (with_reducible first | exact HB.out | apply bA_ | apply pN_ | apply bD_ | refine bS_ ?_ (IsS69.ge HI542.out) | refine bS_ ?_ GE548.out) | exact HB.out)⟩
 obtain rfl := Option.some.inj H
 go_wp2_with (first | ((with_reducible refine gg_ ?_); refine gc_ 54 (some 16) Tryz.func54 #[.pointer (some ⟨gb542, 0, none⟩), .int .i64 3] ?_; (with_reducible refine (spec_l1Cur_one.calls gb542 l0 t546 t547 3 false t552 t553 w _ ?side1 ?side2 A17.out).mono ?_); (case side1 => exact ss_ HI542); (case side2 => repeat (first | (with_reducible first | exact HB.out | apply bA_ | apply pN_ | apply bD_ | refine bS_ ?_ (IsS69.ge HI542.out) | refine bS_ ?_ GE548.out) | exact HB.out)); rintro e w22 ⟨rfl, hi, hb, hk⟩; refine ⟨_, rfl, ?_⟩; replace HO_549000 := aS_ (Kd.R_mono (Kd.R_keep (IsS69.apart (show IsS69 w _ gb542 l0 t546 t547 from ss_ HI542) (rr_ HO_549000) (by decide)) hk (fun _ h => h.2)) (fun _ h => h.1)); replace BK548 := aS_ (KeepBut.blk hk (g' := gb548) (o := .cells #[.slice Ao8 t543.length co8] 26 (0, 0)) (kk_ BK548) NB548_542.out (by simp)); replace HB := aS_ (hb); replace HI542 := aS_ (hi); (try clear hb); (try clear hk); (try clear hi)))
 go_ret
 exact ⟨eR_, by repeat (first | (with_reducible first | exact HB.out | apply bA_ | apply pN_ | apply bD_ | refine bS_ ?_ (IsS69.ge HI542.out) | refine bS_ ?_ GE548.out) | exact HB.out)⟩
/-! ### spec_l1Split: function 56 -/
def spec_l1Split.l0 : Nat → ByteArray → Int → List ByteArray → Int → Int → Option (List ByteArray)
 | 0, _, _, _, _, _ => none
 | k + 1, x0, x1, x5, x6, x7 => if x7 < (x0.size : Int) then (if 0 ≤ x7 then (if (bt x0 x7) = x1 then (if 0 ≤ x6 then (if x6 ≤ x7 then (if x7 ≤ (x0.size : Int) then (if x5.length < 8796093022208 then (spec_l1Split.l0 k x0 x1 (x5 ++ [x0.extract (x6 : Int).toNat (x7 : Int).toNat]) (wrap64 (x7 + 1)) (wrap64 (x7 + 1))) else (none)) else (none)) else (none)) else (none)) else (spec_l1Split.l0 k x0 x1 x5 x6 (wrap64 (x7 + 1)))) else (none)) else (if 0 ≤ x6 then (if x6 ≤ (x0.size : Int) then (if x5.length < 8796093022208 then (some (x5 ++ [x0.extract (x6 : Int).toNat x0.size])) else (none)) else (none)) else (none))
def spec_l1Split.f (k : Nat) (a0 : ByteArray) (a1 : Int) : Option (List ByteArray) := spec_l1Split.l0 k a0 a1 ([] : List ByteArray) 0 0
theorem spec_l1Split.mono_l : ∀ k, (∀ y0 y1 y2 y3 y4, LeO (spec_l1Split.l0 k y0 y1 y2 y3 y4) (spec_l1Split.l0 (k + 1) y0 y1 y2 y3 y4))
 | 0 => fun _ _ _ _ _ r h => by simp [spec_l1Split.l0] at h
 | k + 1 => by
  have ih0 := spec_l1Split.mono_l k
  intro y0 y1 y2 y3 y4
  unfold spec_l1Split.l0
  exact mo1_ ih0
theorem spec_l1Split.mono : ∀ a0 a1 k, LeO (spec_l1Split.f k a0 a1) (spec_l1Split.f (k + 1) a0 a1) := by
 intro a0 a1 k
 have ih0 := spec_l1Split.mono_l k
 unfold spec_l1Split.f
 exact mo1_ ih0
set_option maxHeartbeats 8000000 in
set_option maxRecDepth 100000 in
theorem spec_l1Split.calls (k : Nat) (a0 : ByteArray) (a1 : Int) (r : List ByteArray) (w : World) (h : spec_l1Split.f k a0 a1 = some r) :
  Calls Tryz.prog 56 #[.string a0, .int .u8 a1] w fun e w' => ∃ v0_ : Value, e = .returned (v0_) ∧ Kd.R Kd.string 9 w' w.heap.size (fun _ => True) v0_ r ∧ Below w.heap.size w w' := by
 have HB := aS_ (Below.refl w.heap.size w)
 have H : (spec_l1Split.l0 k a0 a1 ([] : List ByteArray) 0 0) = some r := h
 clear h
 have H' := aS_ H
 clear H
 go_enter Tryz.func56, Tryz.ntmps56
 go_wp2
 go_loopg [5, 6, 7] k (fun kq v5 v6 v7 w' => ∃ (x5_1 : List ByteArray) (x6_1 : Int) (x7_1 : Int), v6 = .int .i64 x6_1 ∧ v7 = .int .i64 x7_1 ∧ Aside0 (spec_l1Split.l0 kq a0 a1 x5_1 x6_1 x7_1 = some r) ∧ Aside0 (kq ≤ k) ∧ Aside0 (Kd.R Kd.string 9 w' w.heap.size (fun _ => True) v5 x5_1) ∧ Aside0 (Below w.heap.size w w'))
 case atStart => exact ⟨(([] : List ByteArray)), (0), (0), sR_, sR_, H', ⟨Nat.le_refl _⟩, ⟨by first | exact Kd.R_nil _ _ _ _ _ | exact Kd.N_nil _ _ _ _ _ | exact Kd.V_nil _ _ _ _ _ | exact Kd.Q_nil _ _ _ _ _ | exact Kd.S_nil _ _ _ _ _⟩, ⟨bb_ HB⟩⟩
 case round =>
 clear H'
 obtain ⟨x5_1, x6_1, x7_1, rfl, rfl, HA, HK1, HO_5, HB⟩ := hrel
 cases gk with
 | zero => exact absurd HA.out (by simp [spec_l1Split.l0])
 | succ k1 =>
 have H := HA.out
 clear HA
 simp only [spec_l1Split.l0] at H
 replace H := id_ H; rcases H with ⟨c3b0, H⟩ | ⟨c3b0, H⟩
 ·replace H := jd_ H; obtain ⟨c4b0, H⟩ := H
  replace H := iq_ H; rcases H with ⟨c6b0, c6b1, H⟩ | ⟨c6b0, c6b1, c6, H⟩
  ·replace H := je_ H; obtain ⟨c7b0, c7b1, H⟩ := H
   replace H := je_ H; obtain ⟨c8b0, c8b1, H⟩ := H
   replace H := je_ H; obtain ⟨c9b0, c9b1, H⟩ := H
   replace H := jp_ H; obtain ⟨c10, H⟩ := H
   have LMc10 := aS_ c10
   clear c10
   obtain ⟨y557, hy557⟩ : ∃ y_ : List ByteArray, y_ = (x5_1 ++ [a0.extract (x6_1 : Int).toNat (x7_1 : Int).toNat]) := ⟨_, rfl⟩
   replace H : (spec_l1Split.l0 k1 a0 a1 y557 (wrap64 (x7_1 + 1)) (wrap64 (x7_1 + 1))) = some r := yH_ hy557 H
   have Ny557 := aS_ hy557
   clear hy557
   have H' := aS_ H
   clear H
   have p5 : 0 ≤ (x7_1 : Int) := of_decide_eq_true (by assumption)
   have q5 : x7_1 < (a0.size : Int) := of_decide_eq_true (by assumption)
   have hx5 := bt_at a0 x7_1
   replace p5 := eq_true p5
   replace q5 := eq_true q5
   go_wp2_with (first | ((with_reducible refine gate_builtin (b := .append) (xs := #[.tmp 19, .tmp 24]) rfl ?_); at_builtin; refine Kd.R_append Kd.string (w0 := w) w.heap.size rfl (.tmp 19) (.tmp 24) 63 9 (.string ⟨#[]⟩) 16 rfl Tryz.underlying63 info9 rfl (by decide) (by omega) u5 x5_1 (a0.extract (x6_1 : Int).toNat (x7_1 : Int).toNat) [.string (a0.extract (x6_1 : Int).toNat (x7_1 : Int).toNat)] (fun _ => True) (fun _ => False) rfl rfl ?aP (fun _ hk => hk.elim) ?aF ?aO ?aB ?aS ?aL ?_; (case aP => exact rfl); (case aB => exact (bb_ HB)); (case aF => exact (fun _ _ => trivial)); (case aO => exact (rr_ HO_5)); (case aS => exact (below_size (bb_ HB))); (case aL => have := LMc10.out; omega); intro v558 w11 ho hb hg hat; rw [← Ny557.out] at ho; replace HB := aS_ (hb); have HO559 := aS_ (ho); clear HO_5; clear ho hb hg hat))
   go_roundg k1
   case measure => have := HK1.out; omega
   case rel => exact ⟨(y557), (wrap64 (x7_1 + 1)), (wrap64 (x7_1 + 1)), sR_, sR_, H', ⟨by have := HK1.out; omega⟩, ⟨rr_ HO559⟩, ⟨bb_ HB⟩⟩
  have H' := aS_ H
  clear H
  have p5 : 0 ≤ (x7_1 : Int) := of_decide_eq_true (by assumption)
  have q5 : x7_1 < (a0.size : Int) := of_decide_eq_true (by assumption)
  have hx5 := bt_at a0 x7_1
  replace p5 := eq_true p5
  replace q5 := eq_true q5
  go_wp2
  go_roundg k1
  case measure => have := HK1.out; omega
  case rel => exact ⟨(x5_1), (x6_1), (wrap64 (x7_1 + 1)), sR_, sR_, H', ⟨by have := HK1.out; omega⟩, ⟨rr_ HO_5⟩, ⟨bb_ HB⟩⟩
 replace H := je_ H; obtain ⟨c12b0, c12b1, H⟩ := H
 replace H := je_ H; obtain ⟨c13b0, c13b1, H⟩ := H
 replace H := jp_ H; obtain ⟨c14, H⟩ := H
 have LMc14 := aS_ c14
 clear c14
 obtain ⟨y560, hy560⟩ : ∃ y_ : List ByteArray, y_ = (x5_1 ++ [a0.extract (x6_1 : Int).toNat a0.size]) := ⟨_, rfl⟩
 replace H : (some y560) = some r := yH_ hy560 H
 have Ny560 := aS_ hy560
 clear hy560
 obtain rfl := Option.some.inj H
 go_wp2_with (first | ((with_reducible refine gate_builtin (b := .append) (xs := #[.tmp 28, .tmp 32]) rfl ?_); at_builtin; refine Kd.R_append Kd.string (w0 := w) w.heap.size rfl (.tmp 28) (.tmp 32) 63 9 (.string ⟨#[]⟩) 16 rfl Tryz.underlying63 info9 rfl (by decide) (by omega) u5 x5_1 (a0.extract (x6_1 : Int).toNat a0.size) [.string (a0.extract (x6_1 : Int).toNat a0.size)] (fun _ => True) (fun _ => False) rfl rfl ?aP (fun _ hk => hk.elim) ?aF ?aO ?aB ?aS ?aL ?_; (case aP => exact rfl); (case aB => exact (bb_ HB)); (case aF => exact (fun _ _ => trivial)); (case aO => exact (rr_ HO_5)); (case aS => exact (below_size (bb_ HB))); (case aL => have := LMc14.out; omega); intro v561 w15 ho hb hg hat; rw [← Ny560.out] at ho; replace HB := aS_ (hb); have HO562 := aS_ (ho); clear HO_5; clear ho hb hg hat))
 go_ret
 exact ⟨_, by first | rfl | (simp [errW_none, errW_some] <;> rfl) | (simp [*, errW_none, errW_some] <;> rfl), rr_ HO562, bb_ HB⟩
/-! ### spec_l1Most: function 57 -/
def spec_l1Most.f (a0 : Int) (a1 : Int) : Option (Int) := if a0 > a1 then (some a0) else (some a1)
set_option maxHeartbeats 8000000 in
set_option maxRecDepth 100000 in
theorem spec_l1Most.calls (a0 : Int) (a1 : Int) (r : Int) (w : World) (h : spec_l1Most.f a0 a1 = some r) :
  Calls Tryz.prog 57 #[.int .i64 a0, .int .i64 a1] w fun e w' => e = .returned (.int .i64 r) ∧ Drawn0 w w' := by
 have H : (if a0 > a1 then (some a0) else (some a1)) = some r := h
 clear h
 replace H := id_ H; rcases H with ⟨c3b0, H⟩ | ⟨c3b0, H⟩
 ·obtain rfl := Option.some.inj H
  go_enter Tryz.func57, Tryz.ntmps57
  go_wp2
  go_ret
  exact ⟨sR_, by repeat (first | exact Drawn0.refl _ | apply Drawn0.step)⟩
 obtain rfl := Option.some.inj H
 go_enter Tryz.func57, Tryz.ntmps57
 go_wp2
 go_ret
 exact ⟨sR_, by repeat (first | exact Drawn0.refl _ | apply Drawn0.step)⟩
/-! ### spec_l1Read: function 58 -/
mutual
def spec_l1Read.j0 : Nat → ByteArray → Bool → Option (Int)
 | 0, _, _ => none
 | k + 1, x0, x18 => if x18 = true then (some (-1)) else (spec_l1Read.l0 k x0 0 0)
def spec_l1Read.l0 : Nat → ByteArray → Int → Int → Option (Int)
 | 0, _, _, _ => none
 | k + 1, x0, x3, x4 => if x4 < (x0.size : Int) then (if 0 ≤ x4 then (if (bt x0 x4) < 48 then (some (-1)) else (if (bt x0 x4) > 57 then (some (-1)) else (spec_l1Read.l0 k x0 (wrap64 ((wrap64 (10 * x3)) + (((bt x0 x4) - 48) % 256))) (wrap64 (x4 + 1))))) else (none)) else (some x3)
end
def spec_l1Read.f (k : Nat) (a0 : ByteArray) : Option (Int) := (spec_l1In.f (a0.size : Int) 1 6).bind fun t563 => (if t563 = true then (if 0 < (a0.size : Int) then (if (bt a0 0) = 48 then (spec_l1Read.j0 k a0 (decide ((a0.size : Int) > 1))) else (spec_l1Read.j0 k a0 false)) else (none)) else (spec_l1Read.j0 k a0 true))
theorem spec_l1Read.mono_l : ∀ k, (∀ y0 y1, LeO (spec_l1Read.j0 k y0 y1) (spec_l1Read.j0 (k + 1) y0 y1)) ∧ (∀ y0 y1 y2, LeO (spec_l1Read.l0 k y0 y1 y2) (spec_l1Read.l0 (k + 1) y0 y1 y2))
 | 0 => ⟨fun _ _ r h => by simp [spec_l1Read.j0] at h, fun _ _ _ r h => by simp [spec_l1Read.l0] at h⟩
 | k + 1 => by
  obtain ⟨ih0, ih1⟩ := spec_l1Read.mono_l k
  refine ⟨?_, ?_⟩
  ·intro y0 y1
   unfold spec_l1Read.j0
   exact mo2_ ih0 ih1
  intro y0 y1 y2
  unfold spec_l1Read.l0
  exact mo2_ ih0 ih1
theorem spec_l1Read.mono : ∀ a0 k, LeO (spec_l1Read.f k a0) (spec_l1Read.f (k + 1) a0) := by
 intro a0 k
 obtain ⟨ih0, ih1⟩ := spec_l1Read.mono_l k
 unfold spec_l1Read.f
 exact mo2_ ih0 ih1
set_option maxHeartbeats 8000000 in
set_option maxRecDepth 100000 in
theorem spec_l1Read.calls (k : Nat) (a0 : ByteArray) (r : Int) (w : World) (h : spec_l1Read.f k a0 = some r) :
  Calls Tryz.prog 58 #[.string a0] w fun e w' => e = .returned (.int .i64 r) ∧ Drawn0 w w' := by
 have H : ((spec_l1In.f (a0.size : Int) 1 6).bind fun t563 => (if t563 = true then (if 0 < (a0.size : Int) then (if (bt a0 0) = 48 then (spec_l1Read.j0 k a0 (decide ((a0.size : Int) > 1))) else (spec_l1Read.j0 k a0 false)) else (none)) else (spec_l1Read.j0 k a0 true))) = some r := h
 clear h
 have HC2 := aS_ H
 clear H
 go_enter Tryz.func58, Tryz.ntmps58
 go_upto_region 1 with (fail)
 go_cut [18] (fun v18 wc => ∃ (kq : Nat) (x18_1 : Bool), v18 = .bool x18_1 ∧ Aside0 (spec_l1Read.j0 kq a0 x18_1 = some r) ∧ Aside0 (kq ≤ k) ∧ Drawn0 w wc)
 case first =>
  have H := HC2.out
  clear HC2
  replace H := bs_ H; obtain ⟨t563, A3, H⟩ := H
  replace H := it_ H; rcases H with ⟨rfl, H⟩ | ⟨rfl, H⟩
  ·replace H := jp_ H; obtain ⟨c5, H⟩ := H
   have c5b0 : decide (0 < (a0.size : Int)) = true := decide_eq_true c5
   have c5b1 : decide (0 < a0.size) = true := decide_eq_true (by omega)
   clear c5
   (first | rw [c5b0] | (simp only [i64_w, i32_w]; rw [c5b0]) | rw [c5b1] | skip)
   replace H := iq_ H; rcases H with ⟨c7b0, c7b1, H⟩ | ⟨c7b0, c7b1, c7, H⟩
   ·have H' := aS_ H
    clear H
    go_wp2_with (first | ((with_reducible refine gg_ ?_); refine gc_ 40 (some 7) Tryz.func40 #[.int .i64 (a0.size : Int), .int .i64 1, .int .i64 6] ?_; (with_reducible refine (spec_l1In.calls (a0.size : Int) 1 6 true _ A3.out).mono ?_); rintro e w' ⟨rfl, ⟨nd, rfl⟩⟩; refine ⟨_, rfl, ?_⟩; have p6 : 0 ≤ (0 : Int) := (by omega); have q6 : 0 < a0.size := (by have : (0 : Int) < (a0.size : Int) := of_decide_eq_true (by assumption); omega); have hx6 : ∀ h : 0 < a0.size, ((a0[0]'h).toNat : Int) = bt a0 0 := bt_at a0 0; clear p6; have qi6 : (0 < (a0.size : Int)) = True := eq_true (of_decide_eq_true (by assumption)); replace q6 := eq_true q6))
    go_meet
    case rel => exact ⟨_, (decide ((a0.size : Int) > 1)), sR_, H', ⟨by first | omega | exact Nat.le_refl _⟩, by repeat (first | exact Drawn0.refl _ | apply Drawn0.step)⟩
   have H' := aS_ H
   clear H
   go_wp2_with (first | ((with_reducible refine gg_ ?_); refine gc_ 40 (some 7) Tryz.func40 #[.int .i64 (a0.size : Int), .int .i64 1, .int .i64 6] ?_; (with_reducible refine (spec_l1In.calls (a0.size : Int) 1 6 true _ A3.out).mono ?_); rintro e w' ⟨rfl, ⟨nd, rfl⟩⟩; refine ⟨_, rfl, ?_⟩; have p6 : 0 ≤ (0 : Int) := (by omega); have q6 : 0 < a0.size := (by have : (0 : Int) < (a0.size : Int) := of_decide_eq_true (by assumption); omega); have hx6 : ∀ h : 0 < a0.size, ((a0[0]'h).toNat : Int) = bt a0 0 := bt_at a0 0; clear p6; have qi6 : (0 < (a0.size : Int)) = True := eq_true (of_decide_eq_true (by assumption)); replace q6 := eq_true q6))
   go_meet
   case rel => exact ⟨_, (false), sR_, H', ⟨by first | omega | exact Nat.le_refl _⟩, by repeat (first | exact Drawn0.refl _ | apply Drawn0.step)⟩
  have H' := aS_ H
  clear H
  go_wp2_with (first | ((with_reducible refine gg_ ?_); refine gc_ 40 (some 7) Tryz.func40 #[.int .i64 (a0.size : Int), .int .i64 1, .int .i64 6] ?_; (with_reducible refine (spec_l1In.calls (a0.size : Int) 1 6 false _ A3.out).mono ?_); rintro e w' ⟨rfl, ⟨nd, rfl⟩⟩; refine ⟨_, rfl, ?_⟩))
  go_meet
  case rel => exact ⟨_, (true), sR_, H', ⟨by first | omega | exact Nat.le_refl _⟩, by repeat (first | exact Drawn0.refl _ | apply Drawn0.step)⟩
 case rest =>
 clear HC2
 obtain ⟨kq, x18_1, rfl, HA, HJ1, ⟨mc1, rfl⟩⟩ := hcut
 cases kq with
 | zero => exact absurd HA.out (by simp [spec_l1Read.j0])
 | succ kj1 =>
 have H := HA.out
 clear HA
 simp only [spec_l1Read.j0] at H
 replace H := it_ H; rcases H with ⟨rfl, H⟩ | ⟨rfl, H⟩
 ·obtain rfl := Option.some.inj H
  go_wp2
  go_ret
  exact ⟨sR_, by repeat (first | exact Drawn0.refl _ | apply Drawn0.step)⟩
 have H' := aS_ H
 clear H
 go_wp2
 go_loopg [3, 4] kj1 (fun kq v3 v4 w' => ∃ (x3_2 : Int) (x4_2 : Int), v3 = .int .i64 x3_2 ∧ v4 = .int .i64 x4_2 ∧ Aside0 (spec_l1Read.l0 kq a0 x3_2 x4_2 = some r) ∧ Aside0 (kq ≤ kj1) ∧ Drawn0 w w')
 case atStart => exact ⟨(0), (0), sR_, sR_, H', ⟨Nat.le_refl _⟩, by repeat (first | exact Drawn0.refl _ | apply Drawn0.step)⟩
 case round =>
 clear H'
 obtain ⟨x3_2, x4_2, rfl, rfl, HA, HK2, ⟨m2, rfl⟩⟩ := hrel
 cases gk with
 | zero => exact absurd HA.out (by simp [spec_l1Read.l0])
 | succ k2 =>
 have H := HA.out
 clear HA
 simp only [spec_l1Read.l0] at H
 replace H := id_ H; rcases H with ⟨c9b0, H⟩ | ⟨c9b0, H⟩
 ·replace H := jd_ H; obtain ⟨c10b0, H⟩ := H
  replace H := id_ H; rcases H with ⟨c12b0, H⟩ | ⟨c12b0, H⟩
  ·obtain rfl := Option.some.inj H
   have p11 : 0 ≤ (x4_2 : Int) := of_decide_eq_true (by assumption)
   have q11 : x4_2 < (a0.size : Int) := of_decide_eq_true (by assumption)
   have hx11 := bt_at a0 x4_2
   replace p11 := eq_true p11
   replace q11 := eq_true q11
   go_wp2
   go_ret
   exact ⟨sR_, by repeat (first | exact Drawn0.refl _ | apply Drawn0.step)⟩
  replace H := id_ H; rcases H with ⟨c14b0, H⟩ | ⟨c14b0, H⟩
  ·obtain rfl := Option.some.inj H
   have p11 : 0 ≤ (x4_2 : Int) := of_decide_eq_true (by assumption)
   have q11 : x4_2 < (a0.size : Int) := of_decide_eq_true (by assumption)
   have hx11 := bt_at a0 x4_2
   replace p11 := eq_true p11
   replace q11 := eq_true q11
   have p13 : 0 ≤ (x4_2 : Int) := of_decide_eq_true (by assumption)
   have q13 : x4_2 < (a0.size : Int) := of_decide_eq_true (by assumption)
   have hx13 := bt_at a0 x4_2
   replace p13 := eq_true p13
   replace q13 := eq_true q13
   go_wp2
   go_ret
   exact ⟨sR_, by repeat (first | exact Drawn0.refl _ | apply Drawn0.step)⟩
  have H' := aS_ H
  clear H
  have p11 : 0 ≤ (x4_2 : Int) := of_decide_eq_true (by assumption)
  have q11 : x4_2 < (a0.size : Int) := of_decide_eq_true (by assumption)
  have hx11 := bt_at a0 x4_2
  replace p11 := eq_true p11
  replace q11 := eq_true q11
  have p13 : 0 ≤ (x4_2 : Int) := of_decide_eq_true (by assumption)
  have q13 : x4_2 < (a0.size : Int) := of_decide_eq_true (by assumption)
  have hx13 := bt_at a0 x4_2
  replace p13 := eq_true p13
  replace q13 := eq_true q13
  have p15 : 0 ≤ (x4_2 : Int) := of_decide_eq_true (by assumption)
  have q15 : x4_2 < (a0.size : Int) := of_decide_eq_true (by assumption)
  have hx15 := bt_at a0 x4_2
  replace p15 := eq_true p15
  replace q15 := eq_true q15
  go_wp2
  go_roundg k2
  case measure => have := HJ1.out; have := HK2.out; omega
  case rel => exact ⟨(wrap64 ((wrap64 (10 * x3_2)) + (((bt a0 x4_2) - 48) % 256))), (wrap64 (x4_2 + 1)), sR_, sR_, H', ⟨by have := HJ1.out; have := HK2.out; omega⟩, by repeat (first | exact Drawn0.refl _ | apply Drawn0.step)⟩
 obtain rfl := Option.some.inj H
 go_wp2
 go_ret
 exact ⟨sR_, by repeat (first | exact Drawn0.refl _ | apply Drawn0.step)⟩
/-! ### spec_ParseTable: function 23 -/
def spec_ParseTable.l0 : Nat → ByteArray → List ByteArray → Int → Int → List Int → Option (List Int × Bool)
 | 0, _, _, _, _, _ => none
 | k + 1, x0, x9, x10, x11, x566000 => if x11 < x10 then (if 0 ≤ x11 then (if x11 < (x9.length : Int) then (if (x566000.length : Int) = 12 then (some (([] : List Int), false)) else (if (rdOf ByteArray.empty x9 x11).toList = ([46] : List UInt8) then (if x566000.length < 17592186044416 then (spec_ParseTable.l0 k x0 x9 x10 (wrap64 (x11 + 1)) (x566000 ++ [(-1)])) else (none)) else ((spec_l1Read.f k (rdOf ByteArray.empty x9 x11)).bind fun t573 => ((spec_l1Most.f t573 0).bind fun t574 => (if x566000.length < 17592186044416 then (spec_ParseTable.l0 k x0 x9 x10 (wrap64 (x11 + 1)) (x566000 ++ [t574])) else (none)))))) else (none)) else (none)) else ((spec_prGood.f k x566000).bind fun t578 => (if t578 = true then ((spec_prText.f k x566000).bind fun t579 => (if t579.toList = x0.toList then (some (x566000, true)) else (some (([] : List Int), false)))) else (some (([] : List Int), false))))
def spec_ParseTable.f (k : Nat) (a0 : ByteArray) : Option (List Int × Bool) := (spec_l1Split.f k a0 32).bind fun t566 => (spec_ParseTable.l0 k a0 t566 (t566.length : Int) 0 ([] : List Int))
theorem spec_ParseTable.mono_l : ∀ k, (∀ y0 y1 y2 y3 y4, LeO (spec_ParseTable.l0 k y0 y1 y2 y3 y4) (spec_ParseTable.l0 (k + 1) y0 y1 y2 y3 y4))
 | 0 => fun _ _ _ _ _ r h => by simp [spec_ParseTable.l0] at h
 | k + 1 => by
  have ih0 := spec_ParseTable.mono_l k
  intro y0 y1 y2 y3 y4
  unfold spec_ParseTable.l0
  exact mo5_ ih0 spec_l1Read.mono spec_l1Split.mono spec_prGood.mono spec_prText.mono
theorem spec_ParseTable.mono : ∀ a0 k, LeO (spec_ParseTable.f k a0) (spec_ParseTable.f (k + 1) a0) := by
 intro a0 k
 have ih0 := spec_ParseTable.mono_l k
 unfold spec_ParseTable.f
 exact mo5_ ih0 spec_l1Read.mono spec_l1Split.mono spec_prGood.mono spec_prText.mono
def spec_ParseTable.T9 : Bool × List (List Nat × List Nat) := (true, [([], []), ([0], [0]), ([], []), ([2], [2]), ([3, 3], [3]), ([4], [4]), ([1, 5, 4], [1, 5]), ([0, 1, 2, 3, 4, 5, 6], []), ([7, 6, 6, 0, 1, 2, 3, 4, 5, 6], [6, 7])])
def spec_ParseTable.B9 : List Nat := [0, 1, 0, 4, 12, 28, 63, 127, 255]
theorem spec_ParseTable.tab9 : rtab .any (opsOf Tryz.f23 9) = spec_ParseTable.T9 := by kernel_rfl
theorem spec_ParseTable.bits9 : waitsOk spec_ParseTable.T9.2 spec_ParseTable.B9 = true := by kernel_rfl
set_option maxHeartbeats 8000000 in
set_option maxRecDepth 100000 in
theorem spec_ParseTable.calls (k : Nat) (a0 : ByteArray) (r1 : List Int) (r2 : Bool) (w : World) (h : spec_ParseTable.f k a0 = some (r1, r2)) :
  Calls Tryz.prog 23 #[.string a0] w fun e w' => ∃ v0_ : Value, e = .returned (.tuple #[.agg #[v0_], .bool r2]) ∧ Kd.R (Kd.int .i64) 3 w' w.heap.size (fun _ => True) v0_ r1 ∧ Below w.heap.size w w' := by
 have hu26 := Tryz.underlying26
 have HB := aS_ (Below.refl w.heap.size w)
 have H : ((spec_l1Split.f k a0 32).bind fun t566 => (spec_ParseTable.l0 k a0 t566 (t566.length : Int) 0 ([] : List Int))) = some (r1, r2) := h
 clear h
 replace H := bs_ H; obtain ⟨t566, A2, H⟩ := H
 have H' := aS_ H
 clear H
 go_enter Tryz.func23, Tryz.ntmps23
 go_wp2_with (first | ((with_reducible refine gg_ ?_); refine bx_ 2 #[.slice none 0 0] 26 ?_; intro gb564 hg w3 hbox hb; have BK564 := aS_ (hbox); have GW564 := gE_ HB hg; have GE564 := gE_ HB hg; replace HB := bE_ HB hb; clear hb hbox hg) | ((with_reducible refine gg_ ?_); refine bx_ 4 #[.slice none 0 0] 26 ?_; intro gb565 hg w4 hbox hb; have BK565 := aS_ (hbox); have GW565 := gE_ HB hg; have GE565 := gE_ HB hg; replace HB := bE_ HB hb; have NB564_565 := nL_ BK564 hg; have NB565_564 := nG_ BK564 hg; replace BK564 := kO_ BK564 hb; clear hb hbox hg; have hnb5 := NB565_564.out; have hnc5 := NB564_565.out; obtain ⟨hcz6_0, hfz6_0⟩ := c10_ BK565) | ((with_reducible refine gg_ ?_); refine gc_ 56 (some 9) Tryz.func56 #[.string a0, .int .u8 32] ?_; (with_reducible refine (spec_l1Split.calls k a0 32 t566 _ A2.out).mono ?_); rintro e w7 ⟨v567, rfl, ho0, hb⟩; refine ⟨_, rfl, ?_⟩; have HO568 := aS_ (Kd.R_lower ho0 (below_size (bb_ HB))); replace BK564 := aS_ (blk_below (g := gb564) (o := .cells #[.slice none 0 0] 26 (0, 0)) (by (with_reducible repeat (first | refine kN_ ?_ _ | refine kD_ ?_ | refine kA_ ?_ _)); refine blk_far ?_ NB564_565.out _; (with_reducible repeat (first | refine kN_ ?_ _ | refine kD_ ?_ | refine kA_ ?_ _)); exact BK564.out) hb); replace BK565 := aS_ (blk_below (g := gb565) (o := .cells #[.slice none 0 0] 26 (0, 0)) (by (with_reducible repeat (first | refine kN_ ?_ _ | refine kD_ ?_ | refine kA_ ?_ _)); refine blk_put (cs := #[.slice none 0 0]) ?_ 0 _ rfl; (with_reducible repeat (first | refine kN_ ?_ _ | refine kD_ ?_ | refine kA_ ?_ _)); exact BK565.out) hb); replace HB := bE_ HB hb; (try clear hb); (try clear ho0); obtain ⟨Ao8, co8, eo8⟩ := Kd.R_slice HO568.out; subst eo8))
 go_loopg [11] k (fun kq v11 w' => ∃ (x11_1 : Int) (x566000_1 : List Int) (u566000 : Value), v11 = .int .i64 x11_1 ∧ Aside0 (spec_ParseTable.l0 kq a0 t566 (t566.length : Int) x11_1 x566000_1 = some (r1, r2)) ∧ Aside0 (kq ≤ k) ∧ Aside0 (Kd.R Kd.string 9 w' w.heap.size (fun _ => True) (.slice Ao8 t566.length co8) t566) ∧ Aside0 (Kd.R (Kd.int .i64) 3 w' w.heap.size (fun _ => True) u566000 x566000_1) ∧ Aside0 (w'.heap[gb564]? = some (.cells #[(.slice none 0 0)] 26 (0, 0))) ∧ Aside0 (w'.heap[gb565]? = some (.cells #[u566000] 26 (0, 0))) ∧ Aside0 (Below w.heap.size w w'))
 case atStart => exact ⟨(0), (([] : List Int)), (.slice none 0 0), sR_, H', ⟨Nat.le_refl _⟩, ⟨rr_ HO568⟩, ⟨by first | exact Kd.R_nil _ _ _ _ _ | exact Kd.N_nil _ _ _ _ _ | exact Kd.V_nil _ _ _ _ _ | exact Kd.Q_nil _ _ _ _ _ | exact Kd.S_nil _ _ _ _ _⟩, ⟨kk_ BK564⟩, ⟨kk_ BK565⟩, ⟨bb_ HB⟩⟩
 case round =>
 clear H'
 try clear hcz6_0
 try clear hfz6_0
 obtain ⟨x11_1, x566000_1, u566000, rfl, HA, HK1, HO_9, HO_566000, BK564, BK565, HB⟩ := hrel
 cases gk with
 | zero => exact absurd HA.out (by simp [spec_ParseTable.l0])
 | succ k1 =>
 have H := HA.out
 clear HA
 simp only [spec_ParseTable.l0] at H
 replace H := id_ H; rcases H with ⟨c9b0, H⟩ | ⟨c9b0, H⟩
 ·replace H := jd_ H; obtain ⟨c10b0, H⟩ := H
  replace H := jd_ H; obtain ⟨c11b0, H⟩ := H
  replace H := iq_ H; rcases H with ⟨c12b0, c12b1, H⟩ | ⟨c12b0, c12b1, c12, H⟩
  ·simp only [Option.some.injEq, Prod.mk.injEq] at H
   obtain ⟨rfl, rfl⟩ := H
   have p569 : 0 ≤ (x11_1 : Int) := of_decide_eq_true (by assumption)
   have q569 : x11_1 < (t566.length : Int) := of_decide_eq_true (by assumption)
   obtain ⟨ad569, e569, hx569_0⟩ := Kd.at_string (Kd.R_reads' HO_9.out).2.2 x11_1 p569 q569
   cases e569
   replace p569 := eq_true p569
   replace q569 := eq_true q569
   have hnb13 := NB565_564.out
   have hnc13 := NB564_565.out
   obtain ⟨hcz14_0, hfz14_0⟩ := c10_ BK565
   obtain ⟨Ao15, co15, eo15⟩ := Kd.R_slice HO_566000.out
   subst eo15
   obtain ⟨hcz16_0, hfz16_0⟩ := c10_ BK564
   go_wp2
   refine bodyPost_ret (results_ct rfl _ _ gb564 26 #[.slice none 0 0] (0, 0) _ rfl (by (with_reducible repeat (first | refine kN_ ?_ _ | refine kD_ ?_ | refine kA_ ?_ _)); refine blk_put (cs := #[.slice none 0 0]) ?_ 0 _ rfl; (with_reducible repeat (first | refine kN_ ?_ _ | refine kD_ ?_ | refine kA_ ?_ _)); exact BK564.out) Tryz.underlying26 rfl (by kernel_rfl)) rfl ?_
   exact ⟨_, by first | rfl | (simp [errW_none, errW_some] <;> rfl) | (simp [*, errW_none, errW_some] <;> rfl), by first | exact Kd.R_nil _ _ _ _ _ | exact Kd.N_nil _ _ _ _ _ | exact Kd.V_nil _ _ _ _ _ | exact Kd.Q_nil _ _ _ _ _ | exact Kd.S_nil _ _ _ _ _, bb_ HB⟩
  replace H := iq_ H; rcases H with ⟨c17b0, c17b1, H⟩ | ⟨c17b0, c17b1, c17, H⟩
  ·replace H := jp_ H; obtain ⟨c18, H⟩ := H
   have LMc18 := aS_ c18
   clear c18
   obtain ⟨y570, hy570⟩ : ∃ y_ : List Int, y_ = (x566000_1 ++ [(-1)]) := ⟨_, rfl⟩
   replace H : (spec_ParseTable.l0 k1 a0 t566 (t566.length : Int) (wrap64 (x11_1 + 1)) y570) = some (r1, r2) := yH_ hy570 H
   have Ny570 := aS_ hy570
   clear hy570
   have H' := aS_ H
   clear H
   have p569 : 0 ≤ (x11_1 : Int) := of_decide_eq_true (by assumption)
   have q569 : x11_1 < (t566.length : Int) := of_decide_eq_true (by assumption)
   obtain ⟨ad569, e569, hx569_0⟩ := Kd.at_string (Kd.R_reads' HO_9.out).2.2 x11_1 p569 q569
   cases e569
   replace p569 := eq_true p569
   replace q569 := eq_true q569
   have hnb19 := NB565_564.out
   have hnc19 := NB564_565.out
   obtain ⟨hcz20_0, hfz20_0⟩ := c10_ BK565
   obtain ⟨Ao21, co21, eo21⟩ := Kd.R_slice HO_566000.out
   subst eo21
   go_wp2_with (first | ((with_reducible refine gate_builtin (b := .append) (xs := #[.tmp 23, .tmp 24]) rfl ?_); at_builtin; refine Kd.R_append (Kd.int .i64) (w0 := w) w.heap.size rfl (.tmp 23) (.tmp 24) 24 3 (.int .i64 0) 8 rfl Tryz.underlying24 info3 rfl (by decide) (by omega) (.slice Ao21 x566000_1.length co21) x566000_1 (-1) [.int .i64 (-1)] (fun _ => True) (fun _ => False) rfl rfl ?aP (fun _ hk => hk.elim) ?aF ?aO ?aB ?aS ?aL ?_; (case aP => exact rfl); (case aB => exact (bb_ HB)); (case aF => exact (fun _ _ => trivial)); (case aO => exact (rr_ HO_566000)); (case aS => exact (below_size (bb_ HB))); (case aL => have := LMc18.out; omega); intro v571 w22 ho hb hg hat; rw [← Ny570.out] at ho; replace HO_9 := aS_ (Kd.R_over' (rr_ HO_9) (Kd.R_typed (rr_ HO_566000)) (by decide) hg); replace BK564 := aS_ (blk_grown (g := gb564) (o := .cells #[.slice none 0 0] 26 (0, 0)) (kk_ BK564) hg (Kd.R_ne HO_566000.out BK564.out (by decide))); replace BK565 := aS_ (blk_grown (g := gb565) (o := .cells #[.slice Ao21 x566000_1.length co21] 26 (0, 0)) (kk_ BK565) hg (Kd.R_ne HO_566000.out BK565.out (by decide))); replace HB := aS_ (hb); have HO572 := aS_ (ho); clear HO_566000; clear ho hb hg hat; obtain ⟨Ao23, co23, eo23⟩ := Kd.R_slice HO572.out; subst eo23; obtain ⟨hcz24_0, hfz24_0⟩ := c10_ BK565))
   go_roundg k1
   case measure => have := HK1.out; omega
   case rel => exact ⟨(wrap64 (x11_1 + 1)), (y570), (.slice Ao23 y570.length co23), sR_, H', ⟨by have := HK1.out; omega⟩, ⟨by (with_reducible repeat (first | apply rA_ | apply rN_ | apply rD_)); exact Kd.R_mono (Kd.R_far (p := ⟨gb565, 0, none⟩) (Kd.R_types HO_9.out BK565.out (by decide)) (fun _ hk => hk.2) (.slice Ao23 y570.length co23)) (fun _ hk => trivial)⟩, ⟨by (with_reducible repeat (first | apply rA_ | apply rN_ | apply rD_)); exact Kd.R_mono (Kd.R_far (p := ⟨gb565, 0, none⟩) (Kd.R_types HO572.out BK565.out (by decide)) (fun _ hk => hk.2) (.slice Ao23 y570.length co23)) (fun _ hk => trivial)⟩, ⟨by (with_reducible repeat (first | refine kN_ ?_ _ | refine kD_ ?_ | refine kA_ ?_ _)); refine blk_far ?_ NB564_565.out _; (with_reducible repeat (first | refine kN_ ?_ _ | refine kD_ ?_ | refine kA_ ?_ _)); exact BK564.out⟩, ⟨by (with_reducible repeat (first | refine kN_ ?_ _ | refine kD_ ?_ | refine kA_ ?_ _)); refine blk_put (cs := #[.slice Ao21 x566000_1.length co21]) ?_ 0 _ rfl; (with_reducible repeat (first | refine kN_ ?_ _ | refine kD_ ?_ | refine kA_ ?_ _)); exact BK565.out⟩, ⟨bb_ HB⟩⟩
  replace H := bs_ H; obtain ⟨t573, A25, H⟩ := H
  replace H := bs_ H; obtain ⟨t574, A26, H⟩ := H
  replace H := jp_ H; obtain ⟨c27, H⟩ := H
  have LMc27 := aS_ c27
  clear c27
  obtain ⟨y575, hy575⟩ : ∃ y_ : List Int, y_ = (x566000_1 ++ [t574]) := ⟨_, rfl⟩
  replace H : (spec_ParseTable.l0 k1 a0 t566 (t566.length : Int) (wrap64 (x11_1 + 1)) y575) = some (r1, r2) := yH_ hy575 H
  have Ny575 := aS_ hy575
  clear hy575
  have H' := aS_ H
  clear H
  have p569 : 0 ≤ (x11_1 : Int) := of_decide_eq_true (by assumption)
  have q569 : x11_1 < (t566.length : Int) := of_decide_eq_true (by assumption)
  obtain ⟨ad569, e569, hx569_0⟩ := Kd.at_string (Kd.R_reads' HO_9.out).2.2 x11_1 p569 q569
  cases e569
  replace p569 := eq_true p569
  replace q569 := eq_true q569
  have hnb28 := NB565_564.out
  have hnc28 := NB564_565.out
  obtain ⟨hcz29_0, hfz29_0⟩ := c10_ BK565
  obtain ⟨Ao30, co30, eo30⟩ := Kd.R_slice HO_566000.out
  subst eo30
  try go_wp2
  replace HO_9 := aS_ (rD_ HO_9.out)
  replace HO_566000 := aS_ (rD_ HO_566000.out)
  replace BK564 := aS_ (kD_ BK564.out)
  replace BK565 := aS_ (kD_ BK565.out)
  replace HB := aS_ (bD_ HB.out)
  refine start_ (n := 9) (S := fun w' => w'.cell? ⟨gb565, 0, none⟩ = some (.slice Ao30 x566000_1.length co30)) (ds := [8]) #[false, false, false, false, false, false, false, false, false] (by kernel_rfl) rfl rfl ((blk_cell BK565.out 0).trans rfl) (fun hHeld => ?_); refine with_tabW spec_ParseTable.tab9 spec_ParseTable.bits9 (fun HT_ HW_ => ?_)
  generalize wr.drew = w31 at HO_9 HO_566000 BK564 BK565 HB hHeld ⊢
  refine pure_ (i := 0) (N := some 27) (v := ?_) (a' := ?_) #[true, false, false, false, false, false, false, false, false] rfl rfl (any_of HT_.out (by kernel_rfl)) (fun _ _ _ h => h) (Or.inl ⟨by rfl, ?_⟩) ?_ ?_
  rotate_left
  ·intro w'
   go_simp
   with_reducible rfl
  rotate_left
  ·simp only [Act.put, List.setIfInBounds_toArray, List.set_cons_zero, List.set_cons_succ, i64_w, i32_w]
   rfl
  refine pure_ (i := 2) (N := some 29) (v := ?_) (a' := ?_) #[true, false, true, false, false, false, false, false, false] rfl rfl (any_of HT_.out (by kernel_rfl)) (fun _ _ _ h => h) (Or.inl ⟨by rfl, ?_⟩) ?_ ?_
  rotate_left
  ·intro w'
   go_simp
   with_reducible rfl
  rotate_left
  ·simp only [Act.put, List.setIfInBounds_toArray, List.set_cons_zero, List.set_cons_succ, i64_w, i32_w]
   rfl
  refine take_ (i := 1) (N := some 28) (v := ?_) (a' := ?_) #[true, true, true, false, false, false, false, false, false] rfl rfl (take_ofW HT_.out HW_.out (by kernel_rfl)) (fun _ _ _ h => h) (Or.inl ⟨by rfl, ?_⟩) hHeld ?_ ?_
  rotate_left
  ·intro w' s0
   go_simp
   with_reducible rfl
  rotate_left
  ·simp only [Act.put, List.setIfInBounds_toArray, List.set_cons_zero, List.set_cons_succ, i64_w, i32_w]
   rfl
  refine one_ (i := 3) (N := some 30) #[true, true, true, true, false, false, false, false, false] rfl rfl (one_of HT_.out (by kernel_rfl)) (by decide) (fun K hK => ?_)
  refine goes_ Tryz.func58 (by kernel_rfl) rfl #[.string (rdOf ByteArray.empty t566 x11_1)] (by rfl) rfl rfl aR_ ?_
  with_reducible refine (spec_l1Read.calls k1 (rdOf ByteArray.empty t566 x11_1) t573 _ A25.out).mono ?_
  rintro e w' ⟨rfl, ⟨nd, rfl⟩⟩
  refine ⟨_, rfl, ?_⟩
  refine hK.out _ _ ((blk_cell BK565.out 0).trans rfl) (fun hHeld => ?_)
  clear hK K
  refine norm_ (a' := ?_) ?_ ?_
  rotate_left
  ·show Act.put _ (some 30) _ = _
   simp only [Act.put, List.setIfInBounds_toArray, List.set_cons_zero, List.set_cons_succ, i64_w, i32_w]
   rfl
  refine one_ (i := 4) (N := some 31) #[true, true, true, true, true, false, false, false, false] rfl rfl (one_of HT_.out (by kernel_rfl)) (by decide) (fun K hK => ?_)
  refine goes_ Tryz.func57 (by kernel_rfl) rfl #[.int .i64 t573, .int .i64 0] (by rfl) rfl rfl aR_ ?_
  with_reducible refine (spec_l1Most.calls t573 0 t574 _ A26.out).mono ?_
  rintro e w' ⟨rfl, ⟨nd, rfl⟩⟩
  refine ⟨_, rfl, ?_⟩
  refine hK.out _ _ ((blk_cell BK565.out 0).trans rfl) (fun hHeld => ?_)
  clear hK K
  refine norm_ (a' := ?_) ?_ ?_
  rotate_left
  ·show Act.put _ (some 31) _ = _
   simp only [Act.put, List.setIfInBounds_toArray, List.set_cons_zero, List.set_cons_succ, i64_w, i32_w]
   rfl
  refine one_ (i := 5) (N := some 32) #[true, true, true, true, true, true, false, false, false] rfl rfl (one_of HT_.out (by kernel_rfl)) (by decide) (fun K hK => ?_)
  refine value_ (w1 := ?_) (v := ?_) (by rfl) rfl ?_ ?_
  rotate_left 2
  ·go_simp
   constructor
   ·rfl
   rfl
  refine hK.out _ _ ((blk_cell (kA_ BK565.out _) 0).trans rfl) (fun hHeld => ?_)
  clear hK K
  refine norm_ (a' := ?_) ?_ ?_
  rotate_left
  ·show Act.put _ (some 32) _ = _
   simp only [Act.put, List.setIfInBounds_toArray, List.set_cons_zero, List.set_cons_succ, i64_w, i32_w]
   rfl
  refine one_ (i := 6) (N := some 33) #[true, true, true, true, true, true, true, false, false] rfl rfl (one_of HT_.out (by kernel_rfl)) (by decide) (fun K hK => ?_)
  refine Kd.R_append_step (Kd.int .i64) (w0 := w) w.heap.size (by rfl) (.tmp 28) (.tmp 32) 24 3 (.int .i64 0) 8 rfl Tryz.underlying24 info3 rfl (by decide) (by omega) (.slice Ao30 x566000_1.length co30) x566000_1 t574 [.int .i64 t574] (fun _ => True) (fun _ => False) rfl rfl ?aP (fun _ hk => hk.elim) ?aF ?aO ?aB ?aS ?aL ?_
  (case aP => exact rfl)
  (case aB => exact (bb_ HB))
  (case aF => exact (fun _ _ => trivial))
  (case aO => exact (rr_ HO_566000))
  (case aS => exact (below_size (bb_ HB)))
  (case aL => have := LMc27.out; omega)
  intro v576 w32 ho hb hg hat
  rw [← Ny575.out] at ho
  replace HO_9 := aS_ (Kd.R_over' (rr_ HO_9) (Kd.R_typed (rr_ HO_566000)) (by decide) hg)
  replace BK564 := aS_ (blk_grown (g := gb564) (o := .cells #[.slice none 0 0] 26 (0, 0)) (kk_ BK564) hg (Kd.R_ne HO_566000.out BK564.out (by decide)))
  replace BK565 := aS_ (blk_grown (g := gb565) (o := .cells #[.slice Ao30 x566000_1.length co30] 26 (0, 0)) (kk_ BK565) hg (Kd.R_ne HO_566000.out BK565.out (by decide)))
  replace HB := aS_ (hb)
  have HO577 := aS_ (ho)
  clear HO_566000
  clear ho hb hg hat
  obtain ⟨Ao33, co33, eo33⟩ := Kd.R_slice HO577.out
  (first | subst eo33 | (injection eo33 with f1_ f2_ f3_; have f4_ := f1_.symm; have f5_ := f3_.symm; clear f1_ f2_ f3_; subst f4_; subst f5_))
  refine hK.out _ _ ((blk_cell BK565.out 0).trans rfl) (fun hHeld => ?_)
  clear hK K
  refine norm_ (a' := ?_) ?_ ?_
  rotate_left
  ·show Act.put _ (some 33) _ = _
   simp only [Act.put, List.setIfInBounds_toArray, List.set_cons_zero, List.set_cons_succ, i64_w, i32_w]
   rfl
  refine pure_ (i := 7) (N := some 34) (v := ?_) (a' := ?_) #[true, true, true, true, true, true, true, true, false] rfl rfl (any_of HT_.out (by kernel_rfl)) (fun _ _ _ h => h) (Or.inl ⟨by rfl, ?_⟩) ?_ ?_
  rotate_left
  ·intro w'
   go_simp
   with_reducible rfl
  rotate_left
  ·simp only [Act.put, List.setIfInBounds_toArray, List.set_cons_zero, List.set_cons_succ, i64_w, i32_w]
   rfl
  refine last_ (i := 8) (N := none) #[true, true, true, true, true, true, true, true, true] rfl rfl (one_of HT_.out (by kernel_rfl)) (by decide) (fun K hK => ?_)
  have hs34 : w32.cell? ⟨gb565, 0, none⟩ = some (.slice Ao30 x566000_1.length co30) := (blk_cell BK565.out 0).trans rfl
  have hfs34 := blk_frozen BK565.out 0
  have hns34_0 := NB564_565.out
  have hms34_0 := NB565_564.out
  refine skip_ (w1 := ?_) (by rfl) rfl ?_ ?_
  rotate_left
  ·go_simp
   rfl
  refine hK.out _ _ ?_
  clear hK K
  refine done_ (done_of HT_.out (by kernel_rfl)) ?_
  try go_wp2
  go_roundg k1
  case measure => have := HK1.out; omega
  case rel => exact ⟨(wrap64 (x11_1 + 1)), (y575), (.slice Ao33 y575.length co33), sR_, H', ⟨by have := HK1.out; omega⟩, ⟨by (with_reducible repeat (first | apply rA_ | apply rN_ | apply rD_)); exact Kd.R_mono (Kd.R_far (p := ⟨gb565, 0, none⟩) (Kd.R_types HO_9.out BK565.out (by decide)) (fun _ hk => hk.2) (.slice Ao33 y575.length co33)) (fun _ hk => trivial)⟩, ⟨by (with_reducible repeat (first | apply rA_ | apply rN_ | apply rD_)); exact Kd.R_mono (Kd.R_far (p := ⟨gb565, 0, none⟩) (Kd.R_types HO577.out BK565.out (by decide)) (fun _ hk => hk.2) (.slice Ao33 y575.length co33)) (fun _ hk => trivial)⟩, ⟨by (with_reducible repeat (first | refine kN_ ?_ _ | refine kD_ ?_ | refine kA_ ?_ _)); refine blk_far ?_ NB564_565.out _; (with_reducible repeat (first | refine kN_ ?_ _ | refine kD_ ?_ | refine kA_ ?_ _)); exact BK564.out⟩, ⟨by (with_reducible repeat (first | refine kN_ ?_ _ | refine kD_ ?_ | refine kA_ ?_ _)); refine blk_put (cs := #[.slice Ao30 x566000_1.length co30]) ?_ 0 _ rfl; (with_reducible repeat (first | refine kN_ ?_ _ | refine kD_ ?_ | refine kA_ ?_ _)); exact BK565.out⟩, ⟨bb_ HB⟩⟩
 replace H := bs_ H; obtain ⟨t578, A35, H⟩ := H
 replace H := it_ H; rcases H with ⟨rfl, H⟩ | ⟨rfl, H⟩
 ·replace H := bs_ H; obtain ⟨t579, A37, H⟩ := H
  replace H := iq_ H; rcases H with ⟨c38b0, c38b1, H⟩ | ⟨c38b0, c38b1, c38, H⟩
  ·simp only [Option.some.injEq, Prod.mk.injEq] at H
   obtain ⟨rfl, rfl⟩ := H
   have hnb39 := NB565_564.out
   have hnc39 := NB564_565.out
   obtain ⟨hcz40_0, hfz40_0⟩ := c10_ BK565
   obtain ⟨Ao41, co41, eo41⟩ := Kd.R_slice HO_566000.out
   subst eo41
   go_wp2_with (first | ((with_reducible refine gg_ ?_); refine gc_ 30 (some 37) Tryz.func30 #[.agg #[.slice Ao41 x566000_1.length co41]] ?_; (with_reducible refine (spec_prGood.calls k1 _ _ x566000_1 true _ ?side1 ?side2 A35.out).mono ?_); (case side1 => exact cR_ HO_566000); (case side2 => exact (Kd.R_reads' HO_566000.out).2.1); rintro e w42 ⟨rfl, hb⟩; refine ⟨_, rfl, ?_⟩; replace HO_9 := aS_ (Kd.R_below (rr_ HO_9) hb); replace HO_566000 := aS_ (Kd.R_below (rr_ HO_566000) hb); replace BK564 := kO_ BK564 hb; replace BK565 := kO_ BK565 hb; replace HB := bE_ HB hb; (try clear hb); obtain ⟨hcz43_0, hfz43_0⟩ := c10_ BK565) | (go_at_call 50; (with_reducible refine (spec_prText.calls k1 _ _ x566000_1 t579 _ ?side1 ?side2 A37.out).mono ?_); (case side1 => exact cR_ HO_566000); (case side2 => exact (Kd.R_reads' HO_566000.out).2.1); rintro e w44 ⟨rfl, hb⟩; replace HO_9 := aS_ (Kd.R_below (rr_ HO_9) hb); replace HO_566000 := aS_ (Kd.R_below (rr_ HO_566000) hb); replace BK564 := kO_ BK564 hb; replace BK565 := kO_ BK565 hb; replace HB := bE_ HB hb; (try clear hb); obtain ⟨hcz45_0, hfz45_0⟩ := c10_ BK565; obtain ⟨hcz46_0, hfz46_0⟩ := c10_ BK564))
   refine bodyPost_ret (results_ct rfl _ _ gb564 26 #[.slice Ao41 x566000_1.length co41] (0, 0) _ rfl (by (with_reducible repeat (first | refine kN_ ?_ _ | refine kD_ ?_ | refine kA_ ?_ _)); refine blk_put (cs := #[.slice none 0 0]) ?_ 0 _ rfl; (with_reducible repeat (first | refine kN_ ?_ _ | refine kD_ ?_ | refine kA_ ?_ _)); exact BK564.out) Tryz.underlying26 rfl (by kernel_rfl)) rfl ?_
   exact ⟨_, by first | rfl | (simp [errW_none, errW_some] <;> rfl) | (simp [*, errW_none, errW_some] <;> rfl), by (with_reducible repeat (first | apply rA_ | apply rN_ | apply rD_)); exact Kd.R_mono (Kd.R_far (p := ⟨gb564, 0, none⟩) (Kd.R_types HO_566000.out BK564.out (by decide)) (fun _ hk => hk.2) (.slice Ao41 x566000_1.length co41)) (fun _ hk => trivial), bb_ HB⟩
  simp only [Option.some.injEq, Prod.mk.injEq] at H
  obtain ⟨rfl, rfl⟩ := H
  have hnb47 := NB565_564.out
  have hnc47 := NB564_565.out
  obtain ⟨hcz48_0, hfz48_0⟩ := c10_ BK565
  obtain ⟨Ao49, co49, eo49⟩ := Kd.R_slice HO_566000.out
  subst eo49
  go_wp2_with (first | ((with_reducible refine gg_ ?_); refine gc_ 30 (some 37) Tryz.func30 #[.agg #[.slice Ao49 x566000_1.length co49]] ?_; (with_reducible refine (spec_prGood.calls k1 _ _ x566000_1 true _ ?side1 ?side2 A35.out).mono ?_); (case side1 => exact cR_ HO_566000); (case side2 => exact (Kd.R_reads' HO_566000.out).2.1); rintro e w50 ⟨rfl, hb⟩; refine ⟨_, rfl, ?_⟩; replace HO_9 := aS_ (Kd.R_below (rr_ HO_9) hb); replace HO_566000 := aS_ (Kd.R_below (rr_ HO_566000) hb); replace BK564 := kO_ BK564 hb; replace BK565 := kO_ BK565 hb; replace HB := bE_ HB hb; (try clear hb); obtain ⟨hcz51_0, hfz51_0⟩ := c10_ BK565) | (go_at_call 50; (with_reducible refine (spec_prText.calls k1 _ _ x566000_1 t579 _ ?side1 ?side2 A37.out).mono ?_); (case side1 => exact cR_ HO_566000); (case side2 => exact (Kd.R_reads' HO_566000.out).2.1); rintro e w52 ⟨rfl, hb⟩; replace HO_9 := aS_ (Kd.R_below (rr_ HO_9) hb); replace HO_566000 := aS_ (Kd.R_below (rr_ HO_566000) hb); replace BK564 := kO_ BK564 hb; replace BK565 := kO_ BK565 hb; replace HB := bE_ HB hb; (try clear hb); obtain ⟨hcz53_0, hfz53_0⟩ := c10_ BK564))
  refine bodyPost_ret (results_ct rfl _ _ gb564 26 #[.slice none 0 0] (0, 0) _ rfl (by (with_reducible repeat (first | refine kN_ ?_ _ | refine kD_ ?_ | refine kA_ ?_ _)); refine blk_put (cs := #[.slice none 0 0]) ?_ 0 _ rfl; (with_reducible repeat (first | refine kN_ ?_ _ | refine kD_ ?_ | refine kA_ ?_ _)); exact BK564.out) Tryz.underlying26 rfl (by kernel_rfl)) rfl ?_
  exact ⟨_, by first | rfl | (simp [errW_none, errW_some] <;> rfl) | (simp [*, errW_none, errW_some] <;> rfl), by first | exact Kd.R_nil _ _ _ _ _ | exact Kd.N_nil _ _ _ _ _ | exact Kd.V_nil _ _ _ _ _ | exact Kd.Q_nil _ _ _ _ _ | exact Kd.S_nil _ _ _ _ _, bb_ HB⟩
 simp only [Option.some.injEq, Prod.mk.injEq] at H
 obtain ⟨rfl, rfl⟩ := H
 have hnb54 := NB565_564.out
 have hnc54 := NB564_565.out
 obtain ⟨hcz55_0, hfz55_0⟩ := c10_ BK565
 obtain ⟨Ao56, co56, eo56⟩ := Kd.R_slice HO_566000.out
 subst eo56
 go_wp2_with (first | ((with_reducible refine gg_ ?_); refine gc_ 30 (some 37) Tryz.func30 #[.agg #[.slice Ao56 x566000_1.length co56]] ?_; (with_reducible refine (spec_prGood.calls k1 _ _ x566000_1 false _ ?side1 ?side2 A35.out).mono ?_); (case side1 => exact cR_ HO_566000); (case side2 => exact (Kd.R_reads' HO_566000.out).2.1); rintro e w57 ⟨rfl, hb⟩; refine ⟨_, rfl, ?_⟩; replace HO_9 := aS_ (Kd.R_below (rr_ HO_9) hb); replace HO_566000 := aS_ (Kd.R_below (rr_ HO_566000) hb); replace BK564 := kO_ BK564 hb; replace BK565 := kO_ BK565 hb; replace HB := bE_ HB hb; (try clear hb); obtain ⟨hcz58_0, hfz58_0⟩ := c10_ BK564))
 refine bodyPost_ret (results_ct rfl _ _ gb564 26 #[.slice none 0 0] (0, 0) _ rfl (by (with_reducible repeat (first | refine kN_ ?_ _ | refine kD_ ?_ | refine kA_ ?_ _)); refine blk_put (cs := #[.slice none 0 0]) ?_ 0 _ rfl; (with_reducible repeat (first | refine kN_ ?_ _ | refine kD_ ?_ | refine kA_ ?_ _)); exact BK564.out) Tryz.underlying26 rfl (by kernel_rfl)) rfl ?_
 exact ⟨_, by first | rfl | (simp [errW_none, errW_some] <;> rfl) | (simp [*, errW_none, errW_some] <;> rfl), by first | exact Kd.R_nil _ _ _ _ _ | exact Kd.N_nil _ _ _ _ _ | exact Kd.V_nil _ _ _ _ _ | exact Kd.Q_nil _ _ _ _ _ | exact Kd.S_nil _ _ _ _ _, bb_ HB⟩
/-! ### spec_DrawEmptyTable: function 24 -/
def spec_DrawEmptyTable.f (l0 : List Int) : Option (Int) := (spec_l1Cur_among.f l0 0 0 (([2, 3, 7, 12, 13, 1, 0] : List Int))).bind fun bt584 => (some bt584.1)
set_option maxHeartbeats 8000000 in
set_option maxRecDepth 100000 in
theorem spec_DrawEmptyTable.calls (A0 : Option Addr) (c0 : Nat) (l0 : List Int) (r : Int) (w : World) (hr0 : Kd.C (Kd.int .u8) w A0 l0.length l0) (hc0 : l0.length ≤ c0) (h : spec_DrawEmptyTable.f l0 = some r) :
  Calls Tryz.prog 24 #[.slice A0 l0.length c0] w fun e w' => e = .returned (.int .i64 r) ∧ Below w.heap.size w w' := by
 have hu69 := Tryz.underlying69
 have HR0 := aS_ hr0
 have HC0 := aS_ hc0
 clear hr0 hc0
 have HB := aS_ (Below.refl w.heap.size w)
 have H : ((spec_l1Cur_among.f l0 0 0 (([2, 3, 7, 12, 13, 1, 0] : List Int))).bind fun bt584 => (some bt584.1)) = some r := h
 clear h
 obtain ⟨y581, hy581⟩ : ∃ y_ : List Int, y_ = (([2, 3, 7, 12, 13, 1, 0] : List Int)) := ⟨_, rfl⟩
 replace H : ((spec_l1Cur_among.f l0 0 0 y581).bind fun bt584 => (some bt584.1)) = some r := yH_ hy581 H
 have Ny581 := aS_ hy581
 clear hy581
 replace H := bs_ H; obtain ⟨⟨t584, t585, t586⟩, A2, H⟩ := H
 obtain rfl := Option.some.inj H
 go_enter Tryz.func24, Tryz.ntmps24
 go_wp2_with (first | ((with_reducible refine gg_ ?_); refine bx_ 6 #[.slice A0 l0.length c0, .int .i64 0, .int .u64 0] 69 ?_; intro gb580 hg w3 hbox hb; have GW580 := gE_ HB hg; have GE580 := gE_ HB hg; have HI580 := aS_ ((⟨_, _,  hbox, (by rw [hg]; exact (below_size (bb_ HB))), HR0.out⟩ : IsS69 w w3 gb580 l0 0 0)); replace HB := bE_ HB hb; clear hb hbox hg) | ((with_reducible refine gate_dst (N := 8) rfl ?_); refine Kd.R_lit (Kd.int .i64) _ 3 ?hg (N := 8) ?hd (xs := ([2, 3, 7, 12, 13, 1, 0] : List Int)) (inner := [.int .i64 2, .int .i64 3, .int .i64 7, .int .i64 12, .int .i64 13, .int .i64 1, .int .i64 0]) (ok := fun _ => True) (okp := fun _ => True) ?hr ?hp (fun _ hk => hk) trivial (Below.refl _ _) (Nat.le_refl _) (by simp) ?_; (case hd => rfl); (case hg => rfl); (case hr => first | (go_simp; done) | (go_simp; rfl)); (case hp => exact (Reps.one (show Kd.M (Kd.int .i64) _ _ _ 2 [.int .i64 2] from rfl) (Reps.one (show Kd.M (Kd.int .i64) _ _ _ 3 [.int .i64 3] from rfl) (Reps.one (show Kd.M (Kd.int .i64) _ _ _ 7 [.int .i64 7] from rfl) (Reps.one (show Kd.M (Kd.int .i64) _ _ _ 12 [.int .i64 12] from rfl) (Reps.one (show Kd.M (Kd.int .i64) _ _ _ 13 [.int .i64 13] from rfl) (Reps.one (show Kd.M (Kd.int .i64) _ _ _ 1 [.int .i64 1] from rfl) (Reps.one (show Kd.M (Kd.int .i64) _ _ _ 0 [.int .i64 0] from rfl) (Reps.none _ _))))))))); intro v582 w4 ho5 hb hg_ hnew_; clear hg_ hnew_; (first | rw [← Ny581.out] at ho5 | (simp only [Int.reduceToNat] at ho5; rw [← Ny581.out] at ho5)); have HO583 := aS_ (Kd.R_lower ho5 (below_size (bI_ HB HI580))); replace HB := aS_ (below_step (bI_ HB HI580) hb); replace HI580 := aS_ (IsS69.below (ss_ HI580) hb); clear hb ho5; obtain ⟨Ao6, co6, eo6⟩ := Kd.R_slice HO583.out; subst eo6) | ((with_reducible refine gg_ ?_); refine gc_ 59 (some 9) Tryz.func59 #[.pointer (some ⟨gb580, 0, none⟩), .slice Ao6 y581.length co6] ?_; (with_reducible refine (spec_l1Cur_among.calls gb580 l0 0 0 _ _ y581 t584 t585 t586 w _ ?side1 ?side2 ?side3 ?side4 ?side5 A2.out).mono ?_); (case side1 => exact ss_ HI580); (case side2 => exact bI_ HB HI580); (case side3 => exact cR_ HO583); (case side4 => exact (Kd.R_reads' HO583.out).2.1); (case side5 => exact far_slice (IsS69.own_ne HI580.out HO583.out (by decide))); rintro e w7 ⟨rfl, hi, hb, hk⟩; refine ⟨_, rfl, ?_⟩; replace HO583 := aS_ (Kd.R_mono (Kd.R_keep (IsS69.apart (show IsS69 w _ gb580 l0 0 0 from ss_ HI580) (rr_ HO583) (by decide)) hk (fun _ h => h.2)) (fun _ h => h.1)); replace HB := aS_ (hb); replace HI580 := aS_ (hi); (try clear hb); (try clear hk); (try clear hi)))
 go_ret
 exact ⟨eR_, bI_ HB HI580⟩
/-! ### impl_EmptyTable: function 25 -/
def impl_EmptyTable.f (a0 : Int) : Option (List Int × Bool) := (impl_isSize.f a0).bind fun t588 => (if t588 = true then ((impl_empty.f a0).bind fun t589 => (some (t589, true))) else (some (([] : List Int), false)))
set_option maxHeartbeats 8000000 in
set_option maxRecDepth 100000 in
theorem impl_EmptyTable.calls (a0 : Int) (r1 : List Int) (r2 : Bool) (w : World) (h : impl_EmptyTable.f a0 = some (r1, r2)) :
  Calls Tryz.prog 25 #[.int .i64 a0] w fun e w' => ∃ v0_ : Value, e = .returned (.tuple #[.agg #[v0_], .bool r2]) ∧ Kd.R (Kd.int .i64) 3 w' w.heap.size (fun _ => True) v0_ r1 ∧ Below w.heap.size w w' := by
 have hu26 := Tryz.underlying26
 have HB := aS_ (Below.refl w.heap.size w)
 have H : ((impl_isSize.f a0).bind fun t588 => (if t588 = true then ((impl_empty.f a0).bind fun t589 => (some (t589, true))) else (some (([] : List Int), false)))) = some (r1, r2) := h
 clear h
 replace H := bs_ H; obtain ⟨t588, A2, H⟩ := H
 replace H := it_ H; rcases H with ⟨rfl, H⟩ | ⟨rfl, H⟩
 ·replace H := bs_ H; obtain ⟨t589, A4, H⟩ := H
  simp only [Option.some.injEq, Prod.mk.injEq] at H
  obtain ⟨rfl, rfl⟩ := H
  go_enter Tryz.func25, Tryz.ntmps25
  go_wp2_with (first | ((with_reducible refine gg_ ?_); refine bx_ 2 #[.slice none 0 0] 26 ?_; intro gb587 hg w5 hbox hb; have BK587 := aS_ (hbox); have GW587 := gE_ HB hg; have GE587 := gE_ HB hg; replace HB := bE_ HB hb; clear hb hbox hg) | ((with_reducible refine gg_ ?_); refine gc_ 60 (some 5) Tryz.func60 #[.int .i64 a0] ?_; (with_reducible refine (impl_isSize.calls a0 true _ A2.out).mono ?_); rintro e w' ⟨rfl, ⟨nd, rfl⟩⟩; refine ⟨_, rfl, ?_⟩; (try (rw [drewN_self w5]; generalize hq_ : World.drewN w5 _ = w5; have n0_ : Aside0 (w5.heap[gb587]? = some (.cells #[.slice none 0 0] 26 (0, 0))) := ⟨by rw [← hq_]; exact (kk_ BK587)⟩; have n1_ : Aside0 (Below w.heap.size w w5) := ⟨by rw [← hq_]; exact (bb_ HB)⟩; clear BK587 HB hq_; have BK587 := n0_; have HB := n1_; clear n0_ n1_))) | ((with_reducible refine gg_ ?_); refine gc_ 42 (some 9) Tryz.func42 #[.int .i64 a0] ?_; (with_reducible refine (impl_empty.calls a0 t589 _ A4.out).mono ?_); rintro e w6 ⟨v590, rfl, ho0, hb⟩; refine ⟨_, rfl, ?_⟩; have HO591 := aS_ (Kd.R_lower ho0 (below_size (bb_ HB))); replace BK587 := kO_ BK587 hb; replace HB := bE_ HB hb; (try clear hb); (try clear ho0); obtain ⟨Ao7, co7, eo7⟩ := Kd.R_slice HO591.out; subst eo7; obtain ⟨hcz8_0, hfz8_0⟩ := c10_ BK587))
  refine bodyPost_ret (results_ct rfl _ _ gb587 26 #[.slice Ao7 t589.length co7] (0, 0) _ rfl (by (with_reducible repeat (first | refine kN_ ?_ _ | refine kD_ ?_ | refine kA_ ?_ _)); refine blk_put (cs := #[.slice none 0 0]) ?_ 0 _ rfl; (with_reducible repeat (first | refine kN_ ?_ _ | refine kD_ ?_ | refine kA_ ?_ _)); exact BK587.out) Tryz.underlying26 rfl (by kernel_rfl)) rfl ?_
  exact ⟨_, by first | rfl | (simp [errW_none, errW_some] <;> rfl) | (simp [*, errW_none, errW_some] <;> rfl), by (with_reducible repeat (first | apply rA_ | apply rN_ | apply rD_)); exact Kd.R_mono (Kd.R_far (p := ⟨gb587, 0, none⟩) (Kd.R_types HO591.out BK587.out (by decide)) (fun _ hk => hk.2) (.slice Ao7 t589.length co7)) (fun _ hk => trivial), bb_ HB⟩
 simp only [Option.some.injEq, Prod.mk.injEq] at H
 obtain ⟨rfl, rfl⟩ := H
 go_enter Tryz.func25, Tryz.ntmps25
 go_wp2_with (first | ((with_reducible refine gg_ ?_); refine bx_ 2 #[.slice none 0 0] 26 ?_; intro gb587 hg w9 hbox hb; have BK587 := aS_ (hbox); have GW587 := gE_ HB hg; have GE587 := gE_ HB hg; replace HB := bE_ HB hb; clear hb hbox hg) | ((with_reducible refine gg_ ?_); refine gc_ 60 (some 5) Tryz.func60 #[.int .i64 a0] ?_; (with_reducible refine (impl_isSize.calls a0 false _ A2.out).mono ?_); rintro e w' ⟨rfl, ⟨nd, rfl⟩⟩; refine ⟨_, rfl, ?_⟩; (try (rw [drewN_self w9]; generalize hq_ : World.drewN w9 _ = w9; have n0_ : Aside0 (w9.heap[gb587]? = some (.cells #[.slice none 0 0] 26 (0, 0))) := ⟨by rw [← hq_]; exact (kk_ BK587)⟩; have n1_ : Aside0 (Below w.heap.size w w9) := ⟨by rw [← hq_]; exact (bb_ HB)⟩; clear BK587 HB hq_; have BK587 := n0_; have HB := n1_; clear n0_ n1_)); obtain ⟨hcz10_0, hfz10_0⟩ := c10_ BK587))
 refine bodyPost_ret (results_ct rfl _ _ gb587 26 #[.slice none 0 0] (0, 0) _ rfl (by (with_reducible repeat (first | refine kN_ ?_ _ | refine kD_ ?_ | refine kA_ ?_ _)); refine blk_put (cs := #[.slice none 0 0]) ?_ 0 _ rfl; (with_reducible repeat (first | refine kN_ ?_ _ | refine kD_ ?_ | refine kA_ ?_ _)); exact BK587.out) Tryz.underlying26 rfl (by kernel_rfl)) rfl ?_
 exact ⟨_, by first | rfl | (simp [errW_none, errW_some] <;> rfl) | (simp [*, errW_none, errW_some] <;> rfl), by first | exact Kd.R_nil _ _ _ _ _ | exact Kd.N_nil _ _ _ _ _ | exact Kd.V_nil _ _ _ _ _ | exact Kd.Q_nil _ _ _ _ _ | exact Kd.S_nil _ _ _ _ _, bb_ HB⟩
/-! ### spec_EmptyTable: function 26 -/
def spec_EmptyTable.f (k : Nat) (a0 : Int) : Option (List Int × Bool) := (spec_prSize.f a0).bind fun t593 => (if t593 = true then ((spec_prEmpty.f k a0).bind fun t594 => (some (t594, true))) else (some (([] : List Int), false)))
theorem spec_EmptyTable.mono : ∀ a0 k, LeO (spec_EmptyTable.f k a0) (spec_EmptyTable.f (k + 1) a0) := by
 intro a0 k
 unfold spec_EmptyTable.f
 exact mo1_ spec_prEmpty.mono
set_option maxHeartbeats 8000000 in
set_option maxRecDepth 100000 in
theorem spec_EmptyTable.calls (k : Nat) (a0 : Int) (r1 : List Int) (r2 : Bool) (w : World) (h : spec_EmptyTable.f k a0 = some (r1, r2)) :
  Calls Tryz.prog 26 #[.int .i64 a0] w fun e w' => ∃ v0_ : Value, e = .returned (.tuple #[.agg #[v0_], .bool r2]) ∧ Kd.R (Kd.int .i64) 3 w' w.heap.size (fun _ => True) v0_ r1 ∧ Below w.heap.size w w' := by
 have hu26 := Tryz.underlying26
 have HB := aS_ (Below.refl w.heap.size w)
 have H : ((spec_prSize.f a0).bind fun t593 => (if t593 = true then ((spec_prEmpty.f k a0).bind fun t594 => (some (t594, true))) else (some (([] : List Int), false)))) = some (r1, r2) := h
 clear h
 replace H := bs_ H; obtain ⟨t593, A2, H⟩ := H
 replace H := it_ H; rcases H with ⟨rfl, H⟩ | ⟨rfl, H⟩
 ·replace H := bs_ H; obtain ⟨t594, A4, H⟩ := H
  simp only [Option.some.injEq, Prod.mk.injEq] at H
  obtain ⟨rfl, rfl⟩ := H
  go_enter Tryz.func26, Tryz.ntmps26
  go_wp2_with (first | ((with_reducible refine gg_ ?_); refine bx_ 2 #[.slice none 0 0] 26 ?_; intro gb592 hg w5 hbox hb; have BK592 := aS_ (hbox); have GW592 := gE_ HB hg; have GE592 := gE_ HB hg; replace HB := bE_ HB hb; clear hb hbox hg) | ((with_reducible refine gg_ ?_); refine gc_ 61 (some 5) Tryz.func61 #[.int .i64 a0] ?_; (with_reducible refine (spec_prSize.calls a0 true _ A2.out).mono ?_); rintro e w' ⟨rfl, ⟨nd, rfl⟩⟩; refine ⟨_, rfl, ?_⟩; (try (rw [drewN_self w5]; generalize hq_ : World.drewN w5 _ = w5; have n0_ : Aside0 (w5.heap[gb592]? = some (.cells #[.slice none 0 0] 26 (0, 0))) := ⟨by rw [← hq_]; exact (kk_ BK592)⟩; have n1_ : Aside0 (Below w.heap.size w w5) := ⟨by rw [← hq_]; exact (bb_ HB)⟩; clear BK592 HB hq_; have BK592 := n0_; have HB := n1_; clear n0_ n1_))) | ((with_reducible refine gg_ ?_); refine gc_ 36 (some 9) Tryz.func36 #[.int .i64 a0] ?_; (with_reducible refine (spec_prEmpty.calls k a0 t594 _ A4.out).mono ?_); rintro e w6 ⟨v595, rfl, ho0, hb⟩; refine ⟨_, rfl, ?_⟩; have HO596 := aS_ (Kd.R_lower ho0 (below_size (bb_ HB))); replace BK592 := kO_ BK592 hb; replace HB := bE_ HB hb; (try clear hb); (try clear ho0); obtain ⟨Ao7, co7, eo7⟩ := Kd.R_slice HO596.out; subst eo7; obtain ⟨hcz8_0, hfz8_0⟩ := c10_ BK592))
  refine bodyPost_ret (results_ct rfl _ _ gb592 26 #[.slice Ao7 t594.length co7] (0, 0) _ rfl (by (with_reducible repeat (first | refine kN_ ?_ _ | refine kD_ ?_ | refine kA_ ?_ _)); refine blk_put (cs := #[.slice none 0 0]) ?_ 0 _ rfl; (with_reducible repeat (first | refine kN_ ?_ _ | refine kD_ ?_ | refine kA_ ?_ _)); exact BK592.out) Tryz.underlying26 rfl (by kernel_rfl)) rfl ?_
  exact ⟨_, by first | rfl | (simp [errW_none, errW_some] <;> rfl) | (simp [*, errW_none, errW_some] <;> rfl), by (with_reducible repeat (first | apply rA_ | apply rN_ | apply rD_)); exact Kd.R_mono (Kd.R_far (p := ⟨gb592, 0, none⟩) (Kd.R_types HO596.out BK592.out (by decide)) (fun _ hk => hk.2) (.slice Ao7 t594.length co7)) (fun _ hk => trivial), bb_ HB⟩
 simp only [Option.some.injEq, Prod.mk.injEq] at H
 obtain ⟨rfl, rfl⟩ := H
 go_enter Tryz.func26, Tryz.ntmps26
 go_wp2_with (first | ((with_reducible refine gg_ ?_); refine bx_ 2 #[.slice none 0 0] 26 ?_; intro gb592 hg w9 hbox hb; have BK592 := aS_ (hbox); have GW592 := gE_ HB hg; have GE592 := gE_ HB hg; replace HB := bE_ HB hb; clear hb hbox hg) | ((with_reducible refine gg_ ?_); refine gc_ 61 (some 5) Tryz.func61 #[.int .i64 a0] ?_; (with_reducible refine (spec_prSize.calls a0 false _ A2.out).mono ?_); rintro e w' ⟨rfl, ⟨nd, rfl⟩⟩; refine ⟨_, rfl, ?_⟩; (try (rw [drewN_self w9]; generalize hq_ : World.drewN w9 _ = w9; have n0_ : Aside0 (w9.heap[gb592]? = some (.cells #[.slice none 0 0] 26 (0, 0))) := ⟨by rw [← hq_]; exact (kk_ BK592)⟩; have n1_ : Aside0 (Below w.heap.size w w9) := ⟨by rw [← hq_]; exact (bb_ HB)⟩; clear BK592 HB hq_; have BK592 := n0_; have HB := n1_; clear n0_ n1_)); obtain ⟨hcz10_0, hfz10_0⟩ := c10_ BK592))
 refine bodyPost_ret (results_ct rfl _ _ gb592 26 #[.slice none 0 0] (0, 0) _ rfl (by (with_reducible repeat (first | refine kN_ ?_ _ | refine kD_ ?_ | refine kA_ ?_ _)); refine blk_put (cs := #[.slice none 0 0]) ?_ 0 _ rfl; (with_reducible repeat (first | refine kN_ ?_ _ | refine kD_ ?_ | refine kA_ ?_ _)); exact BK592.out) Tryz.underlying26 rfl (by kernel_rfl)) rfl ?_
 exact ⟨_, by first | rfl | (simp [errW_none, errW_some] <;> rfl) | (simp [*, errW_none, errW_some] <;> rfl), by first | exact Kd.R_nil _ _ _ _ _ | exact Kd.N_nil _ _ _ _ _ | exact Kd.V_nil _ _ _ _ _ | exact Kd.Q_nil _ _ _ _ _ | exact Kd.S_nil _ _ _ _ _, bb_ HB⟩
end Go.Proofs.YteakjjimkagmkaaGreatDoor.G
namespace Go.Proofs.YteakjjimkagmkaaGreatDoor.G
open Go.RowKit Go.Proofs.YteakjjimkagmkaaGreatDoorW.PrintWords Go.Proofs.YteakjjimkagmkaaGreatDoorW.PrintLast Go.Proofs.YteakjjimkagmkaaGreatDoorW.PrintMore
def insL (l S : List Int) (rec : List Int → Option Int) : List Int → Int → Bool → Option Int
  | [], m, b => some (if b = true then 1 else m)
  | x :: r, m, b => if x ∈ S then insL l S rec r m b else if comesF l S x = true then (rec (S ++ [x])).bind fun v => insL l S rec r (wrap64 (m + v)) false else insL l S rec r m false
def insV (l ks : List Int) : Nat → List Int → Option Int
  | 0, _ => none
  | d + 1, S => insL l S (insV l ks d) ks 0 true
def costI (m : Nat) : Nat → Nat
  | 0 => 0
  | d + 1 => m * (2 + costI m d)
theorem C_gb {w W : World} {A : Option Addr} {n b : Nat} {xs : List Int} (h : Kd.C (Kd.int .i64) w A n xs) (hg : w.grownBy W (some b)) (hf : ∀ ad, A = some ad → ad.block ≠ b) : Kd.C (Kd.int .i64) W A n xs :=
  Kd.C_keep (g := b) 0 h ⟨hg.size, fun i hi hne _ => hg.block i hi (fun e => hne (Option.some.inj e))⟩ (fun ad e _ => hf ad e)
theorem drop_cons' {l : List Int} {q : Nat} (h : q < l.length) : l.drop q = l.getD q 0 :: l.drop (q + 1) := by
  rw [List.drop_eq_getElem_cons h, List.getD_eq_getElem?_getD, List.getElem?_eq_getElem h]; rfl
theorem getD_mem' {l : List Int} {q : Nat} (h : q < l.length) : l.getD q 0 ∈ l := by
  rw [List.getD_eq_getElem?_getD, List.getElem?_eq_getElem h]; exact List.getElem_mem h
set_option maxHeartbeats 8000000 in
set_option maxRecDepth 100000 in
theorem insC (A : Option Addr) (c0 : Nat) (l : List Int) (AL : Option Addr) (cL : Nat) (ks : List Int) (b : Nat)
    (hc : l.length ≤ c0) (hcL : ks.length ≤ cL) (h1 : 1 ≤ l.length) (h2 : l.length ≤ 1000) (hk2 : ks.length ≤ 1000) (hA : ∀ ad, A = some ad → ad.block ≠ b) (hAL : ∀ ad, AL = some ad → ad.block ≠ b)
    (hcells : ∀ j, j < l.length → -1 ≤ l.getD j 0 ∧ l.getD j 0 ≤ 999)
    (hks : ∀ x, x ∈ ks → 0 ≤ x ∧ x ≤ 999 ∧ slices_Index_int_int.f 2000 l x = some (atK l x) ∧ impl_Table_cost.f l (atK l x) = some (cstK l x : Int) ∧ cstK l x ≤ 1000) :
    ∀ (d : Nat) (S : List Int) (v : Int) (n : Nat) (w : World), Kd.C (Kd.int .i64) w A l.length l → Kd.C (Kd.int .i64) w AL ks.length ks → MapIs Tryz.prog 3 4 w b n S → n + costI ks.length d < maxLen → insV l ks d S = some v →
    Calls Tryz.prog 33 #[.agg #[.slice A l.length c0], .slice AL ks.length cL, .map (some b)] w fun e w' => e = .returned (.int .i64 v) ∧ w.grownBy w' (some b) ∧ ∃ n', n' ≤ n + costI ks.length d ∧ MapIs Tryz.prog 3 4 w' b n' S := by
  intro d
  induction d with
  | zero =>
    intro S v n w hr hrL hm hn hv
    cases hv
  | succ d ih =>
    intro S v n w hr hrL hm hn hv
    have IH := Aside0.mk ih
    have HR := Aside0.mk hr
    have HRL := Aside0.mk hrL
    have HM := Aside0.mk hm
    have HN := Aside0.mk hn
    have HV : Aside0 (insL l S (insV l ks d) (ks.drop 0) 0 true = some v) := ⟨hv⟩
    have HH := Aside0.mk (show l.length ≤ c0 ∧ ks.length ≤ cL ∧ 1 ≤ l.length ∧ l.length ≤ 1000 ∧ ks.length ≤ 1000 from ⟨hc, hcL, h1, h2, hk2⟩)
    have HA := Aside0.mk hA
    have HAL := Aside0.mk hAL
    have HCE := Aside0.mk hcells
    have HKS := Aside0.mk hks
    have HB := Aside0.mk (Below.refl w.heap.size w)
    clear ih hr hrL hm hn hv hc hcL h1 h2 hk2 hA hAL hcells hks
    go_enter Tryz.func33, Tryz.ntmps33
    go_wp2_with ((with_reducible refine gate_dst (N := 3) rfl ?_); refine box_event ?hg (N := 3) ?hd (cs := #[.slice A l.length c0]) (t := 26) ?hr ?_; (case hd => rfl); (case hg => rfl); (case hr => first | (go_simp; done) | (go_simp; rfl)); intro gb hg w4 hbox hb; have nB_ := Aside0.mk (below_step HB.out hb); have BK := Aside0.mk hbox; have GE := Aside0.mk ((by rw [hg]; exact below_size HB.out) : w.heap.size ≤ gb); clear HB; have HB := nB_; clear nB_ hb hbox hg)
    have HGB := Aside0.mk (show gb ≠ b from fun e => by have := HM.out.lt; have := GE.out; omega)
    have HG0 := Aside0.mk (grown_of_below HB.out (some b))
    have HM0 := Aside0.mk (HM.out.below HM.out.lt HB.out)
    go_loopg [7, 8, 13] ks.length (fun gg v7 v8 v13 wr => ∃ (q m' : Nat) (m : Int) (bb : Bool), v7 = .int .i64 m ∧ v8 = .bool bb ∧ v13 = .int .i64 (q : Int) ∧ Aside0 (insL l S (insV l ks d) (ks.drop q) m bb = some v) ∧ Aside0 (q ≤ ks.length) ∧ Aside0 (ks.length - q ≤ gg)
      ∧ Aside0 (w.grownBy wr (some b)) ∧ Aside0 (wr.heap[gb]? = some (.cells #[.slice A l.length c0] 26 (0, 0))) ∧ Aside0 (MapIs Tryz.prog 3 4 wr b m' S) ∧ Aside0 (m' ≤ n + q * (2 + costI ks.length d)))
    case atStart => exact ⟨0, n, 0, true, rfl, rfl, rfl, HV, ⟨Nat.zero_le _⟩, ⟨by omega⟩, HG0, BK, HM0, ⟨by omega⟩⟩
    case round =>
      clear HG0 BK HM0 HV HB HM
      obtain ⟨q, m', m, bb, rfl, rfl, rfl, HV, HQ, HG, GB, BK, HM, HMN⟩ := hrel
      obtain ⟨z, hz⟩ : ∃ z : Int, z = (q : Int) := ⟨_, rfl⟩
      rw [← hz]
      have HZ := Aside0.mk hz
      by_cases hlt : q < ks.length
      · have c1 : decide (z < (ks.length : Int)) = true := decide_eq_true (by omega)
        have H := HV.out
        rw [drop_cons' hlt, insL] at H
        have p1 : 0 ≤ z := by omega
        have p2 : z < (ks.length : Int) := by omega
        obtain ⟨ad, eA, hx⟩ := Kd.at_int (C_gb HRL.out GB.out HAL.out) z p1 p2
        subst eA
        obtain ⟨x, hxe⟩ : ∃ x, x = ks.getD q 0 := ⟨_, rfl⟩
        have hrd : rd ks z = x := by rw [hz, rd, Int.toNat_natCast, hxe]
        rw [hrd] at hx
        rw [← hxe] at H
        have hmem : x ∈ ks := hxe ▸ getD_mem' hlt
        have HX := Aside0.mk (HKS.out x hmem)
        have hkw : (Lit.int .i64 x).wf = true := by
          have := HX.out
          simp only [Lit.wf, Bool.and_eq_true, decide_eq_true_eq]
          have e1 : IntKind.i64.min = -9223372036854775808 := by decide
          have e2 : IntKind.i64.max = 9223372036854775807 := by decide
          rw [e1, e2]; omega
        have HKW := Aside0.mk hkw
        have hlk := MapIs.look (T := 51) (K := 3) (E := 4) Tryz.underlying51 Tryz.underlying3 Tryz.underlying4 HM.out (mp_zero wr) hkw
        have hcm := comesC A c0 l x (atK l x) (cstK l x) 2000 b m' S wr (C_gb HR.out GB.out HA.out) HH.out.1 HM.out HH.out.2.2.1 HH.out.2.2.2.1 HCE.out HX.out.1 HX.out.2.1 HX.out.2.2.1 HX.out.2.2.2.1 HX.out.2.2.2.2
        have hce : comesF l S x = (wayS l S x (cstK l x) 0 && !decide (x ∈ S)) := rfl
        rw [← hce] at hcm
        have hcz : wr.cell? ⟨gb, 0, none⟩ = some (.slice A l.length c0) := (blk_cell BK.out 0).trans rfl
        have q1 := eq_true p1
        have q2 := eq_true p2
        by_cases hs : x ∈ S
        · rw [if_pos hs] at H
          have H' := Aside0.mk H
          rw [decide_eq_true hs] at hlk
          clear hz H p1 p2 hxe hrd hmem hkw hcm hce hs
          go_wp2
          go_roundg (gk - 1)
          case measure => have := HG.out; omega
          case rel => exact ⟨q + 1, m', m, bb, rfl, rfl, by have h1 := HZ.out; have h2 := HH.out; have h3 : wrap64 (z + 1) = ((q + 1 : Nat) : Int) := (by unfold wrap64; omega); rw [h3], H', ⟨by omega⟩, ⟨by have := HG.out; omega⟩, GB, BK, HM, ⟨by have := HMN.out; rw [Nat.add_mul]; omega⟩⟩
        · rw [if_neg hs] at H
          have HS := Aside0.mk hs
          rw [decide_eq_false hs] at hlk
          have hcall := Aside0.mk hcm
          clear hcm
          cases hc : comesF l S x with
          | false =>
            rw [hc, if_neg (by decide)] at H
            rw [hc] at hcall
            have H' := Aside0.mk H
            clear hz H p1 p2 hxe hrd hmem hkw hce hs hc
            go_wp2_with (go_at_call 65; refine hcall.out.mono ?_; rintro e w6 ⟨rfl, hb⟩)
            have nM := Aside0.mk (HM.out.below HM.out.lt hb)
            have nX := Aside0.mk ((hb.block gb (blk_lt BK.out)).trans BK.out)
            have nG := Aside0.mk (GB.out.trans (grown_of_below hb (some b)))
            clear HM BK GB hb hcall
            go_roundg (gk - 1)
            case measure => have := HG.out; omega
            case rel => exact ⟨q + 1, m', m, false, rfl, rfl, by have h1 := HZ.out; have h2 := HH.out; have h3 : wrap64 (z + 1) = ((q + 1 : Nat) : Int) := (by unfold wrap64; omega); rw [h3], H', ⟨by omega⟩, ⟨by have := HG.out; omega⟩, nG, nX, nM, ⟨by have := HMN.out; rw [Nat.add_mul]; omega⟩⟩
          | true =>
            rw [hc, if_pos rfl] at H
            rw [hc] at hcall
            obtain ⟨v1, hv1, H⟩ := Option.bind_eq_some_iff.mp H
            have HV1 := Aside0.mk hv1
            have H' := Aside0.mk H
            clear hz H p1 p2 hxe hrd hmem hkw hce hs hc hv1
            go_upto_region 8 with (go_at_call 65; refine hcall.out.mono ?_; rintro e w6 ⟨rfl, hb⟩)
            have nM := Aside0.mk (HM.out.below HM.out.lt hb)
            have nX := Aside0.mk ((hb.block gb (blk_lt BK.out)).trans BK.out)
            have nG := Aside0.mk (GB.out.trans (grown_of_below hb (some b)))
            clear HM BK GB hb hcall hlk hcz hx H HV
            have HBD := Aside0.mk (show m' + 2 + costI ks.length d < maxLen ∧ m' + 2 + costI ks.length d ≤ n + (q + 1) * (2 + costI ks.length d) by
              have h1 := HMN.out
              have h2 := HN.out
              have h3 : (q + 1) * (2 + costI ks.length d) ≤ ks.length * (2 + costI ks.length d) := Nat.mul_le_mul_right _ (by omega)
              rw [costI] at h2
              have h4 : (q + 1) * (2 + costI ks.length d) = q * (2 + costI ks.length d) + (2 + costI ks.length d) := by rw [Nat.add_mul]; omega
              omega)
            obtain ⟨w7, hup, hM7, hg7⟩ := MapIs.put (T := 51) (K := 3) (E := 4) Tryz.underlying51 Tryz.underlying3 Tryz.underlying4 nM.out (by have := HBD.out; omega) HKW.out
            have hne : some gb ≠ some b := fun e => HGB.out (Option.some.inj e)
            have BK := Aside0.mk (blk_grown nX.out hg7 hne)
            have GB := Aside0.mk (nG.out.trans hg7)
            have HM := Aside0.mk hM7
            have hcz : w7.cell? ⟨gb, 0, none⟩ = some (.slice A l.length c0) := (blk_cell BK.out 0).trans rfl
            clear nM nX nG hM7 hg7 hne
            go_upto_region 10 with (go_at_call 33; refine (IH.out (S ++ [x]) v1 (m' + 1) _ (C_gb HR.out GB.out HA.out) (C_gb HRL.out GB.out HAL.out) HM.out (by have := HBD.out; omega) HV1.out).mono ?_; rintro e w8 ⟨rfl, hg8, hm8⟩)
            obtain ⟨m8, hm8n, hM8⟩ := hm8
            obtain ⟨w9, hun, hM9, hg9⟩ := MapIs.unput (T := 51) (K := 3) (E := 4) Tryz.underlying51 Tryz.underlying3 Tryz.underlying4 hM8 (by have := HBD.out; omega) HKW.out
            have hne : some gb ≠ some b := fun e => HGB.out (Option.some.inj e)
            have nX := Aside0.mk (blk_grown (blk_grown BK.out hg8 hne) hg9 hne)
            have nG := Aside0.mk ((GB.out.trans hg8).trans hg9)
            have nM := Aside0.mk (hM9.congr (S' := S) (fun y => by
              simp only [List.mem_filter, List.mem_append, List.mem_singleton, Bool.not_eq_true', decide_eq_false_iff_not]
              constructor
              · rintro ⟨h1 | h1, h2⟩
                · exact h1
                · exact absurd h1 h2
              · intro h1
                exact ⟨Or.inl h1, fun e => HS.out (e ▸ h1)⟩))
            have HM8 := Aside0.mk hm8n
            clear HM BK GB hg8 hM8 hM9 hg9 hne hcz hup hm8n
            go_wp2
            go_roundg (gk - 1)
            case measure => have := HG.out; omega
            case rel => exact ⟨q + 1, m8 + 1, wrap64 (m + v1), false, rfl, rfl, by have h1 := HZ.out; have h2 := HH.out; have h3 : wrap64 (z + 1) = ((q + 1 : Nat) : Int) := (by unfold wrap64; omega); rw [h3], H', ⟨by omega⟩, ⟨by have := HG.out; omega⟩, nG, nX, nM, ⟨by have := HM8.out; have := HBD.out; omega⟩⟩
      · have c1 : decide (z < (ks.length : Int)) = false := decide_eq_false (by omega)
        have H := HV.out
        rw [List.drop_eq_nil_of_le (by omega), insL] at H
        obtain rfl := Option.some.inj H
        have HFN := Aside0.mk (show m' ≤ n + costI ks.length (d + 1) by have h1 := HMN.out; have : q = ks.length := (by have := HQ.out; omega); rw [this] at h1; rw [costI]; exact h1)
        clear hz H
        cases bb with
        | true =>
          go_wp2
          go_ret
          exact ⟨rfl, GB.out, m', HFN.out, HM.out⟩
        | false =>
          go_wp2
          go_ret
          exact ⟨rfl, GB.out, m', HFN.out, HM.out⟩
theorem MapIs.drew' {P : Program} {K E : TypeId} {W : World} {b n : Nat} {S : List Int} (h : MapIs P K E W b n S) : MapIs P K E W.drew b n S := h.below h.lt (below_drew (Below.refl _ _))
theorem C_block {w : World} {A : Option Addr} {n : Nat} {xs : List Int} (h : Kd.C (Kd.int .i64) w A n xs) (hn : 1 ≤ n) : ∀ ad, A = some ad → ad.block < w.heap.size := by
  intro ad e
  obtain ⟨ad', e', hx⟩ := Kd.at_int h 0 (by omega) (by omega)
  rw [e] at e'
  cases e'
  have := World.block_lt_of_cell? _ _ hx
  simpa [Addr.add] using this
def okTab (l : List Int) : Bool := decide (1 ≤ l.length) && decide (l.length ≤ 1000) && l.all cellOk && (keysZ l).all (keyOk l)
def impl_CountInsertions.f (k : Nat) (l0_0 : List Int) : Option (Int × Bool) := (impl_isTable.f k l0_0).bind fun t => if t = true then (if okTab l0_0 = true then (if 7 < (keysZ l0_0).length then some (0, false) else (insV l0_0 (keysZ l0_0) 9 []).map fun v => (v, true)) else none) else some (0, false)
theorem impl_CountInsertions.mono : ∀ a0 k, LeO (impl_CountInsertions.f k a0) (impl_CountInsertions.f (k + 1) a0) := by
  intro a0 k
  unfold impl_CountInsertions.f
  exact LeO.bind (impl_isTable.mono _ _) (fun _ => LeO.refl _)
theorem costI_mono {m m' : Nat} (h : m ≤ m') : ∀ d, costI m d ≤ costI m' d
  | 0 => Nat.le_refl _
  | d + 1 => by
    have := costI_mono h d
    rw [costI, costI]
    exact Nat.mul_le_mul h (by omega)
set_option maxHeartbeats 8000000 in
set_option maxRecDepth 100000 in
theorem impl_CountInsertions.calls (k : Nat) (A0_0 : Option Addr) (c0_0 : Nat) (l0_0 : List Int) (r1 : Int) (r2 : Bool) (w : World) (hr0_0 : Kd.C (Kd.int .i64) w A0_0 l0_0.length l0_0) (hc0_0 : l0_0.length ≤ c0_0) (h : impl_CountInsertions.f k l0_0 = some (r1, r2)) :
    Calls Tryz.prog 8 #[.agg #[.slice A0_0 l0_0.length c0_0]] w fun e w' => e = .returned (.tuple #[.int .i64 r1, .bool r2]) ∧ Below w.heap.size w w' := by
  unfold impl_CountInsertions.f at h
  obtain ⟨t, ht, h⟩ := Option.bind_eq_some_iff.mp h
  have HT := Aside0.mk ht
  have HR := Aside0.mk hr0_0
  have HC := Aside0.mk hc0_0
  have HB := Aside0.mk (Below.refl w.heap.size w)
  clear ht hr0_0 hc0_0
  cases t with
  | false =>
    rw [if_neg (by decide)] at h
    cases h
    go_enter Tryz.func8, Tryz.ntmps8
    go_wp2_with (first
      | ((with_reducible refine gate_dst (N := 1) rfl ?_); refine box_event ?hg (N := 1) ?hd (cs := #[.slice A0_0 l0_0.length c0_0]) (t := 26) ?hr ?_; (case hd => rfl); (case hg => rfl); (case hr => first | (go_simp; done) | (go_simp; rfl)); intro gb hg w4 hbox hb; have nB_ := Aside0.mk (below_step HB.out hb); have BK := Aside0.mk hbox; clear HB; have HB := nB_; clear nB_ hb hbox hg; have hcz := (blk_cell BK.out 0).trans rfl)
      | (go_at_call 28; refine (impl_isTable.calls k _ _ l0_0 false _ ?s1 HC.out HT.out).mono ?_; (case s1 => exact Kd.C_below HR.out HB.out); rintro e w5 ⟨rfl, hb⟩; have nB_ := Aside0.mk (below_step HB.out hb); clear HB hb; have HB := nB_; clear nB_))
    go_ret2
    exact ⟨rfl, HB.out⟩
  | true =>
    rw [if_pos rfl] at h
    by_cases hok : okTab l0_0 = true
    · rw [if_pos hok] at h
      unfold okTab at hok
      simp only [Bool.and_eq_true, decide_eq_true_eq] at hok
      obtain ⟨⟨⟨h1, h2⟩, hcl⟩, hkl⟩ := hok
      have hcells : ∀ j, j < l0_0.length → -1 ≤ l0_0.getD j 0 ∧ l0_0.getD j 0 ≤ 999 := fun j hj => by
        have := List.all_eq_true.mp hcl _ (getD_mem' hj)
        simpa [cellOk] using this
      have hks : ∀ x, x ∈ keysZ l0_0 → 0 ≤ x ∧ x ≤ 999 ∧ slices_Index_int_int.f 2000 l0_0 x = some (atK l0_0 x) ∧ impl_Table_cost.f l0_0 (atK l0_0 x) = some (cstK l0_0 x : Int) ∧ cstK l0_0 x ≤ 1000 := fun x hx => by
        have := List.all_eq_true.mp hkl _ hx
        simp only [keyOk, Bool.and_eq_true, decide_eq_true_eq] at this
        exact ⟨this.1.1.1.1, this.1.1.1.2, this.1.1.2, this.1.2, this.2⟩
      have hkf : impl_Table_keys.f l0_0 = some (keysZ l0_0) := by unfold impl_Table_keys.f; rw [if_pos ⟨h1, by omega⟩]
      have hkln := Nat.le_trans (kz_len l0_0) h2
      obtain ⟨ks, hk⟩ : ∃ ks, ks = keysZ l0_0 := ⟨_, rfl⟩
      rw [← hk] at h hks hkf hkln
      have HS := Aside0.mk hks
      have HCE := Aside0.mk hcells
      have HL := Aside0.mk (And.intro h1 (And.intro h2 hkln))
      have HKF := Aside0.mk hkf
      clear hks hcells h1 h2 hkf hcl hkl hk hkln
      by_cases h7 : 7 < ks.length
      · rw [if_pos h7] at h
        cases h
        have d7 : decide ((7 : Int) < (ks.length : Int)) = true := decide_eq_true (by omega)
        clear h7
        go_enter Tryz.func8, Tryz.ntmps8
        go_wp2_with (first
          | ((with_reducible refine gate_dst (N := 1) rfl ?_); refine box_event ?hg (N := 1) ?hd (cs := #[.slice A0_0 l0_0.length c0_0]) (t := 26) ?hr ?_; (case hd => rfl); (case hg => rfl); (case hr => first | (go_simp; done) | (go_simp; rfl)); intro gb hg w4 hbox hb; have nB_ := Aside0.mk (below_step HB.out hb); have BK := Aside0.mk hbox; clear HB; have HB := nB_; clear nB_ hb hbox hg; have hcz := (blk_cell BK.out 0).trans rfl)
          | (go_at_call 28; refine (impl_isTable.calls k _ _ l0_0 true _ ?s1 HC.out HT.out).mono ?_; (case s1 => exact Kd.C_below HR.out HB.out); rintro e w5 ⟨rfl, hb⟩; have nB_ := Aside0.mk (below_step HB.out hb); have nK_ := Aside0.mk (blk_below (g := gb) BK.out hb); clear HB BK hb; have HB := nB_; have BK := nK_; clear nB_ nK_; have hcz5 := (blk_cell BK.out 0).trans rfl)
          | (go_at_call 32; refine (impl_Table_keys.calls _ _ l0_0 ks _ ?s1 HC.out HKF.out).mono ?_; (case s1 => exact Kd.C_below HR.out HB.out); rintro e w6 ⟨v6, rfl, hk, hb⟩; obtain ⟨Al, cl, rfl⟩ := Kd.R_slice hk; have nB_ := Aside0.mk (below_step HB.out hb); have nK_ := Aside0.mk (blk_below (g := gb) BK.out hb); clear HB BK hb hk; have HB := nB_; have BK := nK_; clear nB_ nK_; have hcz6 := (blk_cell BK.out 0).trans rfl))
        go_ret2
        exact ⟨rfl, HB.out⟩
      · rw [if_neg h7] at h
        obtain ⟨v, hv, e⟩ := Option.map_eq_some_iff.1 h
        cases e
        have HV := Aside0.mk hv
        have H7 := Aside0.mk h7
        have d7 : decide ((7 : Int) < (ks.length : Int)) = false := decide_eq_false (by omega)
        have hmm := @run_makeMap Tryz.prog
        have HCO := Aside0.mk (show 0 + costI ks.length 9 < maxLen by have h1 := costI_mono (show ks.length ≤ 7 by omega) 9; have h2 : costI 7 9 < maxLen := (by decide); omega)
        clear h7 hv h
        go_enter Tryz.func8, Tryz.ntmps8
        go_upto_region 3 with (first
          | ((with_reducible refine gate_dst (N := 1) rfl ?_); refine box_event ?hg (N := 1) ?hd (cs := #[.slice A0_0 l0_0.length c0_0]) (t := 26) ?hr ?_; (case hd => rfl); (case hg => rfl); (case hr => first | (go_simp; done) | (go_simp; rfl)); intro gb hg w4 hbox hb; have nB_ := Aside0.mk (below_step HB.out hb); have BK := Aside0.mk hbox; clear HB; have HB := nB_; clear nB_ hb hbox hg; have hcz := (blk_cell BK.out 0).trans rfl)
          | (go_at_call 28; refine (impl_isTable.calls k _ _ l0_0 true _ ?s1 HC.out HT.out).mono ?_; (case s1 => exact Kd.C_below HR.out HB.out); rintro e w5 ⟨rfl, hb⟩; have nB_ := Aside0.mk (below_step HB.out hb); have nK_ := Aside0.mk (blk_below (g := gb) BK.out hb); clear HB BK hb; have HB := nB_; have BK := nK_; clear nB_ nK_; have hcz5 := (blk_cell BK.out 0).trans rfl)
          | (go_at_call 32; refine (impl_Table_keys.calls _ _ l0_0 ks _ ?s1 HC.out HKF.out).mono ?_; (case s1 => exact Kd.C_below HR.out HB.out); rintro e w6 ⟨v6, rfl, hk, hb⟩; obtain ⟨Al, cl, rfl⟩ := Kd.R_slice hk; have nB_ := Aside0.mk (below_step HB.out hb); have nK_ := Aside0.mk (blk_below (g := gb) BK.out hb); clear HB BK hb hk; have HB := nB_; have BK := nK_; clear nB_ nK_; have hcz6 := (blk_cell BK.out 0).trans rfl))
        clear hcz hcz5 hcz6
        have hcz := (blk_cell BK.out 0).trans rfl
        have hczA : ∀ o, (w6.alloc o).cell? { block := gb, off := 0 } = #[Value.slice A0_0 l0_0.length c0_0][0]? := fun o => pw_cell_below (below_alloc (Below.refl _ _) o) hcz
        go_region_with (first
          | (go_at_call 32; refine (impl_Table_keys.calls _ _ l0_0 ks _ ?s1 HC.out HKF.out).mono ?_; (case s1 => exact Kd.C_below HR.out (by repeat (first | (with_reducible first | exact HB.out | apply below_alloc | apply pw_below_drewN | apply below_drew1) | exact HB.out))); rintro e w7 ⟨v7, rfl, hk, hb⟩; obtain ⟨Al, cl, rfl⟩ := Kd.R_slice hk; have HK := Aside0.mk hk; have HK2 := Aside0.mk hb; have HB7 := Aside0.mk (below_step (by repeat (first | (with_reducible first | exact HB.out | apply below_alloc | apply pw_below_drewN | apply below_drew1) | exact HB.out)) hb); have nK_ := Aside0.mk (blk_below (g := gb) (o := .cells #[.slice A0_0 l0_0.length c0_0] 26 (0, 0)) (by (with_reducible repeat (first | refine blk_drewN ?_ _ | refine blk_drew ?_ | refine blk_alloc ?_ _)); exact BK.out) hb); have hcz7 := (blk_cell nK_.out 0).trans rfl; have hczA7 : ∀ o, (w7.alloc o).cell? { block := gb, off := 0 } = #[Value.slice A0_0 l0_0.length c0_0][0]? := (fun o => pw_cell_below (below_alloc (Below.refl _ _) o) hcz7); clear hk hb)
          | (go_at_call 33; refine (insC A0_0 c0_0 l0_0 _ _ ks _ HC.out ?hcl HL.out.1 HL.out.2.1 HL.out.2.2 ?hA ?hAL HCE.out HS.out 9 [] _ 0 _ ?c1 ?c2 ?c3 HCO.out HV.out).mono ?_; (case hcl => exact (Kd.R_reads' HK.out).2.1); (case hA => intro ad_ e_ hab; have h1 := C_block HR.out HL.out.1 ad_ e_; rw [hab] at h1; have h2 := below_size HB.out; have h3 := below_size HK2.out; first | omega | (simp at h1 h3 <;> omega) | (simp at h1 <;> omega) | (simp at h3 <;> omega)); (case hAL => intro ad_ e_ hab; have h1 := Kd.R_base HK.out ad_.block (by rw [e_]; rfl); have h2 := Kd.R_lt HK.out ad_.block (by rw [e_]; rfl); rw [hab] at h1 h2; first | omega | (simp at h1 <;> omega) | (simp at h2 <;> omega)); (case c1 => exact Kd.C_below HR.out (by repeat (first | (with_reducible first | exact HB.out | exact HB7.out | apply below_alloc | apply pw_below_drewN | apply below_drew1) | exact HB7.out | exact HB.out))); (case c2 => repeat (first | exact (Kd.R_reads' HK.out).2.2 | refine Kd.C_alloc ?_ _ | refine Kd.C_drew ?_)); (case c3 => first | exact MapIs.made _ | exact MapIs.below (by first | exact MapIs.made _ | exact (MapIs.made _).drew' | exact (MapIs.made _).drew'.drew') (by first | omega | simp) HK2.out ); rintro e w9 ⟨rfl, hg, _⟩; have HF := Aside0.mk (show Below w.heap.size w w9 from Below.grown (by repeat (first | (with_reducible first | exact HB.out | exact HB7.out | apply below_alloc | apply pw_below_drewN | apply below_drew1) | exact HB7.out | exact HB.out)) hg (below_size (by repeat (first | (with_reducible first | exact HB.out | exact HB7.out | apply below_alloc | apply pw_below_drewN | apply below_drew1) | exact HB7.out | exact HB.out))) (fun k_ hk_ => by cases hk_; have h2 := below_size HB.out; have h3 := below_size HK2.out; first | omega | (simp at h3 <;> omega) | (simp <;> omega) | (simp at h3 ⊢ <;> omega))); clear hg))
        all_goals (go_wp2; go_ret2; exact ⟨rfl, HF.out⟩)
    · rw [if_neg hok] at h
      cases h
end Go.Proofs.YteakjjimkagmkaaGreatDoor.G
namespace Go.Proofs.YteakjjimkagmkaaGreatDoor.G
open Go.RowKit Go.Proofs.YteakjjimkagmkaaGreatDoorW.PrintWords Go.Proofs.YteakjjimkagmkaaGreatDoorW.PrintLast Go.Proofs.YteakjjimkagmkaaGreatDoorW.PrintMore
attribute [local go_sem] max2_int min2_int max_two min_two max_three min_three max_four min_four   -- for this text's walks alone
/-! ### laws_FnInsertionOrders: function 3 -/
mutual
def laws_FnInsertionOrders.j0 : Nat → List Int → List Int → Bool → List Int → Int → Bool → Bool → List Int → Option (Bool)
 | 0, _, _, _, _, _, _, _, _ => none
 | k + 1, x1, x6, x7, x14, x15, x16, x130, x602000 => if x130 = true then (some false) else (if x7 = true then ((impl_TableOf.f k (x602000.length : Int) x6).bind fun bt627 => (if bt627.2 = true then ((laws_jTable.f k bt627.1 x602000).bind fun t632 => (if t632 = true then (laws_FnInsertionOrders.j1 k x1 x6 x14 x15 x16 x602000) else (some false))) else (some false))) else (laws_FnInsertionOrders.j1 k x1 x6 x14 x15 x16 x602000))
def laws_FnInsertionOrders.j1 : Nat → List Int → List Int → List Int → Int → Bool → List Int → Option (Bool)
 | 0, _, _, _, _, _, _ => none
 | k + 1, x1, x6, x14, x15, x16, x602000 => if x16 = true then ((impl_DistancesOf.f k x14 x15).bind fun bt633 => (if bt633.2 = true then (laws_FnInsertionOrders.j2 k x1 x6 bt633.1 ((bt633.1.length : Int) != (x6.length : Int)) x602000) else (laws_FnInsertionOrders.j2 k x1 x6 bt633.1 true x602000))) else (laws_FnInsertionOrders.j4 k x1)
def laws_FnInsertionOrders.j4 : Nat → List Int → Option (Bool)
 | 0, _ => none
 | k + 1, x1 => (spec_DrawTableText.f k x1).bind fun t642 => ((impl_TableText.f k t642).bind fun bt646 => ((spec_TableText.f k t642).bind fun bt648 => (if (bt646.2 != bt648.2) = true then (laws_FnInsertionOrders.j5 k x1 bt646.1 bt646.2 true t642) else (laws_FnInsertionOrders.j5 k x1 bt646.1 bt646.2 (bt646.1.toList != bt648.1.toList) t642))))
def laws_FnInsertionOrders.j5 : Nat → List Int → ByteArray → Bool → Bool → List Int → Option (Bool)
 | 0, _, _, _, _, _ => none
 | k + 1, x1, x30, x31, x208, x646000 => if x208 = true then (some false) else (if x31 = true then ((impl_ParseTable.f k x30).bind fun bt650 => (if bt650.2 = true then ((laws_jTable.f k bt650.1 x646000).bind fun t655 => (if t655 = true then (laws_FnInsertionOrders.j6 k x1) else (some false))) else (some false))) else (laws_FnInsertionOrders.j6 k x1))
def laws_FnInsertionOrders.j6 : Nat → List Int → Option (Bool)
 | 0, _ => none
 | k + 1, x1 => (spec_DrawParseTable.f k x1).bind fun t656 => ((impl_ParseTable.f k t656).bind fun bt657 => ((spec_ParseTable.f k t656).bind fun bt662 => (if (bt657.2 != bt662.2) = true then (laws_FnInsertionOrders.j7 k x1 true) else ((laws_jTable.f k bt657.1 bt662.1).bind fun t667 => (laws_FnInsertionOrders.j7 k x1 (!t667))))))
def laws_FnInsertionOrders.j7 : Nat → List Int → Bool → Option (Bool)
 | 0, _, _ => none
 | k + 1, x1, x243 => if x243 = true then (some false) else ((spec_DrawEmptyTable.f x1).bind fun t668 => ((impl_EmptyTable.f t668).bind fun bt669 => ((spec_EmptyTable.f k t668).bind fun bt674 => (if (bt669.2 == bt674.2) = true then ((laws_jTable.f k bt669.1 bt674.1).bind fun t679 => (some t679)) else (some false)))))
def laws_FnInsertionOrders.j2 : Nat → List Int → List Int → List Int → Bool → List Int → Option (Bool)
 | 0, _, _, _, _, _ => none
 | k + 1, x1, x6, x22, x163, x602000 => if x163 = true then (some false) else (laws_FnInsertionOrders.l0 k x1 x22 x6 (x6.length : Int) 0 x602000)
def laws_FnInsertionOrders.l0 : Nat → List Int → List Int → List Int → Int → Int → List Int → Option (Bool)
 | 0, _, _, _, _, _, _ => none
 | k + 1, x1, x22, x164, x165, x166, x602000 => if x166 < x165 then (if 0 ≤ x166 then (if x166 < (x164.length : Int) then ((impl_FindKey.f k x602000 (rd x164 x166)).bind fun bt638 => (if bt638.2.2 = true then (if x166 < (x22.length : Int) then (if bt638.2.1 = (rd x22 x166) then (laws_FnInsertionOrders.l0 k x1 x22 x164 x165 (wrap64 (x166 + 1)) x602000) else (some false)) else (none)) else (some false))) else (none)) else (none)) else (laws_FnInsertionOrders.j4 k x1)
end
def laws_FnInsertionOrders.f (k : Nat) (l0 : List Int) (l1 : List Int) : Option (Bool) := (laws_big.f l0 l1).bind fun t597 => (if t597 = true then (some true) else ((spec_DrawFirstInsertion.f k l0).bind fun t598 => ((impl_FirstInsertion.f k t598).bind fun bt602 => ((spec_FirstInsertion.f k t598).bind fun bt606 => ((impl_CountInsertions.f k t598).bind fun bt610 => ((spec_CountInsertions.f k t598).bind fun bt612 => ((impl_StreetOf.f k t598).bind fun bt614 => ((spec_StreetOf.f k t598).bind fun bt619 => (if (bt602.2 != bt606.2) = true then (laws_FnInsertionOrders.j0 k l1 bt602.1 bt602.2 bt614.1 bt614.2.1 bt614.2.2 true t598) else ((laws_jSame.f k bt602.1 bt606.1).bind fun t624 => (if t624 = true then (if (bt610.2 != bt612.2) = true then (laws_FnInsertionOrders.j0 k l1 bt602.1 bt602.2 bt614.1 bt614.2.1 bt614.2.2 true t598) else (if bt610.1 = bt612.1 then (if (bt614.2.2 != bt619.2.2) = true then (laws_FnInsertionOrders.j0 k l1 bt602.1 bt602.2 bt614.1 bt614.2.1 bt614.2.2 true t598) else ((laws_jSame.f k bt614.1 bt619.1).bind fun t625 => (if t625 = true then (if bt614.2.1 = bt619.2.1 then ((impl_IsTable.f k t598).bind fun t626 => (if (bt602.2 != t626) = true then (laws_FnInsertionOrders.j0 k l1 bt602.1 bt602.2 bt614.1 bt614.2.1 bt614.2.2 true t598) else (if bt610.2 = true then (laws_FnInsertionOrders.j0 k l1 bt602.1 bt602.2 bt614.1 bt614.2.1 bt614.2.2 (decide (bt610.1 < 1)) t598) else (laws_FnInsertionOrders.j0 k l1 bt602.1 bt602.2 bt614.1 bt614.2.1 bt614.2.2 false t598)))) else (laws_FnInsertionOrders.j0 k l1 bt602.1 bt602.2 bt614.1 bt614.2.1 bt614.2.2 true t598)) else (laws_FnInsertionOrders.j0 k l1 bt602.1 bt602.2 bt614.1 bt614.2.1 bt614.2.2 true t598)))) else (laws_FnInsertionOrders.j0 k l1 bt602.1 bt602.2 bt614.1 bt614.2.1 bt614.2.2 true t598))) else (laws_FnInsertionOrders.j0 k l1 bt602.1 bt602.2 bt614.1 bt614.2.1 bt614.2.2 true t598))))))))))))
theorem laws_FnInsertionOrders.mono_l : ∀ k, (∀ y0 y1 y2 y3 y4 y5 y6 y7, LeO (laws_FnInsertionOrders.j0 k y0 y1 y2 y3 y4 y5 y6 y7) (laws_FnInsertionOrders.j0 (k + 1) y0 y1 y2 y3 y4 y5 y6 y7)) ∧ (∀ y0 y1 y2 y3 y4 y5, LeO (laws_FnInsertionOrders.j1 k y0 y1 y2 y3 y4 y5) (laws_FnInsertionOrders.j1 (k + 1) y0 y1 y2 y3 y4 y5)) ∧ (∀ y0, LeO (laws_FnInsertionOrders.j4 k y0) (laws_FnInsertionOrders.j4 (k + 1) y0)) ∧ (∀ y0 y1 y2 y3 y4, LeO (laws_FnInsertionOrders.j5 k y0 y1 y2 y3 y4) (laws_FnInsertionOrders.j5 (k + 1) y0 y1 y2 y3 y4)) ∧ (∀ y0, LeO (laws_FnInsertionOrders.j6 k y0) (laws_FnInsertionOrders.j6 (k + 1) y0)) ∧ (∀ y0 y1, LeO (laws_FnInsertionOrders.j7 k y0 y1) (laws_FnInsertionOrders.j7 (k + 1) y0 y1)) ∧ (∀ y0 y1 y2 y3 y4, LeO (laws_FnInsertionOrders.j2 k y0 y1 y2 y3 y4) (laws_FnInsertionOrders.j2 (k + 1) y0 y1 y2 y3 y4)) ∧ (∀ y0 y1 y2 y3 y4 y5, LeO (laws_FnInsertionOrders.l0 k y0 y1 y2 y3 y4 y5) (laws_FnInsertionOrders.l0 (k + 1) y0 y1 y2 y3 y4 y5))
 | 0 => ⟨fun _ _ _ _ _ _ _ _ r h => by simp [laws_FnInsertionOrders.j0] at h, fun _ _ _ _ _ _ r h => by simp [laws_FnInsertionOrders.j1] at h, fun _ r h => by simp [laws_FnInsertionOrders.j4] at h, fun _ _ _ _ _ r h => by simp [laws_FnInsertionOrders.j5] at h, fun _ r h => by simp [laws_FnInsertionOrders.j6] at h, fun _ _ r h => by simp [laws_FnInsertionOrders.j7] at h, fun _ _ _ _ _ r h => by simp [laws_FnInsertionOrders.j2] at h, fun _ _ _ _ _ _ r h => by simp [laws_FnInsertionOrders.l0] at h⟩
 | k + 1 => by
  obtain ⟨ih0, ih1, ih2, ih3, ih4, ih5, ih6, ih7⟩ := laws_FnInsertionOrders.mono_l k
  refine ⟨?_, ?_, ?_, ?_, ?_, ?_, ?_, ?_⟩
  ·intro y0 y1 y2 y3 y4 y5 y6 y7
   unfold laws_FnInsertionOrders.j0
   repeat' first
   | (with_reducible exact ih0 _ _ _ _ _ _ _ _)
   | (with_reducible exact ih1 _ _ _ _ _ _)
   | (with_reducible exact ih2 _)
   | (with_reducible exact ih3 _ _ _ _ _)
   | (with_reducible exact ih4 _)
   | (with_reducible exact ih5 _ _)
   | (with_reducible exact ih6 _ _ _ _ _)
   | (with_reducible exact ih7 _ _ _ _ _ _)
   | (with_reducible exact impl_CountInsertions.mono _ _)
   | (with_reducible exact impl_DistancesOf.mono _ _ _)
   | (with_reducible exact impl_FindKey.mono _ _ _)
   | (with_reducible exact impl_FirstInsertion.mono _ _)
   | (with_reducible exact impl_IsTable.mono _ _)
   | (with_reducible exact impl_ParseTable.mono _ _)
   | (with_reducible exact impl_StreetOf.mono _ _)
   | (with_reducible exact impl_TableOf.mono _ _ _)
   | (with_reducible exact impl_TableText.mono _ _)
   | (with_reducible exact laws_jSame.mono _ _ _)
   | (with_reducible exact laws_jTable.mono _ _ _)
   | (with_reducible exact spec_CountInsertions.mono _ _)
   | (with_reducible exact spec_DrawFirstInsertion.mono _ _)
   | (with_reducible exact spec_DrawParseTable.mono _ _)
   | (with_reducible exact spec_DrawTableText.mono _ _)
   | (with_reducible exact spec_EmptyTable.mono _ _)
   | (with_reducible exact spec_FirstInsertion.mono _ _)
   | (with_reducible exact spec_ParseTable.mono _ _)
   | (with_reducible exact spec_StreetOf.mono _ _)
   | (with_reducible exact spec_TableText.mono _ _)
   | (with_reducible exact LeO.refl _)
   | (with_reducible exact LeO.none _)
   | (with_reducible refine LeO.ite ?_ ?_)
   | (with_reducible refine LeO.bind ?_ (fun _ => ?_))
   | exact ih0 _ _ _ _ _ _ _ _
   | exact ih1 _ _ _ _ _ _
   | exact ih2 _
   | exact ih3 _ _ _ _ _
   | exact ih4 _
   | exact ih5 _ _
   | exact ih6 _ _ _ _ _
   | exact ih7 _ _ _ _ _ _
   | exact impl_CountInsertions.mono _ _
   | exact impl_DistancesOf.mono _ _ _
   | exact impl_FindKey.mono _ _ _
   | exact impl_FirstInsertion.mono _ _
   | exact impl_IsTable.mono _ _
   | exact impl_ParseTable.mono _ _
   | exact impl_StreetOf.mono _ _
   | exact impl_TableOf.mono _ _ _
   | exact impl_TableText.mono _ _
   | exact laws_jSame.mono _ _ _
   | exact laws_jTable.mono _ _ _
   | exact spec_CountInsertions.mono _ _
   | exact spec_DrawFirstInsertion.mono _ _
   | exact spec_DrawParseTable.mono _ _
   | exact spec_DrawTableText.mono _ _
   | exact spec_EmptyTable.mono _ _
   | exact spec_FirstInsertion.mono _ _
   | exact spec_ParseTable.mono _ _
   | exact spec_StreetOf.mono _ _
   | exact spec_TableText.mono _ _
   | exact LeO.none _
   | refine LeO.ite ?_ ?_
   | refine LeO.bind ?_ (fun _ => ?_)
  ·intro y0 y1 y2 y3 y4 y5
   unfold laws_FnInsertionOrders.j1
   repeat' first
   | (with_reducible exact ih0 _ _ _ _ _ _ _ _)
   | (with_reducible exact ih1 _ _ _ _ _ _)
   | (with_reducible exact ih2 _)
   | (with_reducible exact ih3 _ _ _ _ _)
   | (with_reducible exact ih4 _)
   | (with_reducible exact ih5 _ _)
   | (with_reducible exact ih6 _ _ _ _ _)
   | (with_reducible exact ih7 _ _ _ _ _ _)
   | (with_reducible exact impl_CountInsertions.mono _ _)
   | (with_reducible exact impl_DistancesOf.mono _ _ _)
   | (with_reducible exact impl_FindKey.mono _ _ _)
   | (with_reducible exact impl_FirstInsertion.mono _ _)
   | (with_reducible exact impl_IsTable.mono _ _)
   | (with_reducible exact impl_ParseTable.mono _ _)
   | (with_reducible exact impl_StreetOf.mono _ _)
   | (with_reducible exact impl_TableOf.mono _ _ _)
   | (with_reducible exact impl_TableText.mono _ _)
   | (with_reducible exact laws_jSame.mono _ _ _)
   | (with_reducible exact laws_jTable.mono _ _ _)
   | (with_reducible exact spec_CountInsertions.mono _ _)
   | (with_reducible exact spec_DrawFirstInsertion.mono _ _)
   | (with_reducible exact spec_DrawParseTable.mono _ _)
   | (with_reducible exact spec_DrawTableText.mono _ _)
   | (with_reducible exact spec_EmptyTable.mono _ _)
   | (with_reducible exact spec_FirstInsertion.mono _ _)
   | (with_reducible exact spec_ParseTable.mono _ _)
   | (with_reducible exact spec_StreetOf.mono _ _)
   | (with_reducible exact spec_TableText.mono _ _)
   | (with_reducible exact LeO.refl _)
   | (with_reducible exact LeO.none _)
   | (with_reducible refine LeO.ite ?_ ?_)
   | (with_reducible refine LeO.bind ?_ (fun _ => ?_))
   | exact ih0 _ _ _ _ _ _ _ _
   | exact ih1 _ _ _ _ _ _
   | exact ih2 _
   | exact ih3 _ _ _ _ _
   | exact ih4 _
   | exact ih5 _ _
   | exact ih6 _ _ _ _ _
   | exact ih7 _ _ _ _ _ _
   | exact impl_CountInsertions.mono _ _
   | exact impl_DistancesOf.mono _ _ _
   | exact impl_FindKey.mono _ _ _
   | exact impl_FirstInsertion.mono _ _
   | exact impl_IsTable.mono _ _
   | exact impl_ParseTable.mono _ _
   | exact impl_StreetOf.mono _ _
   | exact impl_TableOf.mono _ _ _
   | exact impl_TableText.mono _ _
   | exact laws_jSame.mono _ _ _
   | exact laws_jTable.mono _ _ _
   | exact spec_CountInsertions.mono _ _
   | exact spec_DrawFirstInsertion.mono _ _
   | exact spec_DrawParseTable.mono _ _
   | exact spec_DrawTableText.mono _ _
   | exact spec_EmptyTable.mono _ _
   | exact spec_FirstInsertion.mono _ _
   | exact spec_ParseTable.mono _ _
   | exact spec_StreetOf.mono _ _
   | exact spec_TableText.mono _ _
   | exact LeO.none _
   | refine LeO.ite ?_ ?_
   | refine LeO.bind ?_ (fun _ => ?_)
  ·intro y0
   unfold laws_FnInsertionOrders.j4
   repeat' first
   | (with_reducible exact ih0 _ _ _ _ _ _ _ _)
   | (with_reducible exact ih1 _ _ _ _ _ _)
   | (with_reducible exact ih2 _)
   | (with_reducible exact ih3 _ _ _ _ _)
   | (with_reducible exact ih4 _)
   | (with_reducible exact ih5 _ _)
   | (with_reducible exact ih6 _ _ _ _ _)
   | (with_reducible exact ih7 _ _ _ _ _ _)
   | (with_reducible exact impl_CountInsertions.mono _ _)
   | (with_reducible exact impl_DistancesOf.mono _ _ _)
   | (with_reducible exact impl_FindKey.mono _ _ _)
   | (with_reducible exact impl_FirstInsertion.mono _ _)
   | (with_reducible exact impl_IsTable.mono _ _)
   | (with_reducible exact impl_ParseTable.mono _ _)
   | (with_reducible exact impl_StreetOf.mono _ _)
   | (with_reducible exact impl_TableOf.mono _ _ _)
   | (with_reducible exact impl_TableText.mono _ _)
   | (with_reducible exact laws_jSame.mono _ _ _)
   | (with_reducible exact laws_jTable.mono _ _ _)
   | (with_reducible exact spec_CountInsertions.mono _ _)
   | (with_reducible exact spec_DrawFirstInsertion.mono _ _)
   | (with_reducible exact spec_DrawParseTable.mono _ _)
   | (with_reducible exact spec_DrawTableText.mono _ _)
   | (with_reducible exact spec_EmptyTable.mono _ _)
   | (with_reducible exact spec_FirstInsertion.mono _ _)
   | (with_reducible exact spec_ParseTable.mono _ _)
   | (with_reducible exact spec_StreetOf.mono _ _)
   | (with_reducible exact spec_TableText.mono _ _)
   | (with_reducible exact LeO.refl _)
   | (with_reducible exact LeO.none _)
   | (with_reducible refine LeO.ite ?_ ?_)
   | (with_reducible refine LeO.bind ?_ (fun _ => ?_))
   | exact ih0 _ _ _ _ _ _ _ _
   | exact ih1 _ _ _ _ _ _
   | exact ih2 _
   | exact ih3 _ _ _ _ _
   | exact ih4 _
   | exact ih5 _ _
   | exact ih6 _ _ _ _ _
   | exact ih7 _ _ _ _ _ _
   | exact impl_CountInsertions.mono _ _
   | exact impl_DistancesOf.mono _ _ _
   | exact impl_FindKey.mono _ _ _
   | exact impl_FirstInsertion.mono _ _
   | exact impl_IsTable.mono _ _
   | exact impl_ParseTable.mono _ _
   | exact impl_StreetOf.mono _ _
   | exact impl_TableOf.mono _ _ _
   | exact impl_TableText.mono _ _
   | exact laws_jSame.mono _ _ _
   | exact laws_jTable.mono _ _ _
   | exact spec_CountInsertions.mono _ _
   | exact spec_DrawFirstInsertion.mono _ _
   | exact spec_DrawParseTable.mono _ _
   | exact spec_DrawTableText.mono _ _
   | exact spec_EmptyTable.mono _ _
   | exact spec_FirstInsertion.mono _ _
   | exact spec_ParseTable.mono _ _
   | exact spec_StreetOf.mono _ _
   | exact spec_TableText.mono _ _
   | exact LeO.none _
   | refine LeO.ite ?_ ?_
   | refine LeO.bind ?_ (fun _ => ?_)
  ·intro y0 y1 y2 y3 y4
   unfold laws_FnInsertionOrders.j5
   repeat' first
   | (with_reducible exact ih0 _ _ _ _ _ _ _ _)
   | (with_reducible exact ih1 _ _ _ _ _ _)
   | (with_reducible exact ih2 _)
   | (with_reducible exact ih3 _ _ _ _ _)
   | (with_reducible exact ih4 _)
   | (with_reducible exact ih5 _ _)
   | (with_reducible exact ih6 _ _ _ _ _)
   | (with_reducible exact ih7 _ _ _ _ _ _)
   | (with_reducible exact impl_CountInsertions.mono _ _)
   | (with_reducible exact impl_DistancesOf.mono _ _ _)
   | (with_reducible exact impl_FindKey.mono _ _ _)
   | (with_reducible exact impl_FirstInsertion.mono _ _)
   | (with_reducible exact impl_IsTable.mono _ _)
   | (with_reducible exact impl_ParseTable.mono _ _)
   | (with_reducible exact impl_StreetOf.mono _ _)
   | (with_reducible exact impl_TableOf.mono _ _ _)
   | (with_reducible exact impl_TableText.mono _ _)
   | (with_reducible exact laws_jSame.mono _ _ _)
   | (with_reducible exact laws_jTable.mono _ _ _)
   | (with_reducible exact spec_CountInsertions.mono _ _)
   | (with_reducible exact spec_DrawFirstInsertion.mono _ _)
   | (with_reducible exact spec_DrawParseTable.mono _ _)
   | (with_reducible exact spec_DrawTableText.mono _ _)
   | (with_reducible exact spec_EmptyTable.mono _ _)
   | (with_reducible exact spec_FirstInsertion.mono _ _)
   | (with_reducible exact spec_ParseTable.mono _ _)
   | (with_reducible exact spec_StreetOf.mono _ _)
   | (with_reducible exact spec_TableText.mono _ _)
   | (with_reducible exact LeO.refl _)
   | (with_reducible exact LeO.none _)
   | (with_reducible refine LeO.ite ?_ ?_)
   | (with_reducible refine LeO.bind ?_ (fun _ => ?_))
   | exact ih0 _ _ _ _ _ _ _ _
   | exact ih1 _ _ _ _ _ _
   | exact ih2 _
   | exact ih3 _ _ _ _ _
   | exact ih4 _
   | exact ih5 _ _
   | exact ih6 _ _ _ _ _
   | exact ih7 _ _ _ _ _ _
   | exact impl_CountInsertions.mono _ _
   | exact impl_DistancesOf.mono _ _ _
   | exact impl_FindKey.mono _ _ _
   | exact impl_FirstInsertion.mono _ _
   | exact impl_IsTable.mono _ _
   | exact impl_ParseTable.mono _ _
   | exact impl_StreetOf.mono _ _
   | exact impl_TableOf.mono _ _ _
   | exact impl_TableText.mono _ _
   | exact laws_jSame.mono _ _ _
   | exact laws_jTable.mono _ _ _
   | exact spec_CountInsertions.mono _ _
   | exact spec_DrawFirstInsertion.mono _ _
   | exact spec_DrawParseTable.mono _ _
   | exact spec_DrawTableText.mono _ _
   | exact spec_EmptyTable.mono _ _
   | exact spec_FirstInsertion.mono _ _
   | exact spec_ParseTable.mono _ _
   | exact spec_StreetOf.mono _ _
   | exact spec_TableText.mono _ _
   | exact LeO.none _
   | refine LeO.ite ?_ ?_
   | refine LeO.bind ?_ (fun _ => ?_)
  ·intro y0
   unfold laws_FnInsertionOrders.j6
   repeat' first
   | (with_reducible exact ih0 _ _ _ _ _ _ _ _)
   | (with_reducible exact ih1 _ _ _ _ _ _)
   | (with_reducible exact ih2 _)
   | (with_reducible exact ih3 _ _ _ _ _)
   | (with_reducible exact ih4 _)
   | (with_reducible exact ih5 _ _)
   | (with_reducible exact ih6 _ _ _ _ _)
   | (with_reducible exact ih7 _ _ _ _ _ _)
   | (with_reducible exact impl_CountInsertions.mono _ _)
   | (with_reducible exact impl_DistancesOf.mono _ _ _)
   | (with_reducible exact impl_FindKey.mono _ _ _)
   | (with_reducible exact impl_FirstInsertion.mono _ _)
   | (with_reducible exact impl_IsTable.mono _ _)
   | (with_reducible exact impl_ParseTable.mono _ _)
   | (with_reducible exact impl_StreetOf.mono _ _)
   | (with_reducible exact impl_TableOf.mono _ _ _)
   | (with_reducible exact impl_TableText.mono _ _)
   | (with_reducible exact laws_jSame.mono _ _ _)
   | (with_reducible exact laws_jTable.mono _ _ _)
   | (with_reducible exact spec_CountInsertions.mono _ _)
   | (with_reducible exact spec_DrawFirstInsertion.mono _ _)
   | (with_reducible exact spec_DrawParseTable.mono _ _)
   | (with_reducible exact spec_DrawTableText.mono _ _)
   | (with_reducible exact spec_EmptyTable.mono _ _)
   | (with_reducible exact spec_FirstInsertion.mono _ _)
   | (with_reducible exact spec_ParseTable.mono _ _)
   | (with_reducible exact spec_StreetOf.mono _ _)
   | (with_reducible exact spec_TableText.mono _ _)
   | (with_reducible exact LeO.refl _)
   | (with_reducible exact LeO.none _)
   | (with_reducible refine LeO.ite ?_ ?_)
   | (with_reducible refine LeO.bind ?_ (fun _ => ?_))
   | exact ih0 _ _ _ _ _ _ _ _
   | exact ih1 _ _ _ _ _ _
   | exact ih2 _
   | exact ih3 _ _ _ _ _
   | exact ih4 _
   | exact ih5 _ _
   | exact ih6 _ _ _ _ _
   | exact ih7 _ _ _ _ _ _
   | exact impl_CountInsertions.mono _ _
   | exact impl_DistancesOf.mono _ _ _
   | exact impl_FindKey.mono _ _ _
   | exact impl_FirstInsertion.mono _ _
   | exact impl_IsTable.mono _ _
   | exact impl_ParseTable.mono _ _
   | exact impl_StreetOf.mono _ _
   | exact impl_TableOf.mono _ _ _
   | exact impl_TableText.mono _ _
   | exact laws_jSame.mono _ _ _
   | exact laws_jTable.mono _ _ _
   | exact spec_CountInsertions.mono _ _
   | exact spec_DrawFirstInsertion.mono _ _
   | exact spec_DrawParseTable.mono _ _
   | exact spec_DrawTableText.mono _ _
   | exact spec_EmptyTable.mono _ _
   | exact spec_FirstInsertion.mono _ _
   | exact spec_ParseTable.mono _ _
   | exact spec_StreetOf.mono _ _
   | exact spec_TableText.mono _ _
   | exact LeO.none _
   | refine LeO.ite ?_ ?_
   | refine LeO.bind ?_ (fun _ => ?_)
  ·intro y0 y1
   unfold laws_FnInsertionOrders.j7
   repeat' first
   | (with_reducible exact ih0 _ _ _ _ _ _ _ _)
   | (with_reducible exact ih1 _ _ _ _ _ _)
   | (with_reducible exact ih2 _)
   | (with_reducible exact ih3 _ _ _ _ _)
   | (with_reducible exact ih4 _)
   | (with_reducible exact ih5 _ _)
   | (with_reducible exact ih6 _ _ _ _ _)
   | (with_reducible exact ih7 _ _ _ _ _ _)
   | (with_reducible exact impl_CountInsertions.mono _ _)
   | (with_reducible exact impl_DistancesOf.mono _ _ _)
   | (with_reducible exact impl_FindKey.mono _ _ _)
   | (with_reducible exact impl_FirstInsertion.mono _ _)
   | (with_reducible exact impl_IsTable.mono _ _)
   | (with_reducible exact impl_ParseTable.mono _ _)
   | (with_reducible exact impl_StreetOf.mono _ _)
   | (with_reducible exact impl_TableOf.mono _ _ _)
   | (with_reducible exact impl_TableText.mono _ _)
   | (with_reducible exact laws_jSame.mono _ _ _)
   | (with_reducible exact laws_jTable.mono _ _ _)
   | (with_reducible exact spec_CountInsertions.mono _ _)
   | (with_reducible exact spec_DrawFirstInsertion.mono _ _)
   | (with_reducible exact spec_DrawParseTable.mono _ _)
   | (with_reducible exact spec_DrawTableText.mono _ _)
   | (with_reducible exact spec_EmptyTable.mono _ _)
   | (with_reducible exact spec_FirstInsertion.mono _ _)
   | (with_reducible exact spec_ParseTable.mono _ _)
   | (with_reducible exact spec_StreetOf.mono _ _)
   | (with_reducible exact spec_TableText.mono _ _)
   | (with_reducible exact LeO.refl _)
   | (with_reducible exact LeO.none _)
   | (with_reducible refine LeO.ite ?_ ?_)
   | (with_reducible refine LeO.bind ?_ (fun _ => ?_))
   | exact ih0 _ _ _ _ _ _ _ _
   | exact ih1 _ _ _ _ _ _
   | exact ih2 _
   | exact ih3 _ _ _ _ _
   | exact ih4 _
   | exact ih5 _ _
   | exact ih6 _ _ _ _ _
   | exact ih7 _ _ _ _ _ _
   | exact impl_CountInsertions.mono _ _
   | exact impl_DistancesOf.mono _ _ _
   | exact impl_FindKey.mono _ _ _
   | exact impl_FirstInsertion.mono _ _
   | exact impl_IsTable.mono _ _
   | exact impl_ParseTable.mono _ _
   | exact impl_StreetOf.mono _ _
   | exact impl_TableOf.mono _ _ _
   | exact impl_TableText.mono _ _
   | exact laws_jSame.mono _ _ _
   | exact laws_jTable.mono _ _ _
   | exact spec_CountInsertions.mono _ _
   | exact spec_DrawFirstInsertion.mono _ _
   | exact spec_DrawParseTable.mono _ _
   | exact spec_DrawTableText.mono _ _
   | exact spec_EmptyTable.mono _ _
   | exact spec_FirstInsertion.mono _ _
   | exact spec_ParseTable.mono _ _
   | exact spec_StreetOf.mono _ _
   | exact spec_TableText.mono _ _
   | exact LeO.none _
   | refine LeO.ite ?_ ?_
   | refine LeO.bind ?_ (fun _ => ?_)
  ·intro y0 y1 y2 y3 y4
   unfold laws_FnInsertionOrders.j2
   repeat' first
   | (with_reducible exact ih0 _ _ _ _ _ _ _ _)
   | (with_reducible exact ih1 _ _ _ _ _ _)
   | (with_reducible exact ih2 _)
   | (with_reducible exact ih3 _ _ _ _ _)
   | (with_reducible exact ih4 _)
   | (with_reducible exact ih5 _ _)
   | (with_reducible exact ih6 _ _ _ _ _)
   | (with_reducible exact ih7 _ _ _ _ _ _)
   | (with_reducible exact impl_CountInsertions.mono _ _)
   | (with_reducible exact impl_DistancesOf.mono _ _ _)
   | (with_reducible exact impl_FindKey.mono _ _ _)
   | (with_reducible exact impl_FirstInsertion.mono _ _)
   | (with_reducible exact impl_IsTable.mono _ _)
   | (with_reducible exact impl_ParseTable.mono _ _)
   | (with_reducible exact impl_StreetOf.mono _ _)
   | (with_reducible exact impl_TableOf.mono _ _ _)
   | (with_reducible exact impl_TableText.mono _ _)
   | (with_reducible exact laws_jSame.mono _ _ _)
   | (with_reducible exact laws_jTable.mono _ _ _)
   | (with_reducible exact spec_CountInsertions.mono _ _)
   | (with_reducible exact spec_DrawFirstInsertion.mono _ _)
   | (with_reducible exact spec_DrawParseTable.mono _ _)
   | (with_reducible exact spec_DrawTableText.mono _ _)
   | (with_reducible exact spec_EmptyTable.mono _ _)
   | (with_reducible exact spec_FirstInsertion.mono _ _)
   | (with_reducible exact spec_ParseTable.mono _ _)
   | (with_reducible exact spec_StreetOf.mono _ _)
   | (with_reducible exact spec_TableText.mono _ _)
   | (with_reducible exact LeO.refl _)
   | (with_reducible exact LeO.none _)
   | (with_reducible refine LeO.ite ?_ ?_)
   | (with_reducible refine LeO.bind ?_ (fun _ => ?_))
   | exact ih0 _ _ _ _ _ _ _ _
   | exact ih1 _ _ _ _ _ _
   | exact ih2 _
   | exact ih3 _ _ _ _ _
   | exact ih4 _
   | exact ih5 _ _
   | exact ih6 _ _ _ _ _
   | exact ih7 _ _ _ _ _ _
   | exact impl_CountInsertions.mono _ _
   | exact impl_DistancesOf.mono _ _ _
   | exact impl_FindKey.mono _ _ _
   | exact impl_FirstInsertion.mono _ _
   | exact impl_IsTable.mono _ _
   | exact impl_ParseTable.mono _ _
   | exact impl_StreetOf.mono _ _
   | exact impl_TableOf.mono _ _ _
   | exact impl_TableText.mono _ _
   | exact laws_jSame.mono _ _ _
   | exact laws_jTable.mono _ _ _
   | exact spec_CountInsertions.mono _ _
   | exact spec_DrawFirstInsertion.mono _ _
   | exact spec_DrawParseTable.mono _ _
   | exact spec_DrawTableText.mono _ _
   | exact spec_EmptyTable.mono _ _
   | exact spec_FirstInsertion.mono _ _
   | exact spec_ParseTable.mono _ _
   | exact spec_StreetOf.mono _ _
   | exact spec_TableText.mono _ _
   | exact LeO.none _
   | refine LeO.ite ?_ ?_
   | refine LeO.bind ?_ (fun _ => ?_)
  intro y0 y1 y2 y3 y4 y5
  unfold laws_FnInsertionOrders.l0
  repeat' first
  | (with_reducible exact ih0 _ _ _ _ _ _ _ _)
  | (with_reducible exact ih1 _ _ _ _ _ _)
  | (with_reducible exact ih2 _)
  | (with_reducible exact ih3 _ _ _ _ _)
  | (with_reducible exact ih4 _)
  | (with_reducible exact ih5 _ _)
  | (with_reducible exact ih6 _ _ _ _ _)
  | (with_reducible exact ih7 _ _ _ _ _ _)
  | (with_reducible exact impl_CountInsertions.mono _ _)
  | (with_reducible exact impl_DistancesOf.mono _ _ _)
  | (with_reducible exact impl_FindKey.mono _ _ _)
  | (with_reducible exact impl_FirstInsertion.mono _ _)
  | (with_reducible exact impl_IsTable.mono _ _)
  | (with_reducible exact impl_ParseTable.mono _ _)
  | (with_reducible exact impl_StreetOf.mono _ _)
  | (with_reducible exact impl_TableOf.mono _ _ _)
  | (with_reducible exact impl_TableText.mono _ _)
  | (with_reducible exact laws_jSame.mono _ _ _)
  | (with_reducible exact laws_jTable.mono _ _ _)
  | (with_reducible exact spec_CountInsertions.mono _ _)
  | (with_reducible exact spec_DrawFirstInsertion.mono _ _)
  | (with_reducible exact spec_DrawParseTable.mono _ _)
  | (with_reducible exact spec_DrawTableText.mono _ _)
  | (with_reducible exact spec_EmptyTable.mono _ _)
  | (with_reducible exact spec_FirstInsertion.mono _ _)
  | (with_reducible exact spec_ParseTable.mono _ _)
  | (with_reducible exact spec_StreetOf.mono _ _)
  | (with_reducible exact spec_TableText.mono _ _)
  | (with_reducible exact LeO.refl _)
  | (with_reducible exact LeO.none _)
  | (with_reducible refine LeO.ite ?_ ?_)
  | (with_reducible refine LeO.bind ?_ (fun _ => ?_))
  | exact ih0 _ _ _ _ _ _ _ _
  | exact ih1 _ _ _ _ _ _
  | exact ih2 _
  | exact ih3 _ _ _ _ _
  | exact ih4 _
  | exact ih5 _ _
  | exact ih6 _ _ _ _ _
  | exact ih7 _ _ _ _ _ _
  | exact impl_CountInsertions.mono _ _
  | exact impl_DistancesOf.mono _ _ _
  | exact impl_FindKey.mono _ _ _
  | exact impl_FirstInsertion.mono _ _
  | exact impl_IsTable.mono _ _
  | exact impl_ParseTable.mono _ _
  | exact impl_StreetOf.mono _ _
  | exact impl_TableOf.mono _ _ _
  | exact impl_TableText.mono _ _
  | exact laws_jSame.mono _ _ _
  | exact laws_jTable.mono _ _ _
  | exact spec_CountInsertions.mono _ _
  | exact spec_DrawFirstInsertion.mono _ _
  | exact spec_DrawParseTable.mono _ _
  | exact spec_DrawTableText.mono _ _
  | exact spec_EmptyTable.mono _ _
  | exact spec_FirstInsertion.mono _ _
  | exact spec_ParseTable.mono _ _
  | exact spec_StreetOf.mono _ _
  | exact spec_TableText.mono _ _
  | exact LeO.none _
  | refine LeO.ite ?_ ?_
  | refine LeO.bind ?_ (fun _ => ?_)
theorem laws_FnInsertionOrders.mono : ∀ a0 a1 k, LeO (laws_FnInsertionOrders.f k a0 a1) (laws_FnInsertionOrders.f (k + 1) a0 a1) := by
 intro a0 a1 k
 obtain ⟨ih0, ih1, ih2, ih3, ih4, ih5, ih6, ih7⟩ := laws_FnInsertionOrders.mono_l k
 unfold laws_FnInsertionOrders.f
 repeat' first
   | (with_reducible exact ih0 _ _ _ _ _ _ _ _)
   | (with_reducible exact ih1 _ _ _ _ _ _)
   | (with_reducible exact ih2 _)
   | (with_reducible exact ih3 _ _ _ _ _)
   | (with_reducible exact ih4 _)
   | (with_reducible exact ih5 _ _)
   | (with_reducible exact ih6 _ _ _ _ _)
   | (with_reducible exact ih7 _ _ _ _ _ _)
   | (with_reducible exact impl_CountInsertions.mono _ _)
   | (with_reducible exact impl_DistancesOf.mono _ _ _)
   | (with_reducible exact impl_FindKey.mono _ _ _)
   | (with_reducible exact impl_FirstInsertion.mono _ _)
   | (with_reducible exact impl_IsTable.mono _ _)
   | (with_reducible exact impl_ParseTable.mono _ _)
   | (with_reducible exact impl_StreetOf.mono _ _)
   | (with_reducible exact impl_TableOf.mono _ _ _)
   | (with_reducible exact impl_TableText.mono _ _)
   | (with_reducible exact laws_jSame.mono _ _ _)
   | (with_reducible exact laws_jTable.mono _ _ _)
   | (with_reducible exact spec_CountInsertions.mono _ _)
   | (with_reducible exact spec_DrawFirstInsertion.mono _ _)
   | (with_reducible exact spec_DrawParseTable.mono _ _)
   | (with_reducible exact spec_DrawTableText.mono _ _)
   | (with_reducible exact spec_EmptyTable.mono _ _)
   | (with_reducible exact spec_FirstInsertion.mono _ _)
   | (with_reducible exact spec_ParseTable.mono _ _)
   | (with_reducible exact spec_StreetOf.mono _ _)
   | (with_reducible exact spec_TableText.mono _ _)
   | (with_reducible exact LeO.refl _)
   | (with_reducible exact LeO.none _)
   | (with_reducible refine LeO.ite ?_ ?_)
   | (with_reducible refine LeO.bind ?_ (fun _ => ?_))
   | exact ih0 _ _ _ _ _ _ _ _
   | exact ih1 _ _ _ _ _ _
   | exact ih2 _
   | exact ih3 _ _ _ _ _
   | exact ih4 _
   | exact ih5 _ _
   | exact ih6 _ _ _ _ _
   | exact ih7 _ _ _ _ _ _
   | exact impl_CountInsertions.mono _ _
   | exact impl_DistancesOf.mono _ _ _
   | exact impl_FindKey.mono _ _ _
   | exact impl_FirstInsertion.mono _ _
   | exact impl_IsTable.mono _ _
   | exact impl_ParseTable.mono _ _
   | exact impl_StreetOf.mono _ _
   | exact impl_TableOf.mono _ _ _
   | exact impl_TableText.mono _ _
   | exact laws_jSame.mono _ _ _
   | exact laws_jTable.mono _ _ _
   | exact spec_CountInsertions.mono _ _
   | exact spec_DrawFirstInsertion.mono _ _
   | exact spec_DrawParseTable.mono _ _
   | exact spec_DrawTableText.mono _ _
   | exact spec_EmptyTable.mono _ _
   | exact spec_FirstInsertion.mono _ _
   | exact spec_ParseTable.mono _ _
   | exact spec_StreetOf.mono _ _
   | exact spec_TableText.mono _ _
   | exact LeO.none _
   | refine LeO.ite ?_ ?_
   | refine LeO.bind ?_ (fun _ => ?_)
/-! ### laws_FnInsertionOrders.calls -/
set_option maxHeartbeats 80000000 in
set_option maxRecDepth 100000 in
theorem laws_FnInsertionOrders.calls (k : Nat) (A0 : Option Addr) (c0 : Nat) (l0 : List Int) (A1 : Option Addr) (c1 : Nat) (l1 : List Int) (r : Bool) (w : World) (hr0 : Kd.C (Kd.int .u8) w A0 l0.length l0) (hc0 : l0.length ≤ c0) (hr1 : Kd.C (Kd.int .u8) w A1 l1.length l1) (hc1 : l1.length ≤ c1) (hG : GP w) (h : laws_FnInsertionOrders.f k l0 l1 = some r) :
  Calls Tryz.prog 3 #[.slice A0 l0.length c0, .slice A1 l1.length c1] w fun e w' => e = .returned (.bool r) ∧ Below w.heap.size w w' := by
 have HG := aS_ hG
 clear hG
 have hu26 := Tryz.underlying26
 have HR0 := aS_ hr0
 have HC0 := aS_ hc0
 clear hr0 hc0
 have HR1 := aS_ hr1
 have HC1 := aS_ hc1
 clear hr1 hc1
 have HB := aS_ (Below.refl w.heap.size w)
 have H : ((laws_big.f l0 l1).bind fun t597 => (if t597 = true then (some true) else ((spec_DrawFirstInsertion.f k l0).bind fun t598 => ((impl_FirstInsertion.f k t598).bind fun bt602 => ((spec_FirstInsertion.f k t598).bind fun bt606 => ((impl_CountInsertions.f k t598).bind fun bt610 => ((spec_CountInsertions.f k t598).bind fun bt612 => ((impl_StreetOf.f k t598).bind fun bt614 => ((spec_StreetOf.f k t598).bind fun bt619 => (if (bt602.2 != bt606.2) = true then (laws_FnInsertionOrders.j0 k l1 bt602.1 bt602.2 bt614.1 bt614.2.1 bt614.2.2 true t598) else ((laws_jSame.f k bt602.1 bt606.1).bind fun t624 => (if t624 = true then (if (bt610.2 != bt612.2) = true then (laws_FnInsertionOrders.j0 k l1 bt602.1 bt602.2 bt614.1 bt614.2.1 bt614.2.2 true t598) else (if bt610.1 = bt612.1 then (if (bt614.2.2 != bt619.2.2) = true then (laws_FnInsertionOrders.j0 k l1 bt602.1 bt602.2 bt614.1 bt614.2.1 bt614.2.2 true t598) else ((laws_jSame.f k bt614.1 bt619.1).bind fun t625 => (if t625 = true then (if bt614.2.1 = bt619.2.1 then ((impl_IsTable.f k t598).bind fun t626 => (if (bt602.2 != t626) = true then (laws_FnInsertionOrders.j0 k l1 bt602.1 bt602.2 bt614.1 bt614.2.1 bt614.2.2 true t598) else (if bt610.2 = true then (laws_FnInsertionOrders.j0 k l1 bt602.1 bt602.2 bt614.1 bt614.2.1 bt614.2.2 (decide (bt610.1 < 1)) t598) else (laws_FnInsertionOrders.j0 k l1 bt602.1 bt602.2 bt614.1 bt614.2.1 bt614.2.2 false t598)))) else (laws_FnInsertionOrders.j0 k l1 bt602.1 bt602.2 bt614.1 bt614.2.1 bt614.2.2 true t598)) else (laws_FnInsertionOrders.j0 k l1 bt602.1 bt602.2 bt614.1 bt614.2.1 bt614.2.2 true t598)))) else (laws_FnInsertionOrders.j0 k l1 bt602.1 bt602.2 bt614.1 bt614.2.1 bt614.2.2 true t598))) else (laws_FnInsertionOrders.j0 k l1 bt602.1 bt602.2 bt614.1 bt614.2.1 bt614.2.2 true t598))))))))))))) = some r := h
 clear h
 replace H := bs_ H; obtain ⟨t597, A3, H⟩ := H
 replace H := it_ H; rcases H with ⟨rfl, H⟩ | ⟨rfl, H⟩
 ·obtain rfl := Option.some.inj H
  go_enter Tryz.func3, Tryz.ntmps3
  go_wp2_with (first | ((with_reducible refine gg_ ?_); refine gc_ 4 (some 48) Tryz.func4 #[.slice A0 l0.length c0, .slice A1 l1.length c1] ?_; (with_reducible refine (laws_big.calls _ _ l0 _ _ l1 true _ ?side1 ?side2 ?side3 ?side4 A3.out).mono ?_); (case side1 => repeat (first | exact HR0.out | (with_reducible refine Kd.C_alloc ?_ _) | (with_reducible refine Kd.C_drewN ?_ _) | (with_reducible refine Kd.C_drew ?_))); (case side2 => exact HC0.out); (case side3 => repeat (first | exact HR1.out | (with_reducible refine Kd.C_alloc ?_ _) | (with_reducible refine Kd.C_drewN ?_ _) | (with_reducible refine Kd.C_drew ?_))); (case side4 => exact HC1.out); rintro e w' ⟨rfl, ⟨nd, rfl⟩⟩; refine ⟨_, rfl, ?_⟩))
  go_ret
  exact ⟨eR_, bb_ HB⟩
 as_aux_lemma =>
 replace H := bs_ H; obtain ⟨t598, A5, H⟩ := H
 replace H := bs_ H; obtain ⟨⟨t602, t605⟩, A6, H⟩ := H
 replace H := bs_ H; obtain ⟨⟨t606, t609⟩, A7, H⟩ := H
 replace H := bs_ H; obtain ⟨⟨t610, t611⟩, A8, H⟩ := H
 replace H := bs_ H; obtain ⟨⟨t612, t613⟩, A9, H⟩ := H
 replace H := bs_ H; obtain ⟨⟨t614, t617, t618⟩, A10, H⟩ := H
 replace H := bs_ H; obtain ⟨⟨t619, t622, t623⟩, A11, H⟩ := H
 have HC12 := aS_ H
 clear H
 go_enter Tryz.func3, Tryz.ntmps3
 go_upto_region 10 with (first | ((with_reducible refine gg_ ?_); refine gc_ 4 (some 48) Tryz.func4 #[.slice A0 l0.length c0, .slice A1 l1.length c1] ?_; (with_reducible refine (laws_big.calls _ _ l0 _ _ l1 false _ ?side1 ?side2 ?side3 ?side4 A3.out).mono ?_); (case side1 => repeat (first | exact HR0.out | (with_reducible refine Kd.C_alloc ?_ _) | (with_reducible refine Kd.C_drewN ?_ _) | (with_reducible refine Kd.C_drew ?_))); (case side2 => exact HC0.out); (case side3 => repeat (first | exact HR1.out | (with_reducible refine Kd.C_alloc ?_ _) | (with_reducible refine Kd.C_drewN ?_ _) | (with_reducible refine Kd.C_drew ?_))); (case side4 => exact HC1.out); rintro e w' ⟨rfl, ⟨nd, rfl⟩⟩; refine ⟨_, rfl, ?_⟩) | ((with_reducible refine gg_ ?_); refine gc_ 5 (some 50) Tryz.func5 #[.slice A0 l0.length c0] ?_; (with_reducible refine (spec_DrawFirstInsertion.calls k _ _ l0 t598 _ ?side1 ?side2 A5.out).mono ?_); (case side1 => repeat (first | exact HR0.out | (with_reducible refine Kd.C_alloc ?_ _) | (with_reducible refine Kd.C_drewN ?_ _) | (with_reducible refine Kd.C_drew ?_))); (case side2 => exact HC0.out); rintro e w13 ⟨v599, rfl, ho0, hb⟩; refine ⟨_, rfl, ?_⟩; have HO600 := aS_ (Kd.R_lower ho0 (below_size (bb_ HB))); replace HB := bE_ HB hb; (try clear hb); (try clear ho0)) | ((with_reducible refine gate_dst (N := 5) rfl ?_); (try (refine gate_guard (by rfl) ?_; dsimp only)); refine box_event ?hg (N := 5) ?hd (cs := #[.slice none 0 0]) (t := 26) ?hr ?_; (case hd => rfl); (case hg => rfl); (case hr => first | (go_simp; done) | (go_simp; rfl)); intro gb601 hg w14 hbox hb; replace HO600 := aS_ (Kd.R_below (rr_ HO600) hb); have BK601 := aS_ (hbox); have GW601 := gE_ HB hg; have GE601 := gE_ HB hg; replace HB := bE_ HB hb; clear hb hbox hg; obtain ⟨Ao15, co15, eo15⟩ := Kd.R_slice HO600.out; subst eo15; obtain ⟨hcz16_0, hfz16_0⟩ := c10_ BK601) | ((with_reducible refine gg_ ?_); refine gc_ 6 (some 53) Tryz.func6 #[.agg #[.slice Ao15 t598.length co15]] ?_; (with_reducible refine (impl_FirstInsertion.calls k _ _ t598 t602 t605 _ ?side1 ?side2 A6.out).mono ?_); (case side1 => refine (Kd.R_reads' (e := 3) (base := w.heap.size) (ok := fun k_ => True) (n := t598.length) (c := co15) ?_).2.2; exact (by (with_reducible repeat (first | apply rA_ | apply rN_ | apply rD_)); exact (Kd.R_mono (Kd.R_far (p := ⟨gb601, 0, none⟩) (Kd.R_types HO600.out BK601.out (by decide)) (fun _ hk => hk.2) (.slice Ao15 t598.length co15)) (fun _ h_ => h_.1)))); (case side2 => exact (Kd.R_reads' HO600.out).2.1); rintro e w17 ⟨v603, rfl, ho0, hb⟩; refine ⟨_, rfl, ?_⟩; have HO604 := aS_ (Kd.R_lower (Kd.R_new' ho0 (Kd.R_lt (by (with_reducible repeat (first | apply rA_ | apply rN_ | apply rD_)); exact (Kd.R_mono (Kd.R_far (p := ⟨gb601, 0, none⟩) (Kd.R_types HO600.out BK601.out (by decide)) (fun _ hk => hk.2) (.slice Ao15 t598.length co15)) (fun _ h_ => h_.1))))) (below_size (bb_ HB))); replace HO600 := aS_ (Kd.R_elder' (by (with_reducible repeat (first | apply rA_ | apply rN_ | apply rD_)); exact (Kd.R_mono (Kd.R_far (p := ⟨gb601, 0, none⟩) (Kd.R_types HO600.out BK601.out (by decide)) (fun _ hk => hk.2) (.slice Ao15 t598.length co15)) (fun _ h_ => h_.1))) (Kd.R_base ho0) hb); replace BK601 := aS_ (blk_below (g := gb601) (o := .cells #[.slice Ao15 t598.length co15] 26 (0, 0)) (by (with_reducible repeat (first | refine kN_ ?_ _ | refine kD_ ?_ | refine kA_ ?_ _)); refine blk_put (cs := #[.slice none 0 0]) ?_ 0 _ rfl; (with_reducible repeat (first | refine kN_ ?_ _ | refine kD_ ?_ | refine kA_ ?_ _)); exact BK601.out) hb); replace HB := bE_ HB hb; (try clear hb); (try clear hk); (try clear ho0); obtain ⟨hcz18_0, hfz18_0⟩ := c10_ BK601) | ((with_reducible refine gg_ ?_); refine gc_ 7 (some 58) Tryz.func7 #[.agg #[.slice Ao15 t598.length co15]] ?_; (with_reducible refine (spec_FirstInsertion.calls k _ _ t598 t606 t609 _ ?side1 ?side2 A7.out).mono ?_); (case side1 => exact cR_ HO600); (case side2 => exact (Kd.R_reads' HO600.out).2.1); rintro e w19 ⟨v607, rfl, ho0, hb⟩; refine ⟨_, rfl, ?_⟩; have HO608 := aS_ (Kd.R_lower (Kd.R_new' (Kd.R_new' ho0 (Kd.R_lt (rr_ HO600))) (Kd.R_lt (rr_ HO604))) (below_size (bb_ HB))); replace HO600 := aS_ (Kd.R_elder' (rr_ HO600) (Kd.R_base ho0) hb); replace HO604 := aS_ (Kd.R_elder' (rr_ HO604) (Kd.R_base ho0) hb); replace BK601 := kO_ BK601 hb; replace HB := bE_ HB hb; (try clear hb); (try clear ho0); obtain ⟨hcz20_0, hfz20_0⟩ := c10_ BK601) | ((with_reducible refine gg_ ?_); refine gc_ 8 (some 63) Tryz.func8 #[.agg #[.slice Ao15 t598.length co15]] ?_; (with_reducible refine (impl_CountInsertions.calls k _ _ t598 t610 t611 _ ?side1 ?side2 A8.out).mono ?_); (case side1 => exact cR_ HO600); (case side2 => exact (Kd.R_reads' HO600.out).2.1); rintro e w21 ⟨rfl, hb⟩; refine ⟨_, rfl, ?_⟩; replace HO600 := aS_ (Kd.R_below (rr_ HO600) hb); replace HO604 := aS_ (Kd.R_below (rr_ HO604) hb); replace HO608 := aS_ (Kd.R_below (rr_ HO608) hb); replace BK601 := kO_ BK601 hb; replace HB := bE_ HB hb; (try clear hb); obtain ⟨hcz22_0, hfz22_0⟩ := c10_ BK601) | ((with_reducible refine gg_ ?_); refine gc_ 9 (some 68) Tryz.func9 #[.agg #[.slice Ao15 t598.length co15]] ?_; (with_reducible refine (spec_CountInsertions.calls k _ _ t598 t612 t613 _ ?side1 ?side2 A9.out).mono ?_); (case side1 => exact cR_ HO600); (case side2 => exact (Kd.R_reads' HO600.out).2.1); rintro e w23 ⟨rfl, hb⟩; refine ⟨_, rfl, ?_⟩; replace HO600 := aS_ (Kd.R_below (rr_ HO600) hb); replace HO604 := aS_ (Kd.R_below (rr_ HO604) hb); replace HO608 := aS_ (Kd.R_below (rr_ HO608) hb); replace BK601 := kO_ BK601 hb; replace HB := bE_ HB hb; (try clear hb); obtain ⟨hcz24_0, hfz24_0⟩ := c10_ BK601) | ((with_reducible refine gg_ ?_); refine gc_ 10 (some 73) Tryz.func10 #[.agg #[.slice Ao15 t598.length co15]] ?_; (with_reducible refine (impl_StreetOf.calls k _ _ t598 t614 t617 t618 _ ?side1 ?side2 A10.out).mono ?_); (case side1 => exact cR_ HO600); (case side2 => exact (Kd.R_reads' HO600.out).2.1); rintro e w25 ⟨v615, rfl, ho0, hb⟩; refine ⟨_, rfl, ?_⟩; have HO616 := aS_ (Kd.R_lower (Kd.R_new' (Kd.R_new' (Kd.R_new' ho0 (Kd.R_lt (rr_ HO600))) (Kd.R_lt (rr_ HO604))) (Kd.R_lt (rr_ HO608))) (below_size (bb_ HB))); replace HO600 := aS_ (Kd.R_elder' (rr_ HO600) (Kd.R_base ho0) hb); replace HO604 := aS_ (Kd.R_elder' (rr_ HO604) (Kd.R_base ho0) hb); replace HO608 := aS_ (Kd.R_elder' (rr_ HO608) (Kd.R_base ho0) hb); replace BK601 := kO_ BK601 hb; replace HB := bE_ HB hb; (try clear hb); (try clear ho0); obtain ⟨hcz26_0, hfz26_0⟩ := c10_ BK601) | ((with_reducible refine gg_ ?_); refine gc_ 11 (some 79) Tryz.func11 #[.agg #[.slice Ao15 t598.length co15]] ?_; (with_reducible refine (spec_StreetOf.calls k _ _ t598 t619 t622 t623 _ ?side1 ?side2 A11.out).mono ?_); (case side1 => exact cR_ HO600); (case side2 => exact (Kd.R_reads' HO600.out).2.1); rintro e w27 ⟨v620, rfl, ho0, hb⟩; refine ⟨_, rfl, ?_⟩; have HO621 := aS_ (Kd.R_lower (Kd.R_new' (Kd.R_new' (Kd.R_new' (Kd.R_new' ho0 (Kd.R_lt (rr_ HO600))) (Kd.R_lt (rr_ HO604))) (Kd.R_lt (rr_ HO608))) (Kd.R_lt (rr_ HO616))) (below_size (bb_ HB))); replace HO600 := aS_ (Kd.R_elder' (rr_ HO600) (Kd.R_base ho0) hb); replace HO604 := aS_ (Kd.R_elder' (rr_ HO604) (Kd.R_base ho0) hb); replace HO608 := aS_ (Kd.R_elder' (rr_ HO608) (Kd.R_base ho0) hb); replace HO616 := aS_ (Kd.R_elder' (rr_ HO616) (Kd.R_base ho0) hb); replace BK601 := kO_ BK601 hb; replace HB := bE_ HB hb; (try clear hb); (try clear ho0)))
 (try simp only [Act.put, List.setIfInBounds_toArray, List.set_cons_zero, List.set_cons_succ])
 go_cut [130] (fun v130 wc => ∃ (kq : Nat) (x130_11 : Bool), v130 = .bool x130_11 ∧ Aside0 (laws_FnInsertionOrders.j0 kq l1 t602 t605 t614 t617 t618 x130_11 t598 = some r) ∧ Aside0 (kq ≤ k) ∧ Aside0 (Kd.R (Kd.int .i64) 3 wc w.heap.size (fun k_ => some k_ ≠ (v615 : Value).ownBlock ∧ some k_ ≠ ((.slice Ao15 t598.length co15) : Value).ownBlock) v603 t602) ∧ Aside0 (Kd.R (Kd.int .i64) 3 wc w.heap.size (fun k_ => some k_ ≠ (v603 : Value).ownBlock ∧ some k_ ≠ ((.slice Ao15 t598.length co15) : Value).ownBlock) v615 t614) ∧ Aside0 (Kd.R (Kd.int .i64) 3 wc w.heap.size (fun k_ => some k_ ≠ (v603 : Value).ownBlock ∧ some k_ ≠ (v615 : Value).ownBlock) (.slice Ao15 t598.length co15) t598) ∧ Aside0 (wc.heap[gb601]? = some (.cells #[(.slice Ao15 t598.length co15)] 26 (0, 0))) ∧ Aside0 (Below w.heap.size w wc))
 case first =>
  as_aux_lemma =>
  have H := HC12.out
  clear HC12
  replace H := ib_ H; rcases H with ⟨c28b0, c28b1, c28b2, c28b3, H⟩ | ⟨c28b0, c28b1, c28b2, H⟩
  ·(first | rw [c28b0] | (simp only [i64_w, i32_w]; rw [c28b0]) | skip)
   have H' := aS_ H
   clear H
   go_wp2
   go_meet
   case rel => exact ⟨_, (true), sR_, H', ⟨by first | omega | exact Nat.le_refl _⟩, ⟨by (with_reducible repeat (first | apply rA_ | apply rN_ | apply rD_)); exact Kd.R_mono HO604.out (fun _ hk => by first | exact ⟨hk.1.2, hk.1.1.1.2⟩ | (repeat' first | exact hk.2 | exact hk.1.2 | exact hk.1.1.2 | exact hk.1.1.1.2 | exact hk.1.1.1.1 | exact hk.1.1.1 | exact hk.1.1 | exact hk.1 | refine And.intro ?_ ?_))⟩, ⟨by (with_reducible repeat (first | apply rA_ | apply rN_ | apply rD_)); exact Kd.R_mono HO616.out (fun _ hk => by first | exact ⟨hk.1.1.2, hk.1.1.1.2⟩ | (repeat' first | exact hk.2 | exact hk.1.2 | exact hk.1.1.2 | exact hk.1.1.1.2 | exact hk.1.1.1.1 | exact hk.1.1.1 | exact hk.1.1 | exact hk.1 | refine And.intro ?_ ?_))⟩, ⟨by (with_reducible repeat (first | apply rA_ | apply rN_ | apply rD_)); exact Kd.R_mono HO600.out (fun _ hk => by first | exact ⟨hk.1.1.1.2, hk.1.2⟩ | (repeat' first | exact hk.2 | exact hk.1.2 | exact hk.1.1.2 | exact hk.1.1.1.2 | exact hk.1.1.1.1 | exact hk.1.1.1 | exact hk.1.1 | exact hk.1 | refine And.intro ?_ ?_))⟩, ⟨kk_ BK601⟩, ⟨bb_ HB⟩⟩
  as_aux_lemma =>
  (first | rw [c28b0] | (simp only [i64_w, i32_w]; rw [c28b0]) | skip)
  replace H := bs_ H; obtain ⟨t624, A29, H⟩ := H
  replace H := it_ H; rcases H with ⟨rfl, H⟩ | ⟨rfl, H⟩
  ·as_aux_lemma =>
   replace H := ib_ H; rcases H with ⟨c31b0, c31b1, c31b2, c31b3, H⟩ | ⟨c31b0, c31b1, c31b2, H⟩
   ·have H' := aS_ H
    clear H
    obtain ⟨Ao32, co32, eo32⟩ := Kd.R_slice HO604.out
    subst eo32
    obtain ⟨Ao33, co33, eo33⟩ := Kd.R_slice HO608.out
    subst eo33
    go_wp2_with (first | (go_at_call 12; (with_reducible refine (laws_jSame.calls k _ _ t602 _ _ t606 true _ ?side1 ?side2 ?side3 ?side4 A29.out).mono ?_); (case side1 => exact cR_ HO604); (case side2 => exact (Kd.R_reads' HO604.out).2.1); (case side3 => exact cR_ HO608); (case side4 => exact (Kd.R_reads' HO608.out).2.1); rintro e w' ⟨rfl, ⟨nd, rfl⟩⟩))
    go_meet
    case rel => exact ⟨_, (true), sR_, H', ⟨by first | omega | exact Nat.le_refl _⟩, ⟨by (with_reducible repeat (first | apply rA_ | apply rN_ | apply rD_)); exact Kd.R_mono HO604.out (fun _ hk => by first | exact ⟨hk.1.2, hk.1.1.1.2⟩ | (repeat' first | exact hk.2 | exact hk.1.2 | exact hk.1.1.2 | exact hk.1.1.1.2 | exact hk.1.1.1.1 | exact hk.1.1.1 | exact hk.1.1 | exact hk.1 | refine And.intro ?_ ?_))⟩, ⟨by (with_reducible repeat (first | apply rA_ | apply rN_ | apply rD_)); exact Kd.R_mono HO616.out (fun _ hk => by first | exact ⟨hk.1.1.2, hk.1.1.1.2⟩ | (repeat' first | exact hk.2 | exact hk.1.2 | exact hk.1.1.2 | exact hk.1.1.1.2 | exact hk.1.1.1.1 | exact hk.1.1.1 | exact hk.1.1 | exact hk.1 | refine And.intro ?_ ?_))⟩, ⟨by (with_reducible repeat (first | apply rA_ | apply rN_ | apply rD_)); exact Kd.R_mono HO600.out (fun _ hk => by first | exact ⟨hk.1.1.1.2, hk.1.2⟩ | (repeat' first | exact hk.2 | exact hk.1.2 | exact hk.1.1.2 | exact hk.1.1.1.2 | exact hk.1.1.1.1 | exact hk.1.1.1 | exact hk.1.1 | exact hk.1 | refine And.intro ?_ ?_))⟩, ⟨kk_ BK601⟩, ⟨bb_ HB⟩⟩
   as_aux_lemma =>
   replace H := iq_ H; rcases H with ⟨c34b0, c34b1, H⟩ | ⟨c34b0, c34b1, c34, H⟩
   ·as_aux_lemma =>
    replace H := ib_ H; rcases H with ⟨c35b0, c35b1, c35b2, c35b3, H⟩ | ⟨c35b0, c35b1, c35b2, H⟩
    ·have H' := aS_ H
     clear H
     obtain ⟨Ao36, co36, eo36⟩ := Kd.R_slice HO604.out
     subst eo36
     obtain ⟨Ao37, co37, eo37⟩ := Kd.R_slice HO608.out
     subst eo37
     go_wp2_with (first | (go_at_call 12; (with_reducible refine (laws_jSame.calls k _ _ t602 _ _ t606 true _ ?side1 ?side2 ?side3 ?side4 A29.out).mono ?_); (case side1 => exact cR_ HO604); (case side2 => exact (Kd.R_reads' HO604.out).2.1); (case side3 => exact cR_ HO608); (case side4 => exact (Kd.R_reads' HO608.out).2.1); rintro e w' ⟨rfl, ⟨nd, rfl⟩⟩))
     go_meet
     case rel => exact ⟨_, (true), sR_, H', ⟨by first | omega | exact Nat.le_refl _⟩, ⟨by (with_reducible repeat (first | apply rA_ | apply rN_ | apply rD_)); exact Kd.R_mono HO604.out (fun _ hk => by first | exact ⟨hk.1.2, hk.1.1.1.2⟩ | (repeat' first | exact hk.2 | exact hk.1.2 | exact hk.1.1.2 | exact hk.1.1.1.2 | exact hk.1.1.1.1 | exact hk.1.1.1 | exact hk.1.1 | exact hk.1 | refine And.intro ?_ ?_))⟩, ⟨by (with_reducible repeat (first | apply rA_ | apply rN_ | apply rD_)); exact Kd.R_mono HO616.out (fun _ hk => by first | exact ⟨hk.1.1.2, hk.1.1.1.2⟩ | (repeat' first | exact hk.2 | exact hk.1.2 | exact hk.1.1.2 | exact hk.1.1.1.2 | exact hk.1.1.1.1 | exact hk.1.1.1 | exact hk.1.1 | exact hk.1 | refine And.intro ?_ ?_))⟩, ⟨by (with_reducible repeat (first | apply rA_ | apply rN_ | apply rD_)); exact Kd.R_mono HO600.out (fun _ hk => by first | exact ⟨hk.1.1.1.2, hk.1.2⟩ | (repeat' first | exact hk.2 | exact hk.1.2 | exact hk.1.1.2 | exact hk.1.1.1.2 | exact hk.1.1.1.1 | exact hk.1.1.1 | exact hk.1.1 | exact hk.1 | refine And.intro ?_ ?_))⟩, ⟨kk_ BK601⟩, ⟨bb_ HB⟩⟩
    as_aux_lemma =>
    replace H := bs_ H; obtain ⟨t625, A38, H⟩ := H
    replace H := it_ H; rcases H with ⟨rfl, H⟩ | ⟨rfl, H⟩
    ·as_aux_lemma =>
     replace H := iq_ H; rcases H with ⟨c40b0, c40b1, H⟩ | ⟨c40b0, c40b1, c40, H⟩
     ·as_aux_lemma =>
      replace H := bs_ H; obtain ⟨t626, A41, H⟩ := H
      replace H := ib_ H; rcases H with ⟨c42b0, c42b1, c42b2, c42b3, H⟩ | ⟨c42b0, c42b1, c42b2, H⟩
      ·as_aux_lemma =>
       have H' := aS_ H
       clear H
       obtain ⟨Ao43, co43, eo43⟩ := Kd.R_slice HO604.out
       subst eo43
       obtain ⟨Ao44, co44, eo44⟩ := Kd.R_slice HO608.out
       subst eo44
       go_wp2_with (first | (go_at_call 12; (with_reducible refine (laws_jSame.calls k _ _ t602 _ _ t606 true _ ?side1 ?side2 ?side3 ?side4 A29.out).mono ?_); (case side1 => exact cR_ HO604); (case side2 => exact (Kd.R_reads' HO604.out).2.1); (case side3 => exact cR_ HO608); (case side4 => exact (Kd.R_reads' HO608.out).2.1); rintro e w' ⟨rfl, ⟨nd, rfl⟩⟩; obtain ⟨Ao45, co45, eo45⟩ := Kd.R_slice HO616.out; subst eo45; obtain ⟨Ao46, co46, eo46⟩ := Kd.R_slice HO621.out; subst eo46) | (go_at_call 12; (with_reducible refine (laws_jSame.calls k _ _ t614 _ _ t619 true _ ?side1 ?side2 ?side3 ?side4 A38.out).mono ?_); (case side1 => exact cR_ HO616); (case side2 => exact (Kd.R_reads' HO616.out).2.1); (case side3 => exact cR_ HO621); (case side4 => exact (Kd.R_reads' HO621.out).2.1); rintro e w' ⟨rfl, ⟨nd, rfl⟩⟩; obtain ⟨hcz47_0, hfz47_0⟩ := c10_ BK601) | (go_at_call 13; (with_reducible refine (impl_IsTable.calls k _ _ t598 t626 _ ?side1 ?side2 A41.out).mono ?_); (case side1 => exact cR_ HO600); (case side2 => exact (Kd.R_reads' HO600.out).2.1); rintro e w48 ⟨rfl, hb⟩; replace HO600 := aS_ (Kd.R_below (rr_ HO600) hb); replace HO604 := aS_ (Kd.R_below (rr_ HO604) hb); replace HO608 := aS_ (Kd.R_below (rr_ HO608) hb); replace HO616 := aS_ (Kd.R_below (rr_ HO616) hb); replace HO621 := aS_ (Kd.R_below (rr_ HO621) hb); replace BK601 := kO_ BK601 hb; replace HB := bE_ HB hb; (try clear hb)))
       go_meet
       case rel => exact ⟨_, (true), sR_, H', ⟨by first | omega | exact Nat.le_refl _⟩, ⟨by (with_reducible repeat (first | apply rA_ | apply rN_ | apply rD_)); exact Kd.R_mono HO604.out (fun _ hk => by first | exact ⟨hk.1.2, hk.1.1.1.2⟩ | (repeat' first | exact hk.2 | exact hk.1.2 | exact hk.1.1.2 | exact hk.1.1.1.2 | exact hk.1.1.1.1 | exact hk.1.1.1 | exact hk.1.1 | exact hk.1 | refine And.intro ?_ ?_))⟩, ⟨by (with_reducible repeat (first | apply rA_ | apply rN_ | apply rD_)); exact Kd.R_mono HO616.out (fun _ hk => by first | exact ⟨hk.1.1.2, hk.1.1.1.2⟩ | (repeat' first | exact hk.2 | exact hk.1.2 | exact hk.1.1.2 | exact hk.1.1.1.2 | exact hk.1.1.1.1 | exact hk.1.1.1 | exact hk.1.1 | exact hk.1 | refine And.intro ?_ ?_))⟩, ⟨by (with_reducible repeat (first | apply rA_ | apply rN_ | apply rD_)); exact Kd.R_mono HO600.out (fun _ hk => by first | exact ⟨hk.1.1.1.2, hk.1.2⟩ | (repeat' first | exact hk.2 | exact hk.1.2 | exact hk.1.1.2 | exact hk.1.1.1.2 | exact hk.1.1.1.1 | exact hk.1.1.1 | exact hk.1.1 | exact hk.1 | refine And.intro ?_ ?_))⟩, ⟨kk_ BK601⟩, ⟨bb_ HB⟩⟩
      as_aux_lemma =>
      replace H := it_ H; rcases H with ⟨rfl, H⟩ | ⟨rfl, H⟩
      ·as_aux_lemma =>
       have H' := aS_ H
       clear H
       obtain ⟨Ao50, co50, eo50⟩ := Kd.R_slice HO604.out
       subst eo50
       obtain ⟨Ao51, co51, eo51⟩ := Kd.R_slice HO608.out
       subst eo51
       go_wp2_with (first | (go_at_call 12; (with_reducible refine (laws_jSame.calls k _ _ t602 _ _ t606 true _ ?side1 ?side2 ?side3 ?side4 A29.out).mono ?_); (case side1 => exact cR_ HO604); (case side2 => exact (Kd.R_reads' HO604.out).2.1); (case side3 => exact cR_ HO608); (case side4 => exact (Kd.R_reads' HO608.out).2.1); rintro e w' ⟨rfl, ⟨nd, rfl⟩⟩; obtain ⟨Ao52, co52, eo52⟩ := Kd.R_slice HO616.out; subst eo52; obtain ⟨Ao53, co53, eo53⟩ := Kd.R_slice HO621.out; subst eo53) | (go_at_call 12; (with_reducible refine (laws_jSame.calls k _ _ t614 _ _ t619 true _ ?side1 ?side2 ?side3 ?side4 A38.out).mono ?_); (case side1 => exact cR_ HO616); (case side2 => exact (Kd.R_reads' HO616.out).2.1); (case side3 => exact cR_ HO621); (case side4 => exact (Kd.R_reads' HO621.out).2.1); rintro e w' ⟨rfl, ⟨nd, rfl⟩⟩; obtain ⟨hcz54_0, hfz54_0⟩ := c10_ BK601) | (go_at_call 13; (with_reducible refine (impl_IsTable.calls k _ _ t598 t626 _ ?side1 ?side2 A41.out).mono ?_); (case side1 => exact cR_ HO600); (case side2 => exact (Kd.R_reads' HO600.out).2.1); rintro e w55 ⟨rfl, hb⟩; replace HO600 := aS_ (Kd.R_below (rr_ HO600) hb); replace HO604 := aS_ (Kd.R_below (rr_ HO604) hb); replace HO608 := aS_ (Kd.R_below (rr_ HO608) hb); replace HO616 := aS_ (Kd.R_below (rr_ HO616) hb); replace HO621 := aS_ (Kd.R_below (rr_ HO621) hb); replace BK601 := kO_ BK601 hb; replace HB := bE_ HB hb; (try clear hb)))
       go_meet
       case rel => exact ⟨_, (decide (t610 < 1)), sR_, H', ⟨by first | omega | exact Nat.le_refl _⟩, ⟨by (with_reducible repeat (first | apply rA_ | apply rN_ | apply rD_)); exact Kd.R_mono HO604.out (fun _ hk => by first | exact ⟨hk.1.2, hk.1.1.1.2⟩ | (repeat' first | exact hk.2 | exact hk.1.2 | exact hk.1.1.2 | exact hk.1.1.1.2 | exact hk.1.1.1.1 | exact hk.1.1.1 | exact hk.1.1 | exact hk.1 | refine And.intro ?_ ?_))⟩, ⟨by (with_reducible repeat (first | apply rA_ | apply rN_ | apply rD_)); exact Kd.R_mono HO616.out (fun _ hk => by first | exact ⟨hk.1.1.2, hk.1.1.1.2⟩ | (repeat' first | exact hk.2 | exact hk.1.2 | exact hk.1.1.2 | exact hk.1.1.1.2 | exact hk.1.1.1.1 | exact hk.1.1.1 | exact hk.1.1 | exact hk.1 | refine And.intro ?_ ?_))⟩, ⟨by (with_reducible repeat (first | apply rA_ | apply rN_ | apply rD_)); exact Kd.R_mono HO600.out (fun _ hk => by first | exact ⟨hk.1.1.1.2, hk.1.2⟩ | (repeat' first | exact hk.2 | exact hk.1.2 | exact hk.1.1.2 | exact hk.1.1.1.2 | exact hk.1.1.1.1 | exact hk.1.1.1 | exact hk.1.1 | exact hk.1 | refine And.intro ?_ ?_))⟩, ⟨kk_ BK601⟩, ⟨bb_ HB⟩⟩
      as_aux_lemma =>
      have H' := aS_ H
      clear H
      obtain ⟨Ao56, co56, eo56⟩ := Kd.R_slice HO604.out
      subst eo56
      obtain ⟨Ao57, co57, eo57⟩ := Kd.R_slice HO608.out
      subst eo57
      go_wp2_with (first | (go_at_call 12; (with_reducible refine (laws_jSame.calls k _ _ t602 _ _ t606 true _ ?side1 ?side2 ?side3 ?side4 A29.out).mono ?_); (case side1 => exact cR_ HO604); (case side2 => exact (Kd.R_reads' HO604.out).2.1); (case side3 => exact cR_ HO608); (case side4 => exact (Kd.R_reads' HO608.out).2.1); rintro e w' ⟨rfl, ⟨nd, rfl⟩⟩; obtain ⟨Ao58, co58, eo58⟩ := Kd.R_slice HO616.out; subst eo58; obtain ⟨Ao59, co59, eo59⟩ := Kd.R_slice HO621.out; subst eo59) | (go_at_call 12; (with_reducible refine (laws_jSame.calls k _ _ t614 _ _ t619 true _ ?side1 ?side2 ?side3 ?side4 A38.out).mono ?_); (case side1 => exact cR_ HO616); (case side2 => exact (Kd.R_reads' HO616.out).2.1); (case side3 => exact cR_ HO621); (case side4 => exact (Kd.R_reads' HO621.out).2.1); rintro e w' ⟨rfl, ⟨nd, rfl⟩⟩; obtain ⟨hcz60_0, hfz60_0⟩ := c10_ BK601) | (go_at_call 13; (with_reducible refine (impl_IsTable.calls k _ _ t598 t626 _ ?side1 ?side2 A41.out).mono ?_); (case side1 => exact cR_ HO600); (case side2 => exact (Kd.R_reads' HO600.out).2.1); rintro e w61 ⟨rfl, hb⟩; replace HO600 := aS_ (Kd.R_below (rr_ HO600) hb); replace HO604 := aS_ (Kd.R_below (rr_ HO604) hb); replace HO608 := aS_ (Kd.R_below (rr_ HO608) hb); replace HO616 := aS_ (Kd.R_below (rr_ HO616) hb); replace HO621 := aS_ (Kd.R_below (rr_ HO621) hb); replace BK601 := kO_ BK601 hb; replace HB := bE_ HB hb; (try clear hb)))
      go_meet
      case rel => exact ⟨_, (false), sR_, H', ⟨by first | omega | exact Nat.le_refl _⟩, ⟨by (with_reducible repeat (first | apply rA_ | apply rN_ | apply rD_)); exact Kd.R_mono HO604.out (fun _ hk => by first | exact ⟨hk.1.2, hk.1.1.1.2⟩ | (repeat' first | exact hk.2 | exact hk.1.2 | exact hk.1.1.2 | exact hk.1.1.1.2 | exact hk.1.1.1.1 | exact hk.1.1.1 | exact hk.1.1 | exact hk.1 | refine And.intro ?_ ?_))⟩, ⟨by (with_reducible repeat (first | apply rA_ | apply rN_ | apply rD_)); exact Kd.R_mono HO616.out (fun _ hk => by first | exact ⟨hk.1.1.2, hk.1.1.1.2⟩ | (repeat' first | exact hk.2 | exact hk.1.2 | exact hk.1.1.2 | exact hk.1.1.1.2 | exact hk.1.1.1.1 | exact hk.1.1.1 | exact hk.1.1 | exact hk.1 | refine And.intro ?_ ?_))⟩, ⟨by (with_reducible repeat (first | apply rA_ | apply rN_ | apply rD_)); exact Kd.R_mono HO600.out (fun _ hk => by first | exact ⟨hk.1.1.1.2, hk.1.2⟩ | (repeat' first | exact hk.2 | exact hk.1.2 | exact hk.1.1.2 | exact hk.1.1.1.2 | exact hk.1.1.1.1 | exact hk.1.1.1 | exact hk.1.1 | exact hk.1 | refine And.intro ?_ ?_))⟩, ⟨kk_ BK601⟩, ⟨bb_ HB⟩⟩
     have H' := aS_ H
     clear H
     obtain ⟨Ao62, co62, eo62⟩ := Kd.R_slice HO604.out
     subst eo62
     obtain ⟨Ao63, co63, eo63⟩ := Kd.R_slice HO608.out
     subst eo63
     go_wp2_with (first | (go_at_call 12; (with_reducible refine (laws_jSame.calls k _ _ t602 _ _ t606 true _ ?side1 ?side2 ?side3 ?side4 A29.out).mono ?_); (case side1 => exact cR_ HO604); (case side2 => exact (Kd.R_reads' HO604.out).2.1); (case side3 => exact cR_ HO608); (case side4 => exact (Kd.R_reads' HO608.out).2.1); rintro e w' ⟨rfl, ⟨nd, rfl⟩⟩; obtain ⟨Ao64, co64, eo64⟩ := Kd.R_slice HO616.out; subst eo64; obtain ⟨Ao65, co65, eo65⟩ := Kd.R_slice HO621.out; subst eo65) | (go_at_call 12; (with_reducible refine (laws_jSame.calls k _ _ t614 _ _ t619 true _ ?side1 ?side2 ?side3 ?side4 A38.out).mono ?_); (case side1 => exact cR_ HO616); (case side2 => exact (Kd.R_reads' HO616.out).2.1); (case side3 => exact cR_ HO621); (case side4 => exact (Kd.R_reads' HO621.out).2.1); rintro e w' ⟨rfl, ⟨nd, rfl⟩⟩))
     go_meet
     case rel => exact ⟨_, (true), sR_, H', ⟨by first | omega | exact Nat.le_refl _⟩, ⟨by (with_reducible repeat (first | apply rA_ | apply rN_ | apply rD_)); exact Kd.R_mono HO604.out (fun _ hk => by first | exact ⟨hk.1.2, hk.1.1.1.2⟩ | (repeat' first | exact hk.2 | exact hk.1.2 | exact hk.1.1.2 | exact hk.1.1.1.2 | exact hk.1.1.1.1 | exact hk.1.1.1 | exact hk.1.1 | exact hk.1 | refine And.intro ?_ ?_))⟩, ⟨by (with_reducible repeat (first | apply rA_ | apply rN_ | apply rD_)); exact Kd.R_mono HO616.out (fun _ hk => by first | exact ⟨hk.1.1.2, hk.1.1.1.2⟩ | (repeat' first | exact hk.2 | exact hk.1.2 | exact hk.1.1.2 | exact hk.1.1.1.2 | exact hk.1.1.1.1 | exact hk.1.1.1 | exact hk.1.1 | exact hk.1 | refine And.intro ?_ ?_))⟩, ⟨by (with_reducible repeat (first | apply rA_ | apply rN_ | apply rD_)); exact Kd.R_mono HO600.out (fun _ hk => by first | exact ⟨hk.1.1.1.2, hk.1.2⟩ | (repeat' first | exact hk.2 | exact hk.1.2 | exact hk.1.1.2 | exact hk.1.1.1.2 | exact hk.1.1.1.1 | exact hk.1.1.1 | exact hk.1.1 | exact hk.1 | refine And.intro ?_ ?_))⟩, ⟨kk_ BK601⟩, ⟨bb_ HB⟩⟩
    have H' := aS_ H
    clear H
    obtain ⟨Ao66, co66, eo66⟩ := Kd.R_slice HO604.out
    subst eo66
    obtain ⟨Ao67, co67, eo67⟩ := Kd.R_slice HO608.out
    subst eo67
    go_wp2_with (first | (go_at_call 12; (with_reducible refine (laws_jSame.calls k _ _ t602 _ _ t606 true _ ?side1 ?side2 ?side3 ?side4 A29.out).mono ?_); (case side1 => exact cR_ HO604); (case side2 => exact (Kd.R_reads' HO604.out).2.1); (case side3 => exact cR_ HO608); (case side4 => exact (Kd.R_reads' HO608.out).2.1); rintro e w' ⟨rfl, ⟨nd, rfl⟩⟩; obtain ⟨Ao68, co68, eo68⟩ := Kd.R_slice HO616.out; subst eo68; obtain ⟨Ao69, co69, eo69⟩ := Kd.R_slice HO621.out; subst eo69) | (go_at_call 12; (with_reducible refine (laws_jSame.calls k _ _ t614 _ _ t619 false _ ?side1 ?side2 ?side3 ?side4 A38.out).mono ?_); (case side1 => exact cR_ HO616); (case side2 => exact (Kd.R_reads' HO616.out).2.1); (case side3 => exact cR_ HO621); (case side4 => exact (Kd.R_reads' HO621.out).2.1); rintro e w' ⟨rfl, ⟨nd, rfl⟩⟩))
    go_meet
    case rel => exact ⟨_, (true), sR_, H', ⟨by first | omega | exact Nat.le_refl _⟩, ⟨by (with_reducible repeat (first | apply rA_ | apply rN_ | apply rD_)); exact Kd.R_mono HO604.out (fun _ hk => by first | exact ⟨hk.1.2, hk.1.1.1.2⟩ | (repeat' first | exact hk.2 | exact hk.1.2 | exact hk.1.1.2 | exact hk.1.1.1.2 | exact hk.1.1.1.1 | exact hk.1.1.1 | exact hk.1.1 | exact hk.1 | refine And.intro ?_ ?_))⟩, ⟨by (with_reducible repeat (first | apply rA_ | apply rN_ | apply rD_)); exact Kd.R_mono HO616.out (fun _ hk => by first | exact ⟨hk.1.1.2, hk.1.1.1.2⟩ | (repeat' first | exact hk.2 | exact hk.1.2 | exact hk.1.1.2 | exact hk.1.1.1.2 | exact hk.1.1.1.1 | exact hk.1.1.1 | exact hk.1.1 | exact hk.1 | refine And.intro ?_ ?_))⟩, ⟨by (with_reducible repeat (first | apply rA_ | apply rN_ | apply rD_)); exact Kd.R_mono HO600.out (fun _ hk => by first | exact ⟨hk.1.1.1.2, hk.1.2⟩ | (repeat' first | exact hk.2 | exact hk.1.2 | exact hk.1.1.2 | exact hk.1.1.1.2 | exact hk.1.1.1.1 | exact hk.1.1.1 | exact hk.1.1 | exact hk.1 | refine And.intro ?_ ?_))⟩, ⟨kk_ BK601⟩, ⟨bb_ HB⟩⟩
   have H' := aS_ H
   clear H
   obtain ⟨Ao70, co70, eo70⟩ := Kd.R_slice HO604.out
   subst eo70
   obtain ⟨Ao71, co71, eo71⟩ := Kd.R_slice HO608.out
   subst eo71
   go_wp2_with (first | (go_at_call 12; (with_reducible refine (laws_jSame.calls k _ _ t602 _ _ t606 true _ ?side1 ?side2 ?side3 ?side4 A29.out).mono ?_); (case side1 => exact cR_ HO604); (case side2 => exact (Kd.R_reads' HO604.out).2.1); (case side3 => exact cR_ HO608); (case side4 => exact (Kd.R_reads' HO608.out).2.1); rintro e w' ⟨rfl, ⟨nd, rfl⟩⟩))
   go_meet
   case rel => exact ⟨_, (true), sR_, H', ⟨by first | omega | exact Nat.le_refl _⟩, ⟨by (with_reducible repeat (first | apply rA_ | apply rN_ | apply rD_)); exact Kd.R_mono HO604.out (fun _ hk => by first | exact ⟨hk.1.2, hk.1.1.1.2⟩ | (repeat' first | exact hk.2 | exact hk.1.2 | exact hk.1.1.2 | exact hk.1.1.1.2 | exact hk.1.1.1.1 | exact hk.1.1.1 | exact hk.1.1 | exact hk.1 | refine And.intro ?_ ?_))⟩, ⟨by (with_reducible repeat (first | apply rA_ | apply rN_ | apply rD_)); exact Kd.R_mono HO616.out (fun _ hk => by first | exact ⟨hk.1.1.2, hk.1.1.1.2⟩ | (repeat' first | exact hk.2 | exact hk.1.2 | exact hk.1.1.2 | exact hk.1.1.1.2 | exact hk.1.1.1.1 | exact hk.1.1.1 | exact hk.1.1 | exact hk.1 | refine And.intro ?_ ?_))⟩, ⟨by (with_reducible repeat (first | apply rA_ | apply rN_ | apply rD_)); exact Kd.R_mono HO600.out (fun _ hk => by first | exact ⟨hk.1.1.1.2, hk.1.2⟩ | (repeat' first | exact hk.2 | exact hk.1.2 | exact hk.1.1.2 | exact hk.1.1.1.2 | exact hk.1.1.1.1 | exact hk.1.1.1 | exact hk.1.1 | exact hk.1 | refine And.intro ?_ ?_))⟩, ⟨kk_ BK601⟩, ⟨bb_ HB⟩⟩
  have H' := aS_ H
  clear H
  obtain ⟨Ao72, co72, eo72⟩ := Kd.R_slice HO604.out
  subst eo72
  obtain ⟨Ao73, co73, eo73⟩ := Kd.R_slice HO608.out
  subst eo73
  go_wp2_with (first | (go_at_call 12; (with_reducible refine (laws_jSame.calls k _ _ t602 _ _ t606 false _ ?side1 ?side2 ?side3 ?side4 A29.out).mono ?_); (case side1 => exact cR_ HO604); (case side2 => exact (Kd.R_reads' HO604.out).2.1); (case side3 => exact cR_ HO608); (case side4 => exact (Kd.R_reads' HO608.out).2.1); rintro e w' ⟨rfl, ⟨nd, rfl⟩⟩))
  go_meet
  case rel => exact ⟨_, (true), sR_, H', ⟨by first | omega | exact Nat.le_refl _⟩, ⟨by (with_reducible repeat (first | apply rA_ | apply rN_ | apply rD_)); exact Kd.R_mono HO604.out (fun _ hk => by first | exact ⟨hk.1.2, hk.1.1.1.2⟩ | (repeat' first | exact hk.2 | exact hk.1.2 | exact hk.1.1.2 | exact hk.1.1.1.2 | exact hk.1.1.1.1 | exact hk.1.1.1 | exact hk.1.1 | exact hk.1 | refine And.intro ?_ ?_))⟩, ⟨by (with_reducible repeat (first | apply rA_ | apply rN_ | apply rD_)); exact Kd.R_mono HO616.out (fun _ hk => by first | exact ⟨hk.1.1.2, hk.1.1.1.2⟩ | (repeat' first | exact hk.2 | exact hk.1.2 | exact hk.1.1.2 | exact hk.1.1.1.2 | exact hk.1.1.1.1 | exact hk.1.1.1 | exact hk.1.1 | exact hk.1 | refine And.intro ?_ ?_))⟩, ⟨by (with_reducible repeat (first | apply rA_ | apply rN_ | apply rD_)); exact Kd.R_mono HO600.out (fun _ hk => by first | exact ⟨hk.1.1.1.2, hk.1.2⟩ | (repeat' first | exact hk.2 | exact hk.1.2 | exact hk.1.1.2 | exact hk.1.1.1.2 | exact hk.1.1.1.1 | exact hk.1.1.1 | exact hk.1.1 | exact hk.1 | refine And.intro ?_ ?_))⟩, ⟨kk_ BK601⟩, ⟨bb_ HB⟩⟩
 case rest =>
 as_aux_lemma =>
 clear HC12
 try clear c1
 try clear hcz16_0
 try clear hcz18_0
 try clear hcz20_0
 try clear hcz22_0
 try clear hcz24_0
 try clear hcz26_0
 try clear hfz16_0
 try clear hfz18_0
 try clear hfz20_0
 try clear hfz22_0
 try clear hfz24_0
 try clear hfz26_0
 obtain ⟨kq, x130_11, rfl, HA, HJ11, HO_6, HO_14, HO_602000, BK601, HB⟩ := hcut
 cases kq with
 | zero => exact absurd HA.out (by simp [laws_FnInsertionOrders.j0])
 | succ kj11 =>
 have H := HA.out
 clear HA
 simp only [laws_FnInsertionOrders.j0] at H
 replace H := it_ H; rcases H with ⟨rfl, H⟩ | ⟨rfl, H⟩
 ·obtain rfl := Option.some.inj H
  go_wp2
  go_ret
  exact ⟨eR_, bb_ HB⟩
 as_aux_lemma =>
 have HC75 := aS_ H
 clear H
 go_upto_if 131 with (fail)
 go_cut [] (fun wc => ∃ (kq : Nat), Aside0 (laws_FnInsertionOrders.j1 kq l1 t602 t614 t617 t618 t598 = some r) ∧ Aside0 (kq ≤ kj11) ∧ Aside0 (Kd.R (Kd.int .i64) 3 wc w.heap.size (fun k_ => some k_ ≠ (v615 : Value).ownBlock ∧ some k_ ≠ ((.slice Ao15 t598.length co15) : Value).ownBlock) v603 t602) ∧ Aside0 (Kd.R (Kd.int .i64) 3 wc w.heap.size (fun k_ => some k_ ≠ (v603 : Value).ownBlock ∧ some k_ ≠ ((.slice Ao15 t598.length co15) : Value).ownBlock) v615 t614) ∧ Aside0 (Kd.R (Kd.int .i64) 3 wc w.heap.size (fun k_ => some k_ ≠ (v603 : Value).ownBlock ∧ some k_ ≠ (v615 : Value).ownBlock) (.slice Ao15 t598.length co15) t598) ∧ Aside0 (wc.heap[gb601]? = some (.cells #[(.slice Ao15 t598.length co15)] 26 (0, 0))) ∧ Aside0 (Below w.heap.size w wc))
 case first =>
  as_aux_lemma =>
  have H := HC75.out
  clear HC75
  by_cases c76 : t605 = true
  focus
   subst c76
   rw [if_pos rfl] at H
   replace H := bs_ H; obtain ⟨⟨t627, t630⟩, A77, H⟩ := H
   by_cases c78 : t630 = true
   focus
    subst c78
    rw [if_pos rfl] at H
    replace H := bs_ H; obtain ⟨t632, A79, H⟩ := H
    by_cases c80 : t632 = true
    ·as_aux_lemma =>
     subst c80
     rw [if_pos rfl] at H
     have H' := aS_ H
     clear H
     obtain ⟨hcz81_0, hfz81_0⟩ := c10_ BK601
     obtain ⟨Ao82, co82, eo82⟩ := Kd.R_slice HO_6.out
     subst eo82
     go_wp2_with (first | ((with_reducible refine gg_ ?_); refine gc_ 14 (some 137) Tryz.func14 #[.int .i64 (t598.length : Int), .slice Ao82 t602.length co82] ?_; (with_reducible refine (impl_TableOf.calls kj11 (t598.length : Int) _ _ t602 t627 true _ ?side1 ?side2 A77.out).mono ?_); (case side1 => exact cR_ HO_6); (case side2 => exact (Kd.R_reads' HO_6.out).2.1); rintro e w83 ⟨v628, rfl, ho0, hb⟩; refine ⟨_, rfl, ?_⟩; have HO629 := aS_ (Kd.R_lower (Kd.R_new' (Kd.R_new' (Kd.R_new' ho0 (Kd.R_lt (rr_ HO_6))) (Kd.R_lt (rr_ HO_14))) (Kd.R_lt (rr_ HO_602000))) (below_size (bb_ HB))); replace HO_6 := aS_ (Kd.R_elder' (rr_ HO_6) (Kd.R_base ho0) hb); replace HO_14 := aS_ (Kd.R_elder' (rr_ HO_14) (Kd.R_base ho0) hb); replace HO_602000 := aS_ (Kd.R_elder' (rr_ HO_602000) (Kd.R_base ho0) hb); replace BK601 := kO_ BK601 hb; replace HB := bE_ HB hb; (try clear hb); (try clear ho0)) | ((with_reducible refine gate_dst (N := 20) rfl ?_); (try (refine gate_guard (by rfl) ?_; dsimp only)); refine box_event ?hg (N := 20) ?hd (cs := #[.slice none 0 0]) (t := 26) ?hr ?_; (case hd => rfl); (case hg => rfl); (case hr => first | (go_simp; done) | (go_simp; rfl)); intro gb631 hg w84 hbox hb; replace HO_6 := aS_ (Kd.R_below (rr_ HO_6) hb); replace HO_14 := aS_ (Kd.R_below (rr_ HO_14) hb); replace HO_602000 := aS_ (Kd.R_below (rr_ HO_602000) hb); replace HO629 := aS_ (Kd.R_below (rr_ HO629) hb); have BK631 := aS_ (hbox); have GW631 := gE_ HB hg; have GE631 := gE_ HB hg; replace HB := bE_ HB hb; have NB601_631 := nL_ BK601 hg; have NB631_601 := nG_ BK601 hg; replace BK601 := kO_ BK601 hb; clear hb hbox hg; obtain ⟨Ao85, co85, eo85⟩ := Kd.R_slice HO629.out; subst eo85; have hnb86 := NB631_601.out; have hnc86 := NB601_631.out; obtain ⟨hcz87_0, hfz87_0⟩ := c10_ BK631; obtain ⟨hcz88_0, hfz88_0⟩ := c10_ BK601) | (go_at_call 15; (with_reducible refine (laws_jTable.calls kj11 _ _ t627 _ _ t598 true _ ?side1 ?side2 ?side3 ?side4 A79.out).mono ?_); (case side1 => refine (Kd.R_reads' (e := 3) (base := w.heap.size) (ok := fun k_ => (((True ∧ some k_ ≠ (.slice Ao82 t602.length co82 : Value).ownBlock) ∧ some k_ ≠ (v615 : Value).ownBlock) ∧ some k_ ≠ (.slice Ao15 t598.length co15 : Value).ownBlock)) (n := t627.length) (c := co85) ?_).2.2; exact (by (with_reducible repeat (first | apply rA_ | apply rN_ | apply rD_)); exact (Kd.R_mono (Kd.R_far (p := ⟨gb631, 0, none⟩) (Kd.R_types HO629.out BK631.out (by decide)) (fun _ hk => hk.2) (.slice Ao85 t627.length co85)) (fun _ h_ => h_.1)))); (case side2 => exact (Kd.R_reads' HO629.out).2.1); (case side3 => refine (Kd.R_reads' (e := 3) (base := w.heap.size) (ok := fun k_ => ((some k_ ≠ (.slice Ao82 t602.length co82 : Value).ownBlock ∧ some k_ ≠ (v615 : Value).ownBlock) ∧ some k_ ≠ (.slice Ao85 t627.length co85 : Value).ownBlock)) (n := t598.length) (c := co15) ?_).2.2; exact (by (with_reducible repeat (first | apply rA_ | apply rN_ | apply rD_)); exact (Kd.R_mono (Kd.R_far (p := ⟨gb631, 0, none⟩) (Kd.R_types HO_602000.out BK631.out (by decide)) (fun _ hk => hk.2) (.slice Ao85 t627.length co85)) (fun _ h_ => h_.1)))); (case side4 => exact (Kd.R_reads' HO_602000.out).2.1); rintro e w89 ⟨rfl, hb⟩; replace HO_6 := aS_ (Kd.R_below (by (with_reducible repeat (first | apply rA_ | apply rN_ | apply rD_)); exact (Kd.R_mono (Kd.R_far (p := ⟨gb631, 0, none⟩) (Kd.R_types HO_6.out BK631.out (by decide)) (fun _ hk => hk.2) (.slice Ao85 t627.length co85)) (fun _ h_ => h_.1))) hb); replace HO_14 := aS_ (Kd.R_below (by (with_reducible repeat (first | apply rA_ | apply rN_ | apply rD_)); exact (Kd.R_mono (Kd.R_far (p := ⟨gb631, 0, none⟩) (Kd.R_types HO_14.out BK631.out (by decide)) (fun _ hk => hk.2) (.slice Ao85 t627.length co85)) (fun _ h_ => h_.1))) hb); replace HO_602000 := aS_ (Kd.R_below (by (with_reducible repeat (first | apply rA_ | apply rN_ | apply rD_)); exact (Kd.R_mono (Kd.R_far (p := ⟨gb631, 0, none⟩) (Kd.R_types HO_602000.out BK631.out (by decide)) (fun _ hk => hk.2) (.slice Ao85 t627.length co85)) (fun _ h_ => h_.1))) hb); replace HO629 := aS_ (Kd.R_below (by (with_reducible repeat (first | apply rA_ | apply rN_ | apply rD_)); exact (Kd.R_mono (Kd.R_far (p := ⟨gb631, 0, none⟩) (Kd.R_types HO629.out BK631.out (by decide)) (fun _ hk => hk.2) (.slice Ao85 t627.length co85)) (fun _ h_ => h_.1))) hb); replace BK601 := aS_ (blk_below (g := gb601) (o := .cells #[.slice Ao15 t598.length co15] 26 (0, 0)) (by (with_reducible repeat (first | refine kN_ ?_ _ | refine kD_ ?_ | refine kA_ ?_ _)); refine blk_far ?_ NB601_631.out _; (with_reducible repeat (first | refine kN_ ?_ _ | refine kD_ ?_ | refine kA_ ?_ _)); exact BK601.out) hb); replace BK631 := aS_ (blk_below (g := gb631) (o := .cells #[.slice Ao85 t627.length co85] 26 (0, 0)) (by (with_reducible repeat (first | refine kN_ ?_ _ | refine kD_ ?_ | refine kA_ ?_ _)); refine blk_put (cs := #[.slice none 0 0]) ?_ 0 _ rfl; (with_reducible repeat (first | refine kN_ ?_ _ | refine kD_ ?_ | refine kA_ ?_ _)); exact BK631.out) hb); replace HB := bE_ HB hb; (try clear hb); (try clear hk)))
     go_meet
     case rel => exact ⟨_, H', ⟨by have := HJ11.out; first | omega | exact Nat.le_refl _⟩, ⟨by (with_reducible repeat (first | apply rA_ | apply rN_ | apply rD_)); exact Kd.R_mono HO_6.out (fun _ hk => by first | exact ⟨hk.1.1, hk.1.2⟩ | (repeat' first | exact hk.2 | exact hk.1.2 | exact hk.1.1.2 | exact hk.1.1.1.2 | exact hk.1.1.1.1 | exact hk.1.1.1 | exact hk.1.1 | exact hk.1 | refine And.intro ?_ ?_))⟩, ⟨by (with_reducible repeat (first | apply rA_ | apply rN_ | apply rD_)); exact Kd.R_mono HO_14.out (fun _ hk => by first | exact ⟨hk.1.1, hk.1.2⟩ | (repeat' first | exact hk.2 | exact hk.1.2 | exact hk.1.1.2 | exact hk.1.1.1.2 | exact hk.1.1.1.1 | exact hk.1.1.1 | exact hk.1.1 | exact hk.1 | refine And.intro ?_ ?_))⟩, ⟨by (with_reducible repeat (first | apply rA_ | apply rN_ | apply rD_)); exact Kd.R_mono HO_602000.out (fun _ hk => by first | exact ⟨hk.1.1, hk.1.2⟩ | (repeat' first | exact hk.2 | exact hk.1.2 | exact hk.1.1.2 | exact hk.1.1.1.2 | exact hk.1.1.1.1 | exact hk.1.1.1 | exact hk.1.1 | exact hk.1 | refine And.intro ?_ ?_))⟩, ⟨kk_ BK601⟩, ⟨bb_ HB⟩⟩
    focus
     replace c80 := Bool.eq_false_iff.mpr c80
     subst c80
     rw [if_neg (show ¬ (false = true) by decide)] at H
     obtain rfl := Option.some.inj H
     obtain ⟨hcz90_0, hfz90_0⟩ := c10_ BK601
     obtain ⟨Ao91, co91, eo91⟩ := Kd.R_slice HO_6.out
     subst eo91
    rotate_left 1
   rotate_left 1
   focus
    replace c78 := Bool.eq_false_iff.mpr c78
    subst c78
    rw [if_neg (show ¬ (false = true) by decide)] at H
    obtain rfl := Option.some.inj H
    obtain ⟨hcz99_0, hfz99_0⟩ := c10_ BK601
    obtain ⟨Ao91, co91, eo100⟩ := Kd.R_slice HO_6.out
    subst eo100
   rotate_left 1
  rotate_left 2
  ·replace c76 := Bool.eq_false_iff.mpr c76
   subst c76
   rw [if_neg (show ¬ (false = true) by decide)] at H
   have H' := aS_ H
   clear H
   go_wp2
   go_meet
   case rel => exact ⟨_, H', ⟨by have := HJ11.out; first | omega | exact Nat.le_refl _⟩, ⟨rr_ HO_6⟩, ⟨rr_ HO_14⟩, ⟨rr_ HO_602000⟩, ⟨kk_ BK601⟩, ⟨bb_ HB⟩⟩
  all_goals as_aux_lemma =>
  go_wp2_with (first | ((with_reducible refine gg_ ?_); refine gc_ 14 (some 137) Tryz.func14 #[.int .i64 (t598.length : Int), .slice Ao91 t602.length co91] ?_; (with_reducible refine (impl_TableOf.calls _ _ _ _ _ _ _ _ ?side1 ?side2 A77.out).mono ?_); (case side1 => exact cR_ HO_6); (case side2 => exact (Kd.R_reads' HO_6.out).2.1); rintro e w92 ⟨v628, rfl, ho0, hb⟩; refine ⟨_, rfl, ?_⟩; have HO629 := aS_ (Kd.R_lower (Kd.R_new' (Kd.R_new' (Kd.R_new' ho0 (Kd.R_lt (rr_ HO_6))) (Kd.R_lt (rr_ HO_14))) (Kd.R_lt (rr_ HO_602000))) (below_size (bb_ HB))); replace HO_6 := aS_ (Kd.R_elder' (rr_ HO_6) (Kd.R_base ho0) hb); replace HO_14 := aS_ (Kd.R_elder' (rr_ HO_14) (Kd.R_base ho0) hb); replace HO_602000 := aS_ (Kd.R_elder' (rr_ HO_602000) (Kd.R_base ho0) hb); replace BK601 := kO_ BK601 hb; replace HB := bE_ HB hb; (try clear hb); (try clear ho0)) | ((with_reducible refine gate_dst (N := 20) rfl ?_); (try (refine gate_guard (by rfl) ?_; dsimp only)); refine box_event ?hg (N := 20) ?hd (cs := #[.slice none 0 0]) (t := 26) ?hr ?_; (case hd => rfl); (case hg => rfl); (case hr => first | (go_simp; done) | (go_simp; rfl)); intro gb631 hg w93 hbox hb; replace HO_6 := aS_ (Kd.R_below (rr_ HO_6) hb); replace HO_14 := aS_ (Kd.R_below (rr_ HO_14) hb); replace HO_602000 := aS_ (Kd.R_below (rr_ HO_602000) hb); replace HO629 := aS_ (Kd.R_below (rr_ HO629) hb); have BK631 := aS_ (hbox); have GW631 := gE_ HB hg; have GE631 := gE_ HB hg; replace HB := bE_ HB hb; have NB601_631 := nL_ BK601 hg; have NB631_601 := nG_ BK601 hg; replace BK601 := kO_ BK601 hb; clear hb hbox hg; obtain ⟨Ao94, co94, eo94⟩ := Kd.R_slice HO629.out; subst eo94; have hnb95 := NB631_601.out; have hnc95 := NB601_631.out; obtain ⟨hcz96_0, hfz96_0⟩ := c10_ BK631; obtain ⟨hcz97_0, hfz97_0⟩ := c10_ BK601) | (go_at_call 15; (with_reducible refine (laws_jTable.calls _ _ _ _ _ _ _ _ _ ?side1 ?side2 ?side3 ?side4 A79.out).mono ?_); (case side1 => refine (Kd.R_reads' (e := 3) (base := w.heap.size) (ok := fun k_ => (((True ∧ some k_ ≠ (.slice Ao91 t602.length co91 : Value).ownBlock) ∧ some k_ ≠ (v615 : Value).ownBlock) ∧ some k_ ≠ (.slice Ao15 t598.length co15 : Value).ownBlock)) (n := t627.length) (c := co94) ?_).2.2; exact (by (with_reducible repeat (first | apply rA_ | apply rN_ | apply rD_)); exact (Kd.R_mono (Kd.R_far (p := ⟨gb631, 0, none⟩) (Kd.R_types HO629.out BK631.out (by decide)) (fun _ hk => hk.2) (.slice Ao94 t627.length co94)) (fun _ h_ => h_.1)))); (case side2 => exact (Kd.R_reads' HO629.out).2.1); (case side3 => refine (Kd.R_reads' (e := 3) (base := w.heap.size) (ok := fun k_ => ((some k_ ≠ (.slice Ao91 t602.length co91 : Value).ownBlock ∧ some k_ ≠ (v615 : Value).ownBlock) ∧ some k_ ≠ (.slice Ao94 t627.length co94 : Value).ownBlock)) (n := t598.length) (c := co15) ?_).2.2; exact (by (with_reducible repeat (first | apply rA_ | apply rN_ | apply rD_)); exact (Kd.R_mono (Kd.R_far (p := ⟨gb631, 0, none⟩) (Kd.R_types HO_602000.out BK631.out (by decide)) (fun _ hk => hk.2) (.slice Ao94 t627.length co94)) (fun _ h_ => h_.1)))); (case side4 => exact (Kd.R_reads' HO_602000.out).2.1); rintro e w98 ⟨rfl, hb⟩; replace HO_6 := aS_ (Kd.R_below (by (with_reducible repeat (first | apply rA_ | apply rN_ | apply rD_)); exact (Kd.R_mono (Kd.R_far (p := ⟨gb631, 0, none⟩) (Kd.R_types HO_6.out BK631.out (by decide)) (fun _ hk => hk.2) (.slice Ao94 t627.length co94)) (fun _ h_ => h_.1))) hb); replace HO_14 := aS_ (Kd.R_below (by (with_reducible repeat (first | apply rA_ | apply rN_ | apply rD_)); exact (Kd.R_mono (Kd.R_far (p := ⟨gb631, 0, none⟩) (Kd.R_types HO_14.out BK631.out (by decide)) (fun _ hk => hk.2) (.slice Ao94 t627.length co94)) (fun _ h_ => h_.1))) hb); replace HO_602000 := aS_ (Kd.R_below (by (with_reducible repeat (first | apply rA_ | apply rN_ | apply rD_)); exact (Kd.R_mono (Kd.R_far (p := ⟨gb631, 0, none⟩) (Kd.R_types HO_602000.out BK631.out (by decide)) (fun _ hk => hk.2) (.slice Ao94 t627.length co94)) (fun _ h_ => h_.1))) hb); replace HO629 := aS_ (Kd.R_below (by (with_reducible repeat (first | apply rA_ | apply rN_ | apply rD_)); exact (Kd.R_mono (Kd.R_far (p := ⟨gb631, 0, none⟩) (Kd.R_types HO629.out BK631.out (by decide)) (fun _ hk => hk.2) (.slice Ao94 t627.length co94)) (fun _ h_ => h_.1))) hb); replace BK601 := aS_ (blk_below (g := gb601) (o := .cells #[.slice Ao15 t598.length co15] 26 (0, 0)) (by (with_reducible repeat (first | refine kN_ ?_ _ | refine kD_ ?_ | refine kA_ ?_ _)); refine blk_far ?_ NB601_631.out _; (with_reducible repeat (first | refine kN_ ?_ _ | refine kD_ ?_ | refine kA_ ?_ _)); exact BK601.out) hb); replace BK631 := aS_ (blk_below (g := gb631) (o := .cells #[.slice Ao94 t627.length co94] 26 (0, 0)) (by (with_reducible repeat (first | refine kN_ ?_ _ | refine kD_ ?_ | refine kA_ ?_ _)); refine blk_put (cs := #[.slice none 0 0]) ?_ 0 _ rfl; (with_reducible repeat (first | refine kN_ ?_ _ | refine kD_ ?_ | refine kA_ ?_ _)); exact BK631.out) hb); replace HB := bE_ HB hb; (try clear hb); (try clear hk)))
  go_ret
  exact ⟨eR_, bb_ HB⟩
 case rest =>
 as_aux_lemma =>
 clear HC75
 try clear c1
 try clear hcz16_0
 try clear hcz18_0
 try clear hcz20_0
 try clear hcz22_0
 try clear hcz24_0
 try clear hcz26_0
 try clear hfz16_0
 try clear hfz18_0
 try clear hfz20_0
 try clear hfz22_0
 try clear hfz24_0
 try clear hfz26_0
 obtain ⟨kq, HA, HJ74, HO_6, HO_14, HO_602000, BK601, HB⟩ := hcut
 cases kq with
 | zero => exact absurd HA.out (by simp [laws_FnInsertionOrders.j1])
 | succ kj74 =>
 have H := HA.out
 clear HA
 simp only [laws_FnInsertionOrders.j1] at H
 have HC106 := aS_ H
 clear H
 go_upto_if 148 with (fail)
 go_cut [] (fun wc => ∃ (kq : Nat), Aside0 (laws_FnInsertionOrders.j4 kq l1 = some r) ∧ Aside0 (kq ≤ kj74) ∧ Aside0 (Kd.R (Kd.int .i64) 3 wc w.heap.size (fun _ => True) (.slice Ao15 t598.length co15) t598) ∧ Aside0 (wc.heap[gb601]? = some (.cells #[(.slice Ao15 t598.length co15)] 26 (0, 0))) ∧ Aside0 (Below w.heap.size w wc))
 case first =>
  as_aux_lemma =>
  have H := HC106.out
  clear HC106
  replace H := it_ H; rcases H with ⟨rfl, H⟩ | ⟨rfl, H⟩
  ·as_aux_lemma =>
   replace H := bs_ H; obtain ⟨⟨t633, t634⟩, A108, H⟩ := H
   have HC109 := aS_ H
   clear H
   obtain ⟨Ao110, co110, eo110⟩ := Kd.R_slice HO_14.out
   subst eo110
   go_upto_region 18 with (first | ((with_reducible refine gg_ ?_); refine gc_ 16 (some 152) Tryz.func16 #[.slice Ao110 t614.length co110, .int .i64 t617] ?_; (with_reducible refine (impl_DistancesOf.calls kj74 _ _ t614 t617 t633 t634 _ ?side1 ?side2 A108.out).mono ?_); (case side1 => exact cR_ HO_14); (case side2 => exact (Kd.R_reads' HO_14.out).2.1); rintro e w111 ⟨v635, rfl, ho0, hb⟩; refine ⟨_, rfl, ?_⟩; have HO636 := aS_ (Kd.R_lower (Kd.R_new' (Kd.R_new' (Kd.R_new' ho0 (Kd.R_lt (rr_ HO_6))) (Kd.R_lt (rr_ HO_14))) (Kd.R_lt (rr_ HO_602000))) (below_size (bb_ HB))); replace HO_6 := aS_ (Kd.R_elder' (rr_ HO_6) (Kd.R_base ho0) hb); replace HO_14 := aS_ (Kd.R_elder' (rr_ HO_14) (Kd.R_base ho0) hb); replace HO_602000 := aS_ (Kd.R_elder' (rr_ HO_602000) (Kd.R_base ho0) hb); replace BK601 := kO_ BK601 hb; replace HB := bE_ HB hb; (try clear hb); (try clear ho0)))
   (try simp only [Act.put, List.setIfInBounds_toArray, List.set_cons_zero, List.set_cons_succ])
   go_cut [163] (fun v163 wc => ∃ (kq : Nat) (x163_108 : Bool), v163 = .bool x163_108 ∧ Aside0 (laws_FnInsertionOrders.j2 kq l1 t602 t633 x163_108 t598 = some r) ∧ Aside0 (kq ≤ kj74) ∧ Aside0 (Kd.R (Kd.int .i64) 3 wc w.heap.size (fun k_ => some k_ ≠ (v635 : Value).ownBlock ∧ some k_ ≠ ((.slice Ao15 t598.length co15) : Value).ownBlock) v603 t602) ∧ Aside0 (Kd.R (Kd.int .i64) 3 wc w.heap.size (fun k_ => some k_ ≠ (v603 : Value).ownBlock ∧ some k_ ≠ ((.slice Ao15 t598.length co15) : Value).ownBlock) v635 t633) ∧ Aside0 (Kd.R (Kd.int .i64) 3 wc w.heap.size (fun k_ => some k_ ≠ (v603 : Value).ownBlock ∧ some k_ ≠ (v635 : Value).ownBlock) (.slice Ao15 t598.length co15) t598) ∧ Aside0 (wc.heap[gb601]? = some (.cells #[(.slice Ao15 t598.length co15)] 26 (0, 0))) ∧ Aside0 (Below w.heap.size w wc))
   case first =>
    as_aux_lemma =>
    have H := HC109.out
    clear HC109
    replace H := it_ H; rcases H with ⟨rfl, H⟩ | ⟨rfl, H⟩
    ·have H' := aS_ H
     clear H
     obtain ⟨Ao113, co113, eo113⟩ := Kd.R_slice HO636.out
     subst eo113
     obtain ⟨Ao114, co114, eo114⟩ := Kd.R_slice HO_6.out
     subst eo114
     go_wp2
     go_meet
     case rel => exact ⟨_, (((t633.length : Int) != (t602.length : Int))), sR_, H', ⟨by have := HJ11.out; have := HJ74.out; first | omega | exact Nat.le_refl _⟩, ⟨by (with_reducible repeat (first | apply rA_ | apply rN_ | apply rD_)); exact Kd.R_mono HO_6.out (fun _ hk => by first | exact ⟨hk.2, hk.1.2⟩ | (repeat' first | exact hk.2 | exact hk.1.2 | exact hk.1.1.2 | exact hk.1.1.1.2 | exact hk.1.1.1.1 | exact hk.1.1.1 | exact hk.1.1 | exact hk.1 | refine And.intro ?_ ?_))⟩, ⟨by (with_reducible repeat (first | apply rA_ | apply rN_ | apply rD_)); exact Kd.R_mono HO636.out (fun _ hk => by first | exact ⟨hk.1.1.2, hk.2⟩ | (repeat' first | exact hk.2 | exact hk.1.2 | exact hk.1.1.2 | exact hk.1.1.1.2 | exact hk.1.1.1.1 | exact hk.1.1.1 | exact hk.1.1 | exact hk.1 | refine And.intro ?_ ?_))⟩, ⟨by (with_reducible repeat (first | apply rA_ | apply rN_ | apply rD_)); exact Kd.R_mono HO_602000.out (fun _ hk => by first | exact ⟨hk.1.1, hk.2⟩ | (repeat' first | exact hk.2 | exact hk.1.2 | exact hk.1.1.2 | exact hk.1.1.1.2 | exact hk.1.1.1.1 | exact hk.1.1.1 | exact hk.1.1 | exact hk.1 | refine And.intro ?_ ?_))⟩, ⟨kk_ BK601⟩, ⟨bb_ HB⟩⟩
    have H' := aS_ H
    clear H
    go_wp2
    go_meet
    case rel => exact ⟨_, (true), sR_, H', ⟨by have := HJ11.out; have := HJ74.out; first | omega | exact Nat.le_refl _⟩, ⟨by (with_reducible repeat (first | apply rA_ | apply rN_ | apply rD_)); exact Kd.R_mono HO_6.out (fun _ hk => by first | exact ⟨hk.2, hk.1.2⟩ | (repeat' first | exact hk.2 | exact hk.1.2 | exact hk.1.1.2 | exact hk.1.1.1.2 | exact hk.1.1.1.1 | exact hk.1.1.1 | exact hk.1.1 | exact hk.1 | refine And.intro ?_ ?_))⟩, ⟨by (with_reducible repeat (first | apply rA_ | apply rN_ | apply rD_)); exact Kd.R_mono HO636.out (fun _ hk => by first | exact ⟨hk.1.1.2, hk.2⟩ | (repeat' first | exact hk.2 | exact hk.1.2 | exact hk.1.1.2 | exact hk.1.1.1.2 | exact hk.1.1.1.1 | exact hk.1.1.1 | exact hk.1.1 | exact hk.1 | refine And.intro ?_ ?_))⟩, ⟨by (with_reducible repeat (first | apply rA_ | apply rN_ | apply rD_)); exact Kd.R_mono HO_602000.out (fun _ hk => by first | exact ⟨hk.1.1, hk.2⟩ | (repeat' first | exact hk.2 | exact hk.1.2 | exact hk.1.1.2 | exact hk.1.1.1.2 | exact hk.1.1.1.1 | exact hk.1.1.1 | exact hk.1.1 | exact hk.1 | refine And.intro ?_ ?_))⟩, ⟨kk_ BK601⟩, ⟨bb_ HB⟩⟩
   case rest =>
   as_aux_lemma =>
   clear HC109
   try clear c1
   try clear hcz16_0
   try clear hcz18_0
   try clear hcz20_0
   try clear hcz22_0
   try clear hcz24_0
   try clear hcz26_0
   try clear hfz16_0
   try clear hfz18_0
   try clear hfz20_0
   try clear hfz22_0
   try clear hfz24_0
   try clear hfz26_0
   obtain ⟨kq, x163_108, rfl, HA, HJ108, HO_6, HO_22, HO_602000, BK601, HB⟩ := hcut
   cases kq with
   | zero => exact absurd HA.out (by simp [laws_FnInsertionOrders.j2])
   | succ kj108 =>
   have H := HA.out
   clear HA
   simp only [laws_FnInsertionOrders.j2] at H
   replace H := it_ H; rcases H with ⟨rfl, H⟩ | ⟨rfl, H⟩
   ·obtain rfl := Option.some.inj H
    go_wp2
    go_ret
    exact ⟨eR_, bb_ HB⟩
   as_aux_lemma =>
   have H' := aS_ H
   clear H
   obtain ⟨Ao116, co116, eo116⟩ := Kd.R_slice HO_6.out
   subst eo116
   go_wp2
   go_loopg [166] kj108 (fun kq v166 w' => ∃ (x166_4 : Int), v166 = .int .i64 x166_4 ∧ Aside0 (laws_FnInsertionOrders.l0 kq l1 t633 t602 (t602.length : Int) x166_4 t598 = some r) ∧ Aside0 (kq ≤ kj108) ∧ Aside0 (Kd.R (Kd.int .i64) 3 w' w.heap.size (fun k_ => some k_ ≠ ((.slice Ao116 t602.length co116) : Value).ownBlock ∧ some k_ ≠ ((.slice Ao15 t598.length co15) : Value).ownBlock) v635 t633) ∧ Aside0 (Kd.R (Kd.int .i64) 3 w' w.heap.size (fun k_ => some k_ ≠ (v635 : Value).ownBlock ∧ some k_ ≠ ((.slice Ao15 t598.length co15) : Value).ownBlock) (.slice Ao116 t602.length co116) t602) ∧ Aside0 (Kd.R (Kd.int .i64) 3 w' w.heap.size (fun k_ => some k_ ≠ (v635 : Value).ownBlock ∧ some k_ ≠ ((.slice Ao116 t602.length co116) : Value).ownBlock) (.slice Ao15 t598.length co15) t598) ∧ Aside0 (w'.heap[gb601]? = some (.cells #[(.slice Ao15 t598.length co15)] 26 (0, 0))) ∧ Aside0 (Below w.heap.size w w'))
   case atStart => exact ⟨(0), sR_, H', ⟨Nat.le_refl _⟩, ⟨rr_ HO_22⟩, ⟨rr_ HO_6⟩, ⟨by (with_reducible repeat (first | apply rA_ | apply rN_ | apply rD_)); exact Kd.R_mono HO_602000.out (fun _ hk => by first | exact ⟨hk.2, hk.1⟩ | (repeat' first | exact hk.2 | exact hk.1.2 | exact hk.1.1.2 | exact hk.1.1.1.2 | exact hk.1.1.1.1 | exact hk.1.1.1 | exact hk.1.1 | exact hk.1 | refine And.intro ?_ ?_))⟩, ⟨kk_ BK601⟩, ⟨bb_ HB⟩⟩
   case round =>
   clear H'
   try clear c1
   try clear hcz16_0
   try clear hcz18_0
   try clear hcz20_0
   try clear hcz22_0
   try clear hcz24_0
   try clear hcz26_0
   try clear hfz16_0
   try clear hfz18_0
   try clear hfz20_0
   try clear hfz22_0
   try clear hfz24_0
   try clear hfz26_0
   obtain ⟨x166_4, rfl, HA, HK4, HO_22, HO_164, HO_602000, BK601, HB⟩ := hrel
   cases gk with
   | zero => exact absurd HA.out (by simp [laws_FnInsertionOrders.l0])
   | succ k4 =>
   have H := HA.out
   clear HA
   simp only [laws_FnInsertionOrders.l0] at H
   replace H := id_ H; rcases H with ⟨c117b0, H⟩ | ⟨c117b0, H⟩
   ·as_aux_lemma =>
    replace H := jd_ H; obtain ⟨c118b0, H⟩ := H
    as_aux_lemma =>
    replace H := jd_ H; obtain ⟨c119b0, H⟩ := H
    as_aux_lemma =>
    replace H := bs_ H; obtain ⟨⟨t638, t639, t640⟩, A120, H⟩ := H
    replace H := it_ H; rcases H with ⟨rfl, H⟩ | ⟨rfl, H⟩
    ·as_aux_lemma =>
     replace H := jd_ H; obtain ⟨c122b0, H⟩ := H
     as_aux_lemma =>
     replace H := iq_ H; rcases H with ⟨c123b0, c123b1, H⟩ | ⟨c123b0, c123b1, c123, H⟩
     ·have H' := aS_ H
      clear H
      have p637 : 0 ≤ (x166_4 : Int) := of_decide_eq_true (by assumption)
      have q637 : x166_4 < (t602.length : Int) := of_decide_eq_true (by assumption)
      obtain ⟨ad637, e637, hx637_0⟩ := Kd.at_int (Kd.R_reads' HO_164.out).2.2 x166_4 p637 q637
      cases e637
      replace p637 := eq_true p637
      replace q637 := eq_true q637
      obtain ⟨hcz124_0, hfz124_0⟩ := c10_ BK601
      go_wp2_with (first | ((with_reducible refine gg_ ?_); refine gc_ 17 (some 174) Tryz.func17 #[.agg #[.slice Ao15 t598.length co15], .int .i64 (rd t602 x166_4)] ?_; (with_reducible refine (impl_FindKey.calls k4 _ _ t598 (rd t602 x166_4) t638 t639 true _ ?side1 ?side2 A120.out).mono ?_); (case side1 => exact cR_ HO_602000); (case side2 => exact (Kd.R_reads' HO_602000.out).2.1); rintro e w125 ⟨rfl, hb⟩; refine ⟨_, rfl, ?_⟩; replace HO_22 := aS_ (Kd.R_below (rr_ HO_22) hb); replace HO_164 := aS_ (Kd.R_below (rr_ HO_164) hb); replace HO_602000 := aS_ (Kd.R_below (rr_ HO_602000) hb); replace BK601 := kO_ BK601 hb; replace HB := bE_ HB hb; (try clear hb); obtain ⟨Ao126, co126, eo126⟩ := Kd.R_slice HO_22.out; subst eo126; have p641 : 0 ≤ (x166_4 : Int) := of_decide_eq_true (by assumption); have q641 : x166_4 < (t633.length : Int) := of_decide_eq_true (by assumption); obtain ⟨ad641, e641, hx641_0⟩ := Kd.at_int (Kd.R_reads' HO_22.out).2.2 x166_4 p641 q641; cases e641; replace p641 := eq_true p641; replace q641 := eq_true q641))
      go_roundg k4
      case measure => have := HJ11.out; have := HJ74.out; have := HJ108.out; have := HK4.out; omega
      case rel => exact ⟨(wrap64 (x166_4 + 1)), sR_, H', ⟨by have := HJ11.out; have := HJ74.out; have := HJ108.out; have := HK4.out; omega⟩, ⟨rr_ HO_22⟩, ⟨rr_ HO_164⟩, ⟨rr_ HO_602000⟩, ⟨kk_ BK601⟩, ⟨bb_ HB⟩⟩
     obtain rfl := Option.some.inj H
     have p637 : 0 ≤ (x166_4 : Int) := of_decide_eq_true (by assumption)
     have q637 : x166_4 < (t602.length : Int) := of_decide_eq_true (by assumption)
     obtain ⟨ad637, e637, hx637_0⟩ := Kd.at_int (Kd.R_reads' HO_164.out).2.2 x166_4 p637 q637
     cases e637
     replace p637 := eq_true p637
     replace q637 := eq_true q637
     obtain ⟨hcz127_0, hfz127_0⟩ := c10_ BK601
     go_wp2_with (first | ((with_reducible refine gg_ ?_); refine gc_ 17 (some 174) Tryz.func17 #[.agg #[.slice Ao15 t598.length co15], .int .i64 (rd t602 x166_4)] ?_; (with_reducible refine (impl_FindKey.calls k4 _ _ t598 (rd t602 x166_4) t638 t639 true _ ?side1 ?side2 A120.out).mono ?_); (case side1 => exact cR_ HO_602000); (case side2 => exact (Kd.R_reads' HO_602000.out).2.1); rintro e w128 ⟨rfl, hb⟩; refine ⟨_, rfl, ?_⟩; replace HO_22 := aS_ (Kd.R_below (rr_ HO_22) hb); replace HO_164 := aS_ (Kd.R_below (rr_ HO_164) hb); replace HO_602000 := aS_ (Kd.R_below (rr_ HO_602000) hb); replace BK601 := kO_ BK601 hb; replace HB := bE_ HB hb; (try clear hb); obtain ⟨Ao129, co129, eo129⟩ := Kd.R_slice HO_22.out; subst eo129; have p641 : 0 ≤ (x166_4 : Int) := of_decide_eq_true (by assumption); have q641 : x166_4 < (t633.length : Int) := of_decide_eq_true (by assumption); obtain ⟨ad641, e641, hx641_0⟩ := Kd.at_int (Kd.R_reads' HO_22.out).2.2 x166_4 p641 q641; cases e641; replace p641 := eq_true p641; replace q641 := eq_true q641))
     go_ret
     exact ⟨eR_, bb_ HB⟩
    obtain rfl := Option.some.inj H
    have p637 : 0 ≤ (x166_4 : Int) := of_decide_eq_true (by assumption)
    have q637 : x166_4 < (t602.length : Int) := of_decide_eq_true (by assumption)
    obtain ⟨ad637, e637, hx637_0⟩ := Kd.at_int (Kd.R_reads' HO_164.out).2.2 x166_4 p637 q637
    cases e637
    replace p637 := eq_true p637
    replace q637 := eq_true q637
    obtain ⟨hcz130_0, hfz130_0⟩ := c10_ BK601
    go_wp2_with (first | ((with_reducible refine gg_ ?_); refine gc_ 17 (some 174) Tryz.func17 #[.agg #[.slice Ao15 t598.length co15], .int .i64 (rd t602 x166_4)] ?_; (with_reducible refine (impl_FindKey.calls k4 _ _ t598 (rd t602 x166_4) t638 t639 false _ ?side1 ?side2 A120.out).mono ?_); (case side1 => exact cR_ HO_602000); (case side2 => exact (Kd.R_reads' HO_602000.out).2.1); rintro e w131 ⟨rfl, hb⟩; refine ⟨_, rfl, ?_⟩; replace HO_22 := aS_ (Kd.R_below (rr_ HO_22) hb); replace HO_164 := aS_ (Kd.R_below (rr_ HO_164) hb); replace HO_602000 := aS_ (Kd.R_below (rr_ HO_602000) hb); replace BK601 := kO_ BK601 hb; replace HB := bE_ HB hb; (try clear hb)))
    go_ret
    exact ⟨eR_, bb_ HB⟩
   have H' := aS_ H
   clear H
   go_wp2
   go_meet
   case rel => exact ⟨_, H', ⟨by have := HJ11.out; have := HJ74.out; have := HJ108.out; have := HK4.out; first | omega | exact Nat.le_refl _⟩, ⟨by (with_reducible repeat (first | apply rA_ | apply rN_ | apply rD_)); exact Kd.R_mono HO_602000.out (fun _ hk => trivial)⟩, ⟨kk_ BK601⟩, ⟨bb_ HB⟩⟩
  have H' := aS_ H
  clear H
  go_wp2
  go_meet
  case rel => exact ⟨_, H', ⟨by have := HJ11.out; have := HJ74.out; first | omega | exact Nat.le_refl _⟩, ⟨by (with_reducible repeat (first | apply rA_ | apply rN_ | apply rD_)); exact Kd.R_mono HO_602000.out (fun _ hk => trivial)⟩, ⟨kk_ BK601⟩, ⟨bb_ HB⟩⟩
 case rest =>
 as_aux_lemma =>
 clear HC106
 try clear c1
 try clear hcz16_0
 try clear hcz18_0
 try clear hcz20_0
 try clear hcz22_0
 try clear hcz24_0
 try clear hcz26_0
 try clear hfz16_0
 try clear hfz18_0
 try clear hfz20_0
 try clear hfz22_0
 try clear hfz24_0
 try clear hfz26_0
 obtain ⟨kq, HA, HJ105, HO_602000, BK601, HB⟩ := hcut
 cases kq with
 | zero => exact absurd HA.out (by simp [laws_FnInsertionOrders.j4])
 | succ kj105 =>
 have H := HA.out
 clear HA
 simp only [laws_FnInsertionOrders.j4] at H
 replace H := bs_ H; obtain ⟨t642, A132, H⟩ := H
 replace H := bs_ H; obtain ⟨⟨t646, t647⟩, A133, H⟩ := H
 replace H := bs_ H; obtain ⟨⟨t648, t649⟩, A134, H⟩ := H
 have HC135 := aS_ H
 clear H
 go_upto_region 30 with (first | ((with_reducible refine gg_ ?_); refine gc_ 18 (some 190) Tryz.func18 #[.slice A1 l1.length c1] ?_; (with_reducible refine (spec_DrawTableText.calls kj105 _ _ l1 t642 _ ?side1 ?side2 A132.out).mono ?_); (case side1 => exact cB_ HR1 HB); (case side2 => exact HC1.out); rintro e w136 ⟨v643, rfl, ho0, hb⟩; refine ⟨_, rfl, ?_⟩; have HO644 := aS_ (Kd.R_lower (Kd.R_new' ho0 (Kd.R_lt (rr_ HO_602000))) (below_size (bb_ HB))); replace HO_602000 := aS_ (Kd.R_elder' (rr_ HO_602000) (Kd.R_base ho0) hb); replace BK601 := kO_ BK601 hb; replace HB := bE_ HB hb; (try clear hb); (try clear ho0)) | ((with_reducible refine gate_dst (N := 29) rfl ?_); (try (refine gate_guard (by rfl) ?_; dsimp only)); refine box_event ?hg (N := 29) ?hd (cs := #[.slice none 0 0]) (t := 26) ?hr ?_; (case hd => rfl); (case hg => rfl); (case hr => first | (go_simp; done) | (go_simp; rfl)); intro gb645 hg w137 hbox hb; replace HO_602000 := aS_ (Kd.R_below (rr_ HO_602000) hb); replace HO644 := aS_ (Kd.R_below (rr_ HO644) hb); have BK645 := aS_ (hbox); have GW645 := gE_ HB hg; have GE645 := gE_ HB hg; replace HB := bE_ HB hb; have NB601_645 := nL_ BK601 hg; have NB645_601 := nG_ BK601 hg; replace BK601 := kO_ BK601 hb; clear hb hbox hg; obtain ⟨Ao138, co138, eo138⟩ := Kd.R_slice HO644.out; subst eo138; have hnb139 := NB645_601.out; have hnc139 := NB601_645.out; obtain ⟨hcz140_0, hfz140_0⟩ := c10_ BK645) | ((with_reducible refine gg_ ?_); refine gc_ 19 (some 193) Tryz.func19 #[.agg #[.slice Ao138 t642.length co138]] ?_; (with_reducible refine (impl_TableText.calls kj105 _ _ t642 t646 t647 _ ?side1 ?side2 ?sideG A133.out).mono ?_); (case sideG => exact GT.on HG.out.tab (bb_ HB)); (case side1 => refine (Kd.R_reads' (e := 3) (base := w.heap.size) (ok := fun k_ => (True ∧ some k_ ≠ (.slice Ao15 t598.length co15 : Value).ownBlock)) (n := t642.length) (c := co138) ?_).2.2; exact (by (with_reducible repeat (first | apply rA_ | apply rN_ | apply rD_)); exact (Kd.R_mono (Kd.R_far (p := ⟨gb645, 0, none⟩) (Kd.R_types HO644.out BK645.out (by decide)) (fun _ hk => hk.2) (.slice Ao138 t642.length co138)) (fun _ h_ => h_.1)))); (case side2 => exact (Kd.R_reads' HO644.out).2.1); rintro e w141 ⟨rfl, hb⟩; refine ⟨_, rfl, ?_⟩; replace HO_602000 := aS_ (Kd.R_below (by (with_reducible repeat (first | apply rA_ | apply rN_ | apply rD_)); exact (Kd.R_mono (Kd.R_far (p := ⟨gb645, 0, none⟩) (Kd.R_types HO_602000.out BK645.out (by decide)) (fun _ hk => hk.2) (.slice Ao138 t642.length co138)) (fun _ h_ => h_.1))) hb); replace HO644 := aS_ (Kd.R_below (by (with_reducible repeat (first | apply rA_ | apply rN_ | apply rD_)); exact (Kd.R_mono (Kd.R_far (p := ⟨gb645, 0, none⟩) (Kd.R_types HO644.out BK645.out (by decide)) (fun _ hk => hk.2) (.slice Ao138 t642.length co138)) (fun _ h_ => h_.1))) hb); replace BK601 := aS_ (blk_below (g := gb601) (o := .cells #[.slice Ao15 t598.length co15] 26 (0, 0)) (by (with_reducible repeat (first | refine kN_ ?_ _ | refine kD_ ?_ | refine kA_ ?_ _)); refine blk_far ?_ NB601_645.out _; (with_reducible repeat (first | refine kN_ ?_ _ | refine kD_ ?_ | refine kA_ ?_ _)); exact BK601.out) hb); replace BK645 := aS_ (blk_below (g := gb645) (o := .cells #[.slice Ao138 t642.length co138] 26 (0, 0)) (by (with_reducible repeat (first | refine kN_ ?_ _ | refine kD_ ?_ | refine kA_ ?_ _)); refine blk_put (cs := #[.slice none 0 0]) ?_ 0 _ rfl; (with_reducible repeat (first | refine kN_ ?_ _ | refine kD_ ?_ | refine kA_ ?_ _)); exact BK645.out) hb); replace HB := bE_ HB hb; (try clear hb); (try clear hk); obtain ⟨hcz142_0, hfz142_0⟩ := c10_ BK645) | ((with_reducible refine gg_ ?_); refine gc_ 20 (some 198) Tryz.func20 #[.agg #[.slice Ao138 t642.length co138]] ?_; (with_reducible refine (spec_TableText.calls kj105 _ _ t642 t648 t649 _ ?side1 ?side2 A134.out).mono ?_); (case side1 => exact cR_ HO644); (case side2 => exact (Kd.R_reads' HO644.out).2.1); rintro e w143 ⟨rfl, hb⟩; refine ⟨_, rfl, ?_⟩; replace HO_602000 := aS_ (Kd.R_below (rr_ HO_602000) hb); replace HO644 := aS_ (Kd.R_below (rr_ HO644) hb); replace BK601 := kO_ BK601 hb; replace BK645 := kO_ BK645 hb; replace HB := bE_ HB hb; (try clear hb)))
 (try simp only [Act.put, List.setIfInBounds_toArray, List.set_cons_zero, List.set_cons_succ])
 go_cut [208] (fun v208 wc => ∃ (kq : Nat) (x208_134 : Bool), v208 = .bool x208_134 ∧ Aside0 (laws_FnInsertionOrders.j5 kq l1 t646 t647 x208_134 t642 = some r) ∧ Aside0 (kq ≤ kj105) ∧ Aside0 (Kd.R (Kd.int .i64) 3 wc w.heap.size (fun k_ => some k_ ≠ ((.slice Ao138 t642.length co138) : Value).ownBlock) (.slice Ao15 t598.length co15) t598) ∧ Aside0 (Kd.R (Kd.int .i64) 3 wc w.heap.size (fun k_ => some k_ ≠ ((.slice Ao15 t598.length co15) : Value).ownBlock) (.slice Ao138 t642.length co138) t642) ∧ Aside0 (wc.heap[gb601]? = some (.cells #[(.slice Ao15 t598.length co15)] 26 (0, 0))) ∧ Aside0 (wc.heap[gb645]? = some (.cells #[(.slice Ao138 t642.length co138)] 26 (0, 0))) ∧ Aside0 (Below w.heap.size w wc))
 case first =>
  as_aux_lemma =>
  have H := HC135.out
  clear HC135
  replace H := ib_ H; rcases H with ⟨c144b0, c144b1, c144b2, c144b3, H⟩ | ⟨c144b0, c144b1, c144b2, H⟩
  ·(first | rw [c144b0] | (simp only [i64_w, i32_w]; rw [c144b0]) | skip)
   have H' := aS_ H
   clear H
   go_wp2
   go_meet
   case rel => exact ⟨_, (true), sR_, H', ⟨by have := HJ11.out; have := HJ74.out; have := HJ105.out; first | omega | exact Nat.le_refl _⟩, ⟨by (with_reducible repeat (first | apply rA_ | apply rN_ | apply rD_)); exact Kd.R_mono HO_602000.out (fun _ hk => hk.2)⟩, ⟨by (with_reducible repeat (first | apply rA_ | apply rN_ | apply rD_)); exact Kd.R_mono HO644.out (fun _ hk => hk.2)⟩, ⟨kk_ BK601⟩, ⟨kk_ BK645⟩, ⟨bb_ HB⟩⟩
  (first | rw [c144b0] | (simp only [i64_w, i32_w]; rw [c144b0]) | skip)
  have H' := aS_ H
  clear H
  go_wp2
  go_meet
  case rel => exact ⟨_, ((t646.toList != t648.toList)), sR_, H', ⟨by have := HJ11.out; have := HJ74.out; have := HJ105.out; first | omega | exact Nat.le_refl _⟩, ⟨by (with_reducible repeat (first | apply rA_ | apply rN_ | apply rD_)); exact Kd.R_mono HO_602000.out (fun _ hk => hk.2)⟩, ⟨by (with_reducible repeat (first | apply rA_ | apply rN_ | apply rD_)); exact Kd.R_mono HO644.out (fun _ hk => hk.2)⟩, ⟨kk_ BK601⟩, ⟨kk_ BK645⟩, ⟨bb_ HB⟩⟩
 case rest =>
 as_aux_lemma =>
 clear HC135
 try clear c1
 try clear hcz140_0
 try clear hcz142_0
 try clear hcz16_0
 try clear hcz18_0
 try clear hcz20_0
 try clear hcz22_0
 try clear hcz24_0
 try clear hcz26_0
 try clear hfz140_0
 try clear hfz142_0
 try clear hfz16_0
 try clear hfz18_0
 try clear hfz20_0
 try clear hfz22_0
 try clear hfz24_0
 try clear hfz26_0
 obtain ⟨kq, x208_134, rfl, HA, HJ134, HO_602000, HO_646000, BK601, BK645, HB⟩ := hcut
 cases kq with
 | zero => exact absurd HA.out (by simp [laws_FnInsertionOrders.j5])
 | succ kj134 =>
 have H := HA.out
 clear HA
 simp only [laws_FnInsertionOrders.j5] at H
 replace H := it_ H; rcases H with ⟨rfl, H⟩ | ⟨rfl, H⟩
 ·obtain rfl := Option.some.inj H
  go_wp2
  go_ret
  exact ⟨eR_, bb_ HB⟩
 as_aux_lemma =>
 have HC146 := aS_ H
 clear H
 go_upto_if 209 with (fail)
 go_cut [] (fun wc => ∃ (kq : Nat), Aside0 (laws_FnInsertionOrders.j6 kq l1 = some r) ∧ Aside0 (kq ≤ kj134) ∧ Aside0 (Kd.R (Kd.int .i64) 3 wc w.heap.size (fun k_ => some k_ ≠ ((.slice Ao138 t642.length co138) : Value).ownBlock) (.slice Ao15 t598.length co15) t598) ∧ Aside0 (Kd.R (Kd.int .i64) 3 wc w.heap.size (fun k_ => some k_ ≠ ((.slice Ao15 t598.length co15) : Value).ownBlock) (.slice Ao138 t642.length co138) t642) ∧ Aside0 (wc.heap[gb601]? = some (.cells #[(.slice Ao15 t598.length co15)] 26 (0, 0))) ∧ Aside0 (wc.heap[gb645]? = some (.cells #[(.slice Ao138 t642.length co138)] 26 (0, 0))) ∧ Aside0 (Below w.heap.size w wc))
 case first =>
  as_aux_lemma =>
  have H := HC146.out
  clear HC146
  by_cases c147 : t647 = true
  focus
   subst c147
   rw [if_pos rfl] at H
   replace H := bs_ H; obtain ⟨⟨t650, t653⟩, A148, H⟩ := H
   by_cases c149 : t653 = true
   focus
    subst c149
    rw [if_pos rfl] at H
    replace H := bs_ H; obtain ⟨t655, A150, H⟩ := H
    by_cases c151 : t655 = true
    ·as_aux_lemma =>
     subst c151
     rw [if_pos rfl] at H
     have H' := aS_ H
     clear H
     go_wp2_with (first | ((with_reducible refine gg_ ?_); refine gc_ 21 (some 212) Tryz.func21 #[.string t646] ?_; (with_reducible refine (impl_ParseTable.calls kj134 t646 t650 true _ ?sideG A148.out).mono ?_); (case sideG => exact GP.on HG.out (bb_ HB)); rintro e w152 ⟨v651, rfl, ho0, hb⟩; refine ⟨_, rfl, ?_⟩; have HO652 := aS_ (Kd.R_lower (Kd.R_new' (Kd.R_new' ho0 (Kd.R_lt (rr_ HO_602000))) (Kd.R_lt (rr_ HO_646000))) (below_size (bb_ HB))); replace HO_602000 := aS_ (Kd.R_elder' (rr_ HO_602000) (Kd.R_base ho0) hb); replace HO_646000 := aS_ (Kd.R_elder' (rr_ HO_646000) (Kd.R_base ho0) hb); replace BK601 := kO_ BK601 hb; replace BK645 := kO_ BK645 hb; replace HB := bE_ HB hb; (try clear hb); (try clear ho0)) | ((with_reducible refine gate_dst (N := 34) rfl ?_); (try (refine gate_guard (by rfl) ?_; dsimp only)); refine box_event ?hg (N := 34) ?hd (cs := #[.slice none 0 0]) (t := 26) ?hr ?_; (case hd => rfl); (case hg => rfl); (case hr => first | (go_simp; done) | (go_simp; rfl)); intro gb654 hg w153 hbox hb; replace HO_602000 := aS_ (Kd.R_below (rr_ HO_602000) hb); replace HO_646000 := aS_ (Kd.R_below (rr_ HO_646000) hb); replace HO652 := aS_ (Kd.R_below (rr_ HO652) hb); have BK654 := aS_ (hbox); have GW654 := gE_ HB hg; have GE654 := gE_ HB hg; replace HB := bE_ HB hb; have NB601_654 := nL_ BK601 hg; have NB654_601 := nG_ BK601 hg; replace BK601 := kO_ BK601 hb; have NB645_654 := nL_ BK645 hg; have NB654_645 := nG_ BK645 hg; replace BK645 := kO_ BK645 hb; clear hb hbox hg; obtain ⟨Ao154, co154, eo154⟩ := Kd.R_slice HO652.out; subst eo154; have hnb155 := NB654_601.out; have hnc155 := NB601_654.out; have hnb156 := NB654_645.out; have hnc156 := NB645_654.out; obtain ⟨hcz157_0, hfz157_0⟩ := c10_ BK654; have hnb158 := NB645_601.out; have hnc158 := NB601_645.out; obtain ⟨hcz159_0, hfz159_0⟩ := c10_ BK645) | (go_at_call 15; (with_reducible refine (laws_jTable.calls kj134 _ _ t650 _ _ t642 true _ ?side1 ?side2 ?side3 ?side4 A150.out).mono ?_); (case side1 => refine (Kd.R_reads' (e := 3) (base := w.heap.size) (ok := fun k_ => ((True ∧ some k_ ≠ (.slice Ao15 t598.length co15 : Value).ownBlock) ∧ some k_ ≠ (.slice Ao138 t642.length co138 : Value).ownBlock)) (n := t650.length) (c := co154) ?_).2.2; exact (by (with_reducible repeat (first | apply rA_ | apply rN_ | apply rD_)); exact (Kd.R_mono (Kd.R_far (p := ⟨gb654, 0, none⟩) (Kd.R_types HO652.out BK654.out (by decide)) (fun _ hk => hk.2) (.slice Ao154 t650.length co154)) (fun _ h_ => h_.1)))); (case side2 => exact (Kd.R_reads' HO652.out).2.1); (case side3 => refine (Kd.R_reads' (e := 3) (base := w.heap.size) (ok := fun k_ => (some k_ ≠ (.slice Ao15 t598.length co15 : Value).ownBlock ∧ some k_ ≠ (.slice Ao154 t650.length co154 : Value).ownBlock)) (n := t642.length) (c := co138) ?_).2.2; exact (by (with_reducible repeat (first | apply rA_ | apply rN_ | apply rD_)); exact (Kd.R_mono (Kd.R_far (p := ⟨gb654, 0, none⟩) (Kd.R_types HO_646000.out BK654.out (by decide)) (fun _ hk => hk.2) (.slice Ao154 t650.length co154)) (fun _ h_ => h_.1)))); (case side4 => exact (Kd.R_reads' HO_646000.out).2.1); rintro e w160 ⟨rfl, hb⟩; replace HO_602000 := aS_ (Kd.R_below (by (with_reducible repeat (first | apply rA_ | apply rN_ | apply rD_)); exact (Kd.R_mono (Kd.R_far (p := ⟨gb654, 0, none⟩) (Kd.R_types HO_602000.out BK654.out (by decide)) (fun _ hk => hk.2) (.slice Ao154 t650.length co154)) (fun _ h_ => h_.1))) hb); replace HO_646000 := aS_ (Kd.R_below (by (with_reducible repeat (first | apply rA_ | apply rN_ | apply rD_)); exact (Kd.R_mono (Kd.R_far (p := ⟨gb654, 0, none⟩) (Kd.R_types HO_646000.out BK654.out (by decide)) (fun _ hk => hk.2) (.slice Ao154 t650.length co154)) (fun _ h_ => h_.1))) hb); replace HO652 := aS_ (Kd.R_below (by (with_reducible repeat (first | apply rA_ | apply rN_ | apply rD_)); exact (Kd.R_mono (Kd.R_far (p := ⟨gb654, 0, none⟩) (Kd.R_types HO652.out BK654.out (by decide)) (fun _ hk => hk.2) (.slice Ao154 t650.length co154)) (fun _ h_ => h_.1))) hb); replace BK601 := aS_ (blk_below (g := gb601) (o := .cells #[.slice Ao15 t598.length co15] 26 (0, 0)) (by (with_reducible repeat (first | refine kN_ ?_ _ | refine kD_ ?_ | refine kA_ ?_ _)); refine blk_far ?_ NB601_654.out _; (with_reducible repeat (first | refine kN_ ?_ _ | refine kD_ ?_ | refine kA_ ?_ _)); exact BK601.out) hb); replace BK645 := aS_ (blk_below (g := gb645) (o := .cells #[.slice Ao138 t642.length co138] 26 (0, 0)) (by (with_reducible repeat (first | refine kN_ ?_ _ | refine kD_ ?_ | refine kA_ ?_ _)); refine blk_far ?_ NB645_654.out _; (with_reducible repeat (first | refine kN_ ?_ _ | refine kD_ ?_ | refine kA_ ?_ _)); exact BK645.out) hb); replace BK654 := aS_ (blk_below (g := gb654) (o := .cells #[.slice Ao154 t650.length co154] 26 (0, 0)) (by (with_reducible repeat (first | refine kN_ ?_ _ | refine kD_ ?_ | refine kA_ ?_ _)); refine blk_put (cs := #[.slice none 0 0]) ?_ 0 _ rfl; (with_reducible repeat (first | refine kN_ ?_ _ | refine kD_ ?_ | refine kA_ ?_ _)); exact BK654.out) hb); replace HB := bE_ HB hb; (try clear hb); (try clear hk)))
     go_meet
     case rel => exact ⟨_, H', ⟨by have := HJ11.out; have := HJ74.out; have := HJ105.out; have := HJ134.out; first | omega | exact Nat.le_refl _⟩, ⟨by (with_reducible repeat (first | apply rA_ | apply rN_ | apply rD_)); exact Kd.R_mono HO_602000.out (fun _ hk => hk.1)⟩, ⟨by (with_reducible repeat (first | apply rA_ | apply rN_ | apply rD_)); exact Kd.R_mono HO_646000.out (fun _ hk => hk.1)⟩, ⟨kk_ BK601⟩, ⟨kk_ BK645⟩, ⟨bb_ HB⟩⟩
    focus
     replace c151 := Bool.eq_false_iff.mpr c151
     subst c151
     rw [if_neg (show ¬ (false = true) by decide)] at H
     obtain rfl := Option.some.inj H
    rotate_left 1
   rotate_left 1
   focus
    replace c149 := Bool.eq_false_iff.mpr c149
    subst c149
    rw [if_neg (show ¬ (false = true) by decide)] at H
    obtain rfl := Option.some.inj H
   rotate_left 1
  rotate_left 2
  ·replace c147 := Bool.eq_false_iff.mpr c147
   subst c147
   rw [if_neg (show ¬ (false = true) by decide)] at H
   have H' := aS_ H
   clear H
   go_wp2
   go_meet
   case rel => exact ⟨_, H', ⟨by have := HJ11.out; have := HJ74.out; have := HJ105.out; have := HJ134.out; first | omega | exact Nat.le_refl _⟩, ⟨rr_ HO_602000⟩, ⟨rr_ HO_646000⟩, ⟨kk_ BK601⟩, ⟨kk_ BK645⟩, ⟨bb_ HB⟩⟩
  all_goals as_aux_lemma =>
  go_wp2_with (first | ((with_reducible refine gg_ ?_); refine gc_ 21 (some 212) Tryz.func21 #[.string t646] ?_; (with_reducible refine (impl_ParseTable.calls _ _ _ _ _ ?sideG A148.out).mono ?_); (case sideG => exact GP.on HG.out (bb_ HB)); rintro e w161 ⟨v651, rfl, ho0, hb⟩; refine ⟨_, rfl, ?_⟩; have HO652 := aS_ (Kd.R_lower (Kd.R_new' (Kd.R_new' ho0 (Kd.R_lt (rr_ HO_602000))) (Kd.R_lt (rr_ HO_646000))) (below_size (bb_ HB))); replace HO_602000 := aS_ (Kd.R_elder' (rr_ HO_602000) (Kd.R_base ho0) hb); replace HO_646000 := aS_ (Kd.R_elder' (rr_ HO_646000) (Kd.R_base ho0) hb); replace BK601 := kO_ BK601 hb; replace BK645 := kO_ BK645 hb; replace HB := bE_ HB hb; (try clear hb); (try clear ho0)) | ((with_reducible refine gate_dst (N := 34) rfl ?_); (try (refine gate_guard (by rfl) ?_; dsimp only)); refine box_event ?hg (N := 34) ?hd (cs := #[.slice none 0 0]) (t := 26) ?hr ?_; (case hd => rfl); (case hg => rfl); (case hr => first | (go_simp; done) | (go_simp; rfl)); intro gb654 hg w162 hbox hb; replace HO_602000 := aS_ (Kd.R_below (rr_ HO_602000) hb); replace HO_646000 := aS_ (Kd.R_below (rr_ HO_646000) hb); replace HO652 := aS_ (Kd.R_below (rr_ HO652) hb); have BK654 := aS_ (hbox); have GW654 := gE_ HB hg; have GE654 := gE_ HB hg; replace HB := bE_ HB hb; have NB601_654 := nL_ BK601 hg; have NB654_601 := nG_ BK601 hg; replace BK601 := kO_ BK601 hb; have NB645_654 := nL_ BK645 hg; have NB654_645 := nG_ BK645 hg; replace BK645 := kO_ BK645 hb; clear hb hbox hg; obtain ⟨Ao163, co163, eo163⟩ := Kd.R_slice HO652.out; subst eo163; have hnb164 := NB654_601.out; have hnc164 := NB601_654.out; have hnb165 := NB654_645.out; have hnc165 := NB645_654.out; obtain ⟨hcz166_0, hfz166_0⟩ := c10_ BK654; have hnb167 := NB645_601.out; have hnc167 := NB601_645.out; obtain ⟨hcz168_0, hfz168_0⟩ := c10_ BK645) | (go_at_call 15; (with_reducible refine (laws_jTable.calls _ _ _ _ _ _ _ _ _ ?side1 ?side2 ?side3 ?side4 A150.out).mono ?_); (case side1 => refine (Kd.R_reads' (e := 3) (base := w.heap.size) (ok := fun k_ => ((True ∧ some k_ ≠ (.slice Ao15 t598.length co15 : Value).ownBlock) ∧ some k_ ≠ (.slice Ao138 t642.length co138 : Value).ownBlock)) (n := t650.length) (c := co163) ?_).2.2; exact (by (with_reducible repeat (first | apply rA_ | apply rN_ | apply rD_)); exact (Kd.R_mono (Kd.R_far (p := ⟨gb654, 0, none⟩) (Kd.R_types HO652.out BK654.out (by decide)) (fun _ hk => hk.2) (.slice Ao163 t650.length co163)) (fun _ h_ => h_.1)))); (case side2 => exact (Kd.R_reads' HO652.out).2.1); (case side3 => refine (Kd.R_reads' (e := 3) (base := w.heap.size) (ok := fun k_ => (some k_ ≠ (.slice Ao15 t598.length co15 : Value).ownBlock ∧ some k_ ≠ (.slice Ao163 t650.length co163 : Value).ownBlock)) (n := t642.length) (c := co138) ?_).2.2; exact (by (with_reducible repeat (first | apply rA_ | apply rN_ | apply rD_)); exact (Kd.R_mono (Kd.R_far (p := ⟨gb654, 0, none⟩) (Kd.R_types HO_646000.out BK654.out (by decide)) (fun _ hk => hk.2) (.slice Ao163 t650.length co163)) (fun _ h_ => h_.1)))); (case side4 => exact (Kd.R_reads' HO_646000.out).2.1); rintro e w169 ⟨rfl, hb⟩; replace HO_602000 := aS_ (Kd.R_below (by (with_reducible repeat (first | apply rA_ | apply rN_ | apply rD_)); exact (Kd.R_mono (Kd.R_far (p := ⟨gb654, 0, none⟩) (Kd.R_types HO_602000.out BK654.out (by decide)) (fun _ hk => hk.2) (.slice Ao163 t650.length co163)) (fun _ h_ => h_.1))) hb); replace HO_646000 := aS_ (Kd.R_below (by (with_reducible repeat (first | apply rA_ | apply rN_ | apply rD_)); exact (Kd.R_mono (Kd.R_far (p := ⟨gb654, 0, none⟩) (Kd.R_types HO_646000.out BK654.out (by decide)) (fun _ hk => hk.2) (.slice Ao163 t650.length co163)) (fun _ h_ => h_.1))) hb); replace HO652 := aS_ (Kd.R_below (by (with_reducible repeat (first | apply rA_ | apply rN_ | apply rD_)); exact (Kd.R_mono (Kd.R_far (p := ⟨gb654, 0, none⟩) (Kd.R_types HO652.out BK654.out (by decide)) (fun _ hk => hk.2) (.slice Ao163 t650.length co163)) (fun _ h_ => h_.1))) hb); replace BK601 := aS_ (blk_below (g := gb601) (o := .cells #[.slice Ao15 t598.length co15] 26 (0, 0)) (by (with_reducible repeat (first | refine kN_ ?_ _ | refine kD_ ?_ | refine kA_ ?_ _)); refine blk_far ?_ NB601_654.out _; (with_reducible repeat (first | refine kN_ ?_ _ | refine kD_ ?_ | refine kA_ ?_ _)); exact BK601.out) hb); replace BK645 := aS_ (blk_below (g := gb645) (o := .cells #[.slice Ao138 t642.length co138] 26 (0, 0)) (by (with_reducible repeat (first | refine kN_ ?_ _ | refine kD_ ?_ | refine kA_ ?_ _)); refine blk_far ?_ NB645_654.out _; (with_reducible repeat (first | refine kN_ ?_ _ | refine kD_ ?_ | refine kA_ ?_ _)); exact BK645.out) hb); replace BK654 := aS_ (blk_below (g := gb654) (o := .cells #[.slice Ao163 t650.length co163] 26 (0, 0)) (by (with_reducible repeat (first | refine kN_ ?_ _ | refine kD_ ?_ | refine kA_ ?_ _)); refine blk_put (cs := #[.slice none 0 0]) ?_ 0 _ rfl; (with_reducible repeat (first | refine kN_ ?_ _ | refine kD_ ?_ | refine kA_ ?_ _)); exact BK654.out) hb); replace HB := bE_ HB hb; (try clear hb); (try clear hk)))
  go_ret
  exact ⟨eR_, bb_ HB⟩
 case rest =>
 as_aux_lemma =>
 clear HC146
 try clear c1
 try clear hcz140_0
 try clear hcz142_0
 try clear hcz16_0
 try clear hcz18_0
 try clear hcz20_0
 try clear hcz22_0
 try clear hcz24_0
 try clear hcz26_0
 try clear hfz140_0
 try clear hfz142_0
 try clear hfz16_0
 try clear hfz18_0
 try clear hfz20_0
 try clear hfz22_0
 try clear hfz24_0
 try clear hfz26_0
 obtain ⟨kq, HA, HJ145, HO_602000, HO_646000, BK601, BK645, HB⟩ := hcut
 cases kq with
 | zero => exact absurd HA.out (by simp [laws_FnInsertionOrders.j6])
 | succ kj145 =>
 have H := HA.out
 clear HA
 simp only [laws_FnInsertionOrders.j6] at H
 replace H := bs_ H; obtain ⟨t656, A176, H⟩ := H
 replace H := bs_ H; obtain ⟨⟨t657, t660⟩, A177, H⟩ := H
 replace H := bs_ H; obtain ⟨⟨t662, t665⟩, A178, H⟩ := H
 have HC179 := aS_ H
 clear H
 go_upto_region 39 with (first | ((with_reducible refine gg_ ?_); refine gc_ 22 (some 224) Tryz.func22 #[.slice A1 l1.length c1] ?_; (with_reducible refine (spec_DrawParseTable.calls kj145 _ _ l1 t656 _ ?side1 ?side2 A176.out).mono ?_); (case side1 => exact cB_ HR1 HB); (case side2 => exact HC1.out); rintro e w180 ⟨rfl, hb⟩; refine ⟨_, rfl, ?_⟩; replace HO_602000 := aS_ (Kd.R_below (rr_ HO_602000) hb); replace HO_646000 := aS_ (Kd.R_below (rr_ HO_646000) hb); replace BK601 := kO_ BK601 hb; replace BK645 := kO_ BK645 hb; replace HB := bE_ HB hb; (try clear hb)) | ((with_reducible refine gg_ ?_); refine gc_ 21 (some 227) Tryz.func21 #[.string t656] ?_; (with_reducible refine (impl_ParseTable.calls kj145 t656 t657 t660 _ ?sideG A177.out).mono ?_); (case sideG => exact GP.on HG.out (bb_ HB)); rintro e w181 ⟨v658, rfl, ho0, hb⟩; refine ⟨_, rfl, ?_⟩; have HO659 := aS_ (Kd.R_lower (Kd.R_new' (Kd.R_new' ho0 (Kd.R_lt (rr_ HO_602000))) (Kd.R_lt (rr_ HO_646000))) (below_size (bb_ HB))); replace HO_602000 := aS_ (Kd.R_elder' (rr_ HO_602000) (Kd.R_base ho0) hb); replace HO_646000 := aS_ (Kd.R_elder' (rr_ HO_646000) (Kd.R_base ho0) hb); replace BK601 := kO_ BK601 hb; replace BK645 := kO_ BK645 hb; replace HB := bE_ HB hb; (try clear hb); (try clear ho0)) | ((with_reducible refine gate_dst (N := 37) rfl ?_); (try (refine gate_guard (by rfl) ?_; dsimp only)); refine box_event ?hg (N := 37) ?hd (cs := #[.slice none 0 0]) (t := 26) ?hr ?_; (case hd => rfl); (case hg => rfl); (case hr => first | (go_simp; done) | (go_simp; rfl)); intro gb661 hg w182 hbox hb; replace HO_602000 := aS_ (Kd.R_below (rr_ HO_602000) hb); replace HO_646000 := aS_ (Kd.R_below (rr_ HO_646000) hb); replace HO659 := aS_ (Kd.R_below (rr_ HO659) hb); have BK661 := aS_ (hbox); have GW661 := gE_ HB hg; have GE661 := gE_ HB hg; replace HB := bE_ HB hb; have NB601_661 := nL_ BK601 hg; have NB661_601 := nG_ BK601 hg; replace BK601 := kO_ BK601 hb; have NB645_661 := nL_ BK645 hg; have NB661_645 := nG_ BK645 hg; replace BK645 := kO_ BK645 hb; clear hb hbox hg; obtain ⟨Ao183, co183, eo183⟩ := Kd.R_slice HO659.out; subst eo183; have hnb184 := NB661_601.out; have hnc184 := NB601_661.out; have hnb185 := NB661_645.out; have hnc185 := NB645_661.out; obtain ⟨hcz186_0, hfz186_0⟩ := c10_ BK661) | ((with_reducible refine gg_ ?_); refine gc_ 23 (some 232) Tryz.func23 #[.string t656] ?_; (with_reducible refine (spec_ParseTable.calls kj145 t656 t662 t665 _ A178.out).mono ?_); rintro e w187 ⟨v663, rfl, ho0, hb⟩; refine ⟨_, rfl, ?_⟩; have HO664 := aS_ (Kd.R_lower (Kd.R_new' (Kd.R_new' (Kd.R_new' ho0 (Kd.R_lt (by (with_reducible repeat (first | apply rA_ | apply rN_ | apply rD_)); exact (Kd.R_mono (Kd.R_far (p := ⟨gb661, 0, none⟩) (Kd.R_types HO_602000.out BK661.out (by decide)) (fun _ hk => hk.2) (.slice Ao183 t657.length co183)) (fun _ h_ => h_.1))))) (Kd.R_lt (by (with_reducible repeat (first | apply rA_ | apply rN_ | apply rD_)); exact (Kd.R_mono (Kd.R_far (p := ⟨gb661, 0, none⟩) (Kd.R_types HO_646000.out BK661.out (by decide)) (fun _ hk => hk.2) (.slice Ao183 t657.length co183)) (fun _ h_ => h_.1))))) (Kd.R_lt (by (with_reducible repeat (first | apply rA_ | apply rN_ | apply rD_)); exact (Kd.R_mono (Kd.R_far (p := ⟨gb661, 0, none⟩) (Kd.R_types HO659.out BK661.out (by decide)) (fun _ hk => hk.2) (.slice Ao183 t657.length co183)) (fun _ h_ => h_.1))))) (below_size (bb_ HB))); replace HO_602000 := aS_ (Kd.R_elder' (by (with_reducible repeat (first | apply rA_ | apply rN_ | apply rD_)); exact (Kd.R_mono (Kd.R_far (p := ⟨gb661, 0, none⟩) (Kd.R_types HO_602000.out BK661.out (by decide)) (fun _ hk => hk.2) (.slice Ao183 t657.length co183)) (fun _ h_ => h_.1))) (Kd.R_base ho0) hb); replace HO_646000 := aS_ (Kd.R_elder' (by (with_reducible repeat (first | apply rA_ | apply rN_ | apply rD_)); exact (Kd.R_mono (Kd.R_far (p := ⟨gb661, 0, none⟩) (Kd.R_types HO_646000.out BK661.out (by decide)) (fun _ hk => hk.2) (.slice Ao183 t657.length co183)) (fun _ h_ => h_.1))) (Kd.R_base ho0) hb); replace HO659 := aS_ (Kd.R_elder' (by (with_reducible repeat (first | apply rA_ | apply rN_ | apply rD_)); exact (Kd.R_mono (Kd.R_far (p := ⟨gb661, 0, none⟩) (Kd.R_types HO659.out BK661.out (by decide)) (fun _ hk => hk.2) (.slice Ao183 t657.length co183)) (fun _ h_ => h_.1))) (Kd.R_base ho0) hb); replace BK601 := aS_ (blk_below (g := gb601) (o := .cells #[.slice Ao15 t598.length co15] 26 (0, 0)) (by (with_reducible repeat (first | refine kN_ ?_ _ | refine kD_ ?_ | refine kA_ ?_ _)); refine blk_far ?_ NB601_661.out _; (with_reducible repeat (first | refine kN_ ?_ _ | refine kD_ ?_ | refine kA_ ?_ _)); exact BK601.out) hb); replace BK645 := aS_ (blk_below (g := gb645) (o := .cells #[.slice Ao138 t642.length co138] 26 (0, 0)) (by (with_reducible repeat (first | refine kN_ ?_ _ | refine kD_ ?_ | refine kA_ ?_ _)); refine blk_far ?_ NB645_661.out _; (with_reducible repeat (first | refine kN_ ?_ _ | refine kD_ ?_ | refine kA_ ?_ _)); exact BK645.out) hb); replace BK661 := aS_ (blk_below (g := gb661) (o := .cells #[.slice Ao183 t657.length co183] 26 (0, 0)) (by (with_reducible repeat (first | refine kN_ ?_ _ | refine kD_ ?_ | refine kA_ ?_ _)); refine blk_put (cs := #[.slice none 0 0]) ?_ 0 _ rfl; (with_reducible repeat (first | refine kN_ ?_ _ | refine kD_ ?_ | refine kA_ ?_ _)); exact BK661.out) hb); replace HB := bE_ HB hb; (try clear hb); (try clear hk); (try clear ho0)) | ((with_reducible refine gate_dst (N := 39) rfl ?_); (try (refine gate_guard (by rfl) ?_; dsimp only)); refine box_event ?hg (N := 39) ?hd (cs := #[.slice none 0 0]) (t := 26) ?hr ?_; (case hd => rfl); (case hg => rfl); (case hr => first | (go_simp; done) | (go_simp; rfl)); intro gb666 hg w188 hbox hb; replace HO_602000 := aS_ (Kd.R_below (rr_ HO_602000) hb); replace HO_646000 := aS_ (Kd.R_below (rr_ HO_646000) hb); replace HO659 := aS_ (Kd.R_below (rr_ HO659) hb); replace HO664 := aS_ (Kd.R_below (rr_ HO664) hb); have BK666 := aS_ (hbox); have GW666 := gE_ HB hg; have GE666 := gE_ HB hg; replace HB := bE_ HB hb; have NB601_666 := nL_ BK601 hg; have NB666_601 := nG_ BK601 hg; replace BK601 := kO_ BK601 hb; have NB645_666 := nL_ BK645 hg; have NB666_645 := nG_ BK645 hg; replace BK645 := kO_ BK645 hb; have NB661_666 := nL_ BK661 hg; have NB666_661 := nG_ BK661 hg; replace BK661 := kO_ BK661 hb; clear hb hbox hg; obtain ⟨Ao189, co189, eo189⟩ := Kd.R_slice HO664.out; subst eo189; have hnb190 := NB666_601.out; have hnc190 := NB601_666.out; have hnb191 := NB666_645.out; have hnc191 := NB645_666.out; have hnb192 := NB666_661.out; have hnc192 := NB661_666.out; obtain ⟨hcz193_0, hfz193_0⟩ := c10_ BK666))
 (try simp only [Act.put, List.setIfInBounds_toArray, List.set_cons_zero, List.set_cons_succ])
 go_cut [243] (fun v243 wc => ∃ (kq : Nat) (x243_178 : Bool), v243 = .bool x243_178 ∧ Aside0 (laws_FnInsertionOrders.j7 kq l1 x243_178 = some r) ∧ Aside0 (kq ≤ kj145) ∧ Aside0 (Kd.R (Kd.int .i64) 3 wc w.heap.size (fun k_ => some k_ ≠ ((.slice Ao138 t642.length co138) : Value).ownBlock ∧ some k_ ≠ ((.slice Ao183 t657.length co183) : Value).ownBlock ∧ some k_ ≠ ((.slice Ao189 t662.length co189) : Value).ownBlock) (.slice Ao15 t598.length co15) t598) ∧ Aside0 (Kd.R (Kd.int .i64) 3 wc w.heap.size (fun k_ => some k_ ≠ ((.slice Ao15 t598.length co15) : Value).ownBlock ∧ some k_ ≠ ((.slice Ao183 t657.length co183) : Value).ownBlock ∧ some k_ ≠ ((.slice Ao189 t662.length co189) : Value).ownBlock) (.slice Ao138 t642.length co138) t642) ∧ Aside0 (Kd.R (Kd.int .i64) 3 wc w.heap.size (fun k_ => some k_ ≠ ((.slice Ao15 t598.length co15) : Value).ownBlock ∧ some k_ ≠ ((.slice Ao138 t642.length co138) : Value).ownBlock ∧ some k_ ≠ ((.slice Ao189 t662.length co189) : Value).ownBlock) (.slice Ao183 t657.length co183) t657) ∧ Aside0 (Kd.R (Kd.int .i64) 3 wc w.heap.size (fun k_ => some k_ ≠ ((.slice Ao15 t598.length co15) : Value).ownBlock ∧ some k_ ≠ ((.slice Ao138 t642.length co138) : Value).ownBlock ∧ some k_ ≠ ((.slice Ao183 t657.length co183) : Value).ownBlock) (.slice Ao189 t662.length co189) t662) ∧ Aside0 (wc.heap[gb601]? = some (.cells #[(.slice Ao15 t598.length co15)] 26 (0, 0))) ∧ Aside0 (wc.heap[gb645]? = some (.cells #[(.slice Ao138 t642.length co138)] 26 (0, 0))) ∧ Aside0 (wc.heap[gb661]? = some (.cells #[(.slice Ao183 t657.length co183)] 26 (0, 0))) ∧ Aside0 (wc.heap[gb666]? = some (.cells #[(.slice Ao189 t662.length co189)] 26 (0, 0))) ∧ Aside0 (Below w.heap.size w wc))
 case first =>
  as_aux_lemma =>
  have H := HC179.out
  clear HC179
  replace H := ib_ H; rcases H with ⟨c194b0, c194b1, c194b2, c194b3, H⟩ | ⟨c194b0, c194b1, c194b2, H⟩
  ·(first | rw [c194b0] | (simp only [i64_w, i32_w]; rw [c194b0]) | skip)
   have H' := aS_ H
   clear H
   go_wp2
   go_meet
   case rel => exact ⟨_, (true), sR_, H', ⟨by have := HJ11.out; have := HJ74.out; have := HJ105.out; have := HJ134.out; have := HJ145.out; first | omega | exact Nat.le_refl _⟩, ⟨by (with_reducible repeat (first | apply rA_ | apply rN_ | apply rD_)); exact Kd.R_mono (Kd.R_far (p := ⟨gb666, 0, none⟩) (Kd.R_types HO_602000.out BK666.out (by decide)) (fun _ hk => hk.2) (.slice Ao189 t662.length co189)) (fun _ hk => by first | exact ⟨hk.1.1.1, ⟨hk.1.1.2, hk.1.2⟩⟩ | (repeat' first | exact hk.2 | exact hk.1.2 | exact hk.1.1.2 | exact hk.1.1.1.2 | exact hk.1.1.1.1 | exact hk.1.1.1 | exact hk.1.1 | exact hk.1 | refine And.intro ?_ ?_))⟩, ⟨by (with_reducible repeat (first | apply rA_ | apply rN_ | apply rD_)); exact Kd.R_mono (Kd.R_far (p := ⟨gb666, 0, none⟩) (Kd.R_types HO_646000.out BK666.out (by decide)) (fun _ hk => hk.2) (.slice Ao189 t662.length co189)) (fun _ hk => by first | exact ⟨hk.1.1.1, ⟨hk.1.1.2, hk.1.2⟩⟩ | (repeat' first | exact hk.2 | exact hk.1.2 | exact hk.1.1.2 | exact hk.1.1.1.2 | exact hk.1.1.1.1 | exact hk.1.1.1 | exact hk.1.1 | exact hk.1 | refine And.intro ?_ ?_))⟩, ⟨by (with_reducible repeat (first | apply rA_ | apply rN_ | apply rD_)); exact Kd.R_mono (Kd.R_far (p := ⟨gb666, 0, none⟩) (Kd.R_types HO659.out BK666.out (by decide)) (fun _ hk => hk.2) (.slice Ao189 t662.length co189)) (fun _ hk => by first | exact ⟨hk.1.1.1.2, ⟨hk.1.1.2, hk.1.2⟩⟩ | (repeat' first | exact hk.2 | exact hk.1.2 | exact hk.1.1.2 | exact hk.1.1.1.2 | exact hk.1.1.1.1 | exact hk.1.1.1 | exact hk.1.1 | exact hk.1 | refine And.intro ?_ ?_))⟩, ⟨by (with_reducible repeat (first | apply rA_ | apply rN_ | apply rD_)); exact Kd.R_mono (Kd.R_far (p := ⟨gb666, 0, none⟩) (Kd.R_types HO664.out BK666.out (by decide)) (fun _ hk => hk.2) (.slice Ao189 t662.length co189)) (fun _ hk => by first | exact ⟨hk.1.1.1.2, ⟨hk.1.1.2, hk.1.2⟩⟩ | (repeat' first | exact hk.2 | exact hk.1.2 | exact hk.1.1.2 | exact hk.1.1.1.2 | exact hk.1.1.1.1 | exact hk.1.1.1 | exact hk.1.1 | exact hk.1 | refine And.intro ?_ ?_))⟩, ⟨by (with_reducible repeat (first | refine kN_ ?_ _ | refine kD_ ?_ | refine kA_ ?_ _)); refine blk_far ?_ NB601_666.out _; (with_reducible repeat (first | refine kN_ ?_ _ | refine kD_ ?_ | refine kA_ ?_ _)); exact BK601.out⟩, ⟨by (with_reducible repeat (first | refine kN_ ?_ _ | refine kD_ ?_ | refine kA_ ?_ _)); refine blk_far ?_ NB645_666.out _; (with_reducible repeat (first | refine kN_ ?_ _ | refine kD_ ?_ | refine kA_ ?_ _)); exact BK645.out⟩, ⟨by (with_reducible repeat (first | refine kN_ ?_ _ | refine kD_ ?_ | refine kA_ ?_ _)); refine blk_far ?_ NB661_666.out _; (with_reducible repeat (first | refine kN_ ?_ _ | refine kD_ ?_ | refine kA_ ?_ _)); exact BK661.out⟩, ⟨by (with_reducible repeat (first | refine kN_ ?_ _ | refine kD_ ?_ | refine kA_ ?_ _)); refine blk_put (cs := #[.slice none 0 0]) ?_ 0 _ rfl; (with_reducible repeat (first | refine kN_ ?_ _ | refine kD_ ?_ | refine kA_ ?_ _)); exact BK666.out⟩, ⟨bb_ HB⟩⟩
  as_aux_lemma =>
  (first | rw [c194b0] | (simp only [i64_w, i32_w]; rw [c194b0]) | skip)
  replace H := bs_ H; obtain ⟨t667, A195, H⟩ := H
  have H' := aS_ H
  clear H
  have hnb196 := NB661_601.out
  have hnc196 := NB601_661.out
  have hnb197 := NB661_645.out
  have hnc197 := NB645_661.out
  have hnb198 := NB661_666.out
  have hnc198 := NB666_661.out
  obtain ⟨hcz199_0, hfz199_0⟩ := c10_ BK661
  have hnb200 := NB666_601.out
  have hnc200 := NB601_666.out
  have hnb201 := NB666_645.out
  have hnc201 := NB645_666.out
  obtain ⟨hcz202_0, hfz202_0⟩ := c10_ BK666
  go_wp2_with (first | (go_at_call 15; (with_reducible refine (laws_jTable.calls kj145 _ _ t657 _ _ t662 t667 _ ?side1 ?side2 ?side3 ?side4 A195.out).mono ?_); (case side1 => refine (Kd.R_reads' (e := 3) (base := w.heap.size) (ok := fun k_ => (((True ∧ some k_ ≠ (.slice Ao15 t598.length co15 : Value).ownBlock) ∧ some k_ ≠ (.slice Ao138 t642.length co138 : Value).ownBlock) ∧ some k_ ≠ (.slice Ao189 t662.length co189 : Value).ownBlock)) (n := t657.length) (c := co183) ?_).2.2; exact (by (with_reducible repeat (first | apply rA_ | apply rN_ | apply rD_)); exact (Kd.R_mono (Kd.R_far (p := ⟨gb666, 0, none⟩) (Kd.R_types HO659.out BK666.out (by decide)) (fun _ hk => hk.2) (.slice Ao189 t662.length co189)) (fun _ h_ => h_.1)))); (case side2 => exact (Kd.R_reads' HO659.out).2.1); (case side3 => refine (Kd.R_reads' (e := 3) (base := w.heap.size) (ok := fun k_ => (((True ∧ some k_ ≠ (.slice Ao15 t598.length co15 : Value).ownBlock) ∧ some k_ ≠ (.slice Ao138 t642.length co138 : Value).ownBlock) ∧ some k_ ≠ (.slice Ao183 t657.length co183 : Value).ownBlock)) (n := t662.length) (c := co189) ?_).2.2; exact (by (with_reducible repeat (first | apply rA_ | apply rN_ | apply rD_)); exact (Kd.R_mono (Kd.R_far (p := ⟨gb666, 0, none⟩) (Kd.R_types HO664.out BK666.out (by decide)) (fun _ hk => hk.2) (.slice Ao189 t662.length co189)) (fun _ h_ => h_.1)))); (case side4 => exact (Kd.R_reads' HO664.out).2.1); rintro e w203 ⟨rfl, hb⟩; replace HO_602000 := aS_ (Kd.R_below (by (with_reducible repeat (first | apply rA_ | apply rN_ | apply rD_)); exact (Kd.R_mono (Kd.R_far (p := ⟨gb666, 0, none⟩) (Kd.R_types HO_602000.out BK666.out (by decide)) (fun _ hk => hk.2) (.slice Ao189 t662.length co189)) (fun _ h_ => h_.1))) hb); replace HO_646000 := aS_ (Kd.R_below (by (with_reducible repeat (first | apply rA_ | apply rN_ | apply rD_)); exact (Kd.R_mono (Kd.R_far (p := ⟨gb666, 0, none⟩) (Kd.R_types HO_646000.out BK666.out (by decide)) (fun _ hk => hk.2) (.slice Ao189 t662.length co189)) (fun _ h_ => h_.1))) hb); replace HO659 := aS_ (Kd.R_below (by (with_reducible repeat (first | apply rA_ | apply rN_ | apply rD_)); exact (Kd.R_mono (Kd.R_far (p := ⟨gb666, 0, none⟩) (Kd.R_types HO659.out BK666.out (by decide)) (fun _ hk => hk.2) (.slice Ao189 t662.length co189)) (fun _ h_ => h_.1))) hb); replace HO664 := aS_ (Kd.R_below (by (with_reducible repeat (first | apply rA_ | apply rN_ | apply rD_)); exact (Kd.R_mono (Kd.R_far (p := ⟨gb666, 0, none⟩) (Kd.R_types HO664.out BK666.out (by decide)) (fun _ hk => hk.2) (.slice Ao189 t662.length co189)) (fun _ h_ => h_.1))) hb); replace BK601 := aS_ (blk_below (g := gb601) (o := .cells #[.slice Ao15 t598.length co15] 26 (0, 0)) (by (with_reducible repeat (first | refine kN_ ?_ _ | refine kD_ ?_ | refine kA_ ?_ _)); refine blk_far ?_ NB601_666.out _; (with_reducible repeat (first | refine kN_ ?_ _ | refine kD_ ?_ | refine kA_ ?_ _)); exact BK601.out) hb); replace BK645 := aS_ (blk_below (g := gb645) (o := .cells #[.slice Ao138 t642.length co138] 26 (0, 0)) (by (with_reducible repeat (first | refine kN_ ?_ _ | refine kD_ ?_ | refine kA_ ?_ _)); refine blk_far ?_ NB645_666.out _; (with_reducible repeat (first | refine kN_ ?_ _ | refine kD_ ?_ | refine kA_ ?_ _)); exact BK645.out) hb); replace BK661 := aS_ (blk_below (g := gb661) (o := .cells #[.slice Ao183 t657.length co183] 26 (0, 0)) (by (with_reducible repeat (first | refine kN_ ?_ _ | refine kD_ ?_ | refine kA_ ?_ _)); refine blk_far ?_ NB661_666.out _; (with_reducible repeat (first | refine kN_ ?_ _ | refine kD_ ?_ | refine kA_ ?_ _)); exact BK661.out) hb); replace BK666 := aS_ (blk_below (g := gb666) (o := .cells #[.slice Ao189 t662.length co189] 26 (0, 0)) (by (with_reducible repeat (first | refine kN_ ?_ _ | refine kD_ ?_ | refine kA_ ?_ _)); refine blk_put (cs := #[.slice none 0 0]) ?_ 0 _ rfl; (with_reducible repeat (first | refine kN_ ?_ _ | refine kD_ ?_ | refine kA_ ?_ _)); exact BK666.out) hb); replace HB := bE_ HB hb; (try clear hb); (try clear hk)))
  go_meet
  case rel => exact ⟨_, (!t667), sR_, H', ⟨by have := HJ11.out; have := HJ74.out; have := HJ105.out; have := HJ134.out; have := HJ145.out; first | omega | exact Nat.le_refl _⟩, ⟨by (with_reducible repeat (first | apply rA_ | apply rN_ | apply rD_)); exact Kd.R_mono HO_602000.out (fun _ hk => by first | exact ⟨hk.1.1, ⟨hk.1.2, hk.2⟩⟩ | (repeat' first | exact hk.2 | exact hk.1.2 | exact hk.1.1.2 | exact hk.1.1.1.2 | exact hk.1.1.1.1 | exact hk.1.1.1 | exact hk.1.1 | exact hk.1 | refine And.intro ?_ ?_))⟩, ⟨by (with_reducible repeat (first | apply rA_ | apply rN_ | apply rD_)); exact Kd.R_mono HO_646000.out (fun _ hk => by first | exact ⟨hk.1.1, ⟨hk.1.2, hk.2⟩⟩ | (repeat' first | exact hk.2 | exact hk.1.2 | exact hk.1.1.2 | exact hk.1.1.1.2 | exact hk.1.1.1.1 | exact hk.1.1.1 | exact hk.1.1 | exact hk.1 | refine And.intro ?_ ?_))⟩, ⟨by (with_reducible repeat (first | apply rA_ | apply rN_ | apply rD_)); exact Kd.R_mono HO659.out (fun _ hk => by first | exact ⟨hk.1.1.2, ⟨hk.1.2, hk.2⟩⟩ | (repeat' first | exact hk.2 | exact hk.1.2 | exact hk.1.1.2 | exact hk.1.1.1.2 | exact hk.1.1.1.1 | exact hk.1.1.1 | exact hk.1.1 | exact hk.1 | refine And.intro ?_ ?_))⟩, ⟨by (with_reducible repeat (first | apply rA_ | apply rN_ | apply rD_)); exact Kd.R_mono HO664.out (fun _ hk => by first | exact ⟨hk.1.1.2, ⟨hk.1.2, hk.2⟩⟩ | (repeat' first | exact hk.2 | exact hk.1.2 | exact hk.1.1.2 | exact hk.1.1.1.2 | exact hk.1.1.1.1 | exact hk.1.1.1 | exact hk.1.1 | exact hk.1 | refine And.intro ?_ ?_))⟩, ⟨kk_ BK601⟩, ⟨kk_ BK645⟩, ⟨kk_ BK661⟩, ⟨kk_ BK666⟩, ⟨bb_ HB⟩⟩
 case rest =>
 as_aux_lemma =>
 clear HC179
 try clear c1
 try clear hcz140_0
 try clear hcz142_0
 try clear hcz16_0
 try clear hcz186_0
 try clear hcz18_0
 try clear hcz193_0
 try clear hcz20_0
 try clear hcz22_0
 try clear hcz24_0
 try clear hcz26_0
 try clear hfz140_0
 try clear hfz142_0
 try clear hfz16_0
 try clear hfz186_0
 try clear hfz18_0
 try clear hfz193_0
 try clear hfz20_0
 try clear hfz22_0
 try clear hfz24_0
 try clear hfz26_0
 obtain ⟨kq, x243_178, rfl, HA, HJ178, HO_602000, HO_646000, HO_662000, HO_667000, BK601, BK645, BK661, BK666, HB⟩ := hcut
 cases kq with
 | zero => exact absurd HA.out (by simp [laws_FnInsertionOrders.j7])
 | succ kj178 =>
 have H := HA.out
 clear HA
 simp only [laws_FnInsertionOrders.j7] at H
 by_cases c204 : x243_178 = true
 ·subst c204
  rw [if_pos rfl] at H
  obtain rfl := Option.some.inj H
  go_wp2
  go_ret
  exact ⟨eR_, bb_ HB⟩
 focus
  replace c204 := Bool.eq_false_iff.mpr c204
  subst c204
  rw [if_neg (show ¬ (false = true) by decide)] at H
  replace H := bs_ H; obtain ⟨t668, A205, H⟩ := H
  replace H := bs_ H; obtain ⟨⟨t669, t672⟩, A206, H⟩ := H
  replace H := bs_ H; obtain ⟨⟨t674, t677⟩, A207, H⟩ := H
  by_cases c208 : (t672 == t677) = true
  focus
   rw [if_pos c208] at H
   have c208b0 : (t672 == t677) = true := c208
   (try (have c208b1 : decide (t672 = t677) = true := by simpa using c208))
   (try (have c208b2 : (t672 == t677) = true := by simpa using c208))
   clear c208
   replace H := bs_ H; obtain ⟨t679, A209, H⟩ := H
   obtain rfl := Option.some.inj H
  rotate_left 1
  focus
   rw [if_neg c208] at H
   have c208b0 : (t672 == t677) = false := by simpa using c208
   (try (have c208b1 : decide (t672 = t677) = false := by simpa using c208))
   (try (have c208b2 : (t672 == t677) = false := by simpa using c208))
   (try (have c208b3 : ¬ (t672 = t677) := by simpa using c208))
   clear c208
   obtain rfl := Option.some.inj H
  rotate_left 1
 rotate_left 2
 all_goals as_aux_lemma =>
 go_wp2_with (first | ((with_reducible refine gg_ ?_); refine gc_ 24 (some 245) Tryz.func24 #[.slice A1 l1.length c1] ?_; (with_reducible refine (spec_DrawEmptyTable.calls _ _ _ _ _ ?side1 ?side2 A205.out).mono ?_); (case side1 => exact cB_ HR1 HB); (case side2 => exact HC1.out); rintro e w210 ⟨rfl, hb⟩; refine ⟨_, rfl, ?_⟩; replace HO_602000 := aS_ (Kd.R_below (rr_ HO_602000) hb); replace HO_646000 := aS_ (Kd.R_below (rr_ HO_646000) hb); replace HO_662000 := aS_ (Kd.R_below (rr_ HO_662000) hb); replace HO_667000 := aS_ (Kd.R_below (rr_ HO_667000) hb); replace BK601 := kO_ BK601 hb; replace BK645 := kO_ BK645 hb; replace BK661 := kO_ BK661 hb; replace BK666 := kO_ BK666 hb; replace HB := bE_ HB hb; (try clear hb)) | ((with_reducible refine gg_ ?_); refine gc_ 25 (some 248) Tryz.func25 #[.int .i64 t668] ?_; (with_reducible refine (impl_EmptyTable.calls t668 t669 t672 _ A206.out).mono ?_); rintro e w211 ⟨v670, rfl, ho0, hb⟩; refine ⟨_, rfl, ?_⟩; have HO671 := aS_ (Kd.R_lower (Kd.R_new' (Kd.R_new' (Kd.R_new' (Kd.R_new' ho0 (Kd.R_lt (rr_ HO_602000))) (Kd.R_lt (rr_ HO_646000))) (Kd.R_lt (rr_ HO_662000))) (Kd.R_lt (rr_ HO_667000))) (below_size (bb_ HB))); replace HO_602000 := aS_ (Kd.R_elder' (rr_ HO_602000) (Kd.R_base ho0) hb); replace HO_646000 := aS_ (Kd.R_elder' (rr_ HO_646000) (Kd.R_base ho0) hb); replace HO_662000 := aS_ (Kd.R_elder' (rr_ HO_662000) (Kd.R_base ho0) hb); replace HO_667000 := aS_ (Kd.R_elder' (rr_ HO_667000) (Kd.R_base ho0) hb); replace BK601 := kO_ BK601 hb; replace BK645 := kO_ BK645 hb; replace BK661 := kO_ BK661 hb; replace BK666 := kO_ BK666 hb; replace HB := bE_ HB hb; (try clear hb); (try clear ho0)) | ((with_reducible refine gate_dst (N := 42) rfl ?_); (try (refine gate_guard (by rfl) ?_; dsimp only)); refine box_event ?hg (N := 42) ?hd (cs := #[.slice none 0 0]) (t := 26) ?hr ?_; (case hd => rfl); (case hg => rfl); (case hr => first | (go_simp; done) | (go_simp; rfl)); intro gb673 hg w212 hbox hb; replace HO_602000 := aS_ (Kd.R_below (rr_ HO_602000) hb); replace HO_646000 := aS_ (Kd.R_below (rr_ HO_646000) hb); replace HO_662000 := aS_ (Kd.R_below (rr_ HO_662000) hb); replace HO_667000 := aS_ (Kd.R_below (rr_ HO_667000) hb); replace HO671 := aS_ (Kd.R_below (rr_ HO671) hb); have BK673 := aS_ (hbox); have GW673 := gE_ HB hg; have GE673 := gE_ HB hg; replace HB := bE_ HB hb; have NB601_673 := nL_ BK601 hg; have NB673_601 := nG_ BK601 hg; replace BK601 := kO_ BK601 hb; have NB645_673 := nL_ BK645 hg; have NB673_645 := nG_ BK645 hg; replace BK645 := kO_ BK645 hb; have NB661_673 := nL_ BK661 hg; have NB673_661 := nG_ BK661 hg; replace BK661 := kO_ BK661 hb; have NB666_673 := nL_ BK666 hg; have NB673_666 := nG_ BK666 hg; replace BK666 := kO_ BK666 hb; clear hb hbox hg; obtain ⟨Ao213, co213, eo213⟩ := Kd.R_slice HO671.out; subst eo213; have hnb214 := NB673_601.out; have hnc214 := NB601_673.out; have hnb215 := NB673_645.out; have hnc215 := NB645_673.out; have hnb216 := NB673_661.out; have hnc216 := NB661_673.out; have hnb217 := NB673_666.out; have hnc217 := NB666_673.out; obtain ⟨hcz218_0, hfz218_0⟩ := c10_ BK673) | ((with_reducible refine gg_ ?_); refine gc_ 26 (some 253) Tryz.func26 #[.int .i64 t668] ?_; (with_reducible refine (spec_EmptyTable.calls kj178 t668 t674 t677 _ A207.out).mono ?_); rintro e w219 ⟨v675, rfl, ho0, hb⟩; refine ⟨_, rfl, ?_⟩; have HO676 := aS_ (Kd.R_lower (Kd.R_new' (Kd.R_new' (Kd.R_new' (Kd.R_new' (Kd.R_new' ho0 (Kd.R_lt (by (with_reducible repeat (first | apply rA_ | apply rN_ | apply rD_)); exact (Kd.R_mono (Kd.R_far (p := ⟨gb673, 0, none⟩) (Kd.R_types HO_602000.out BK673.out (by decide)) (fun _ hk => hk.2) (.slice Ao213 t669.length co213)) (fun _ h_ => h_.1))))) (Kd.R_lt (by (with_reducible repeat (first | apply rA_ | apply rN_ | apply rD_)); exact (Kd.R_mono (Kd.R_far (p := ⟨gb673, 0, none⟩) (Kd.R_types HO_646000.out BK673.out (by decide)) (fun _ hk => hk.2) (.slice Ao213 t669.length co213)) (fun _ h_ => h_.1))))) (Kd.R_lt (by (with_reducible repeat (first | apply rA_ | apply rN_ | apply rD_)); exact (Kd.R_mono (Kd.R_far (p := ⟨gb673, 0, none⟩) (Kd.R_types HO_662000.out BK673.out (by decide)) (fun _ hk => hk.2) (.slice Ao213 t669.length co213)) (fun _ h_ => h_.1))))) (Kd.R_lt (by (with_reducible repeat (first | apply rA_ | apply rN_ | apply rD_)); exact (Kd.R_mono (Kd.R_far (p := ⟨gb673, 0, none⟩) (Kd.R_types HO_667000.out BK673.out (by decide)) (fun _ hk => hk.2) (.slice Ao213 t669.length co213)) (fun _ h_ => h_.1))))) (Kd.R_lt (by (with_reducible repeat (first | apply rA_ | apply rN_ | apply rD_)); exact (Kd.R_mono (Kd.R_far (p := ⟨gb673, 0, none⟩) (Kd.R_types HO671.out BK673.out (by decide)) (fun _ hk => hk.2) (.slice Ao213 t669.length co213)) (fun _ h_ => h_.1))))) (below_size (bb_ HB))); replace HO_602000 := aS_ (Kd.R_elder' (by (with_reducible repeat (first | apply rA_ | apply rN_ | apply rD_)); exact (Kd.R_mono (Kd.R_far (p := ⟨gb673, 0, none⟩) (Kd.R_types HO_602000.out BK673.out (by decide)) (fun _ hk => hk.2) (.slice Ao213 t669.length co213)) (fun _ h_ => h_.1))) (Kd.R_base ho0) hb); replace HO_646000 := aS_ (Kd.R_elder' (by (with_reducible repeat (first | apply rA_ | apply rN_ | apply rD_)); exact (Kd.R_mono (Kd.R_far (p := ⟨gb673, 0, none⟩) (Kd.R_types HO_646000.out BK673.out (by decide)) (fun _ hk => hk.2) (.slice Ao213 t669.length co213)) (fun _ h_ => h_.1))) (Kd.R_base ho0) hb); replace HO_662000 := aS_ (Kd.R_elder' (by (with_reducible repeat (first | apply rA_ | apply rN_ | apply rD_)); exact (Kd.R_mono (Kd.R_far (p := ⟨gb673, 0, none⟩) (Kd.R_types HO_662000.out BK673.out (by decide)) (fun _ hk => hk.2) (.slice Ao213 t669.length co213)) (fun _ h_ => h_.1))) (Kd.R_base ho0) hb); replace HO_667000 := aS_ (Kd.R_elder' (by (with_reducible repeat (first | apply rA_ | apply rN_ | apply rD_)); exact (Kd.R_mono (Kd.R_far (p := ⟨gb673, 0, none⟩) (Kd.R_types HO_667000.out BK673.out (by decide)) (fun _ hk => hk.2) (.slice Ao213 t669.length co213)) (fun _ h_ => h_.1))) (Kd.R_base ho0) hb); replace HO671 := aS_ (Kd.R_elder' (by (with_reducible repeat (first | apply rA_ | apply rN_ | apply rD_)); exact (Kd.R_mono (Kd.R_far (p := ⟨gb673, 0, none⟩) (Kd.R_types HO671.out BK673.out (by decide)) (fun _ hk => hk.2) (.slice Ao213 t669.length co213)) (fun _ h_ => h_.1))) (Kd.R_base ho0) hb); replace BK601 := aS_ (blk_below (g := gb601) (o := .cells #[.slice Ao15 t598.length co15] 26 (0, 0)) (by (with_reducible repeat (first | refine kN_ ?_ _ | refine kD_ ?_ | refine kA_ ?_ _)); refine blk_far ?_ NB601_673.out _; (with_reducible repeat (first | refine kN_ ?_ _ | refine kD_ ?_ | refine kA_ ?_ _)); exact BK601.out) hb); replace BK645 := aS_ (blk_below (g := gb645) (o := .cells #[.slice Ao138 t642.length co138] 26 (0, 0)) (by (with_reducible repeat (first | refine kN_ ?_ _ | refine kD_ ?_ | refine kA_ ?_ _)); refine blk_far ?_ NB645_673.out _; (with_reducible repeat (first | refine kN_ ?_ _ | refine kD_ ?_ | refine kA_ ?_ _)); exact BK645.out) hb); replace BK661 := aS_ (blk_below (g := gb661) (o := .cells #[.slice Ao183 t657.length co183] 26 (0, 0)) (by (with_reducible repeat (first | refine kN_ ?_ _ | refine kD_ ?_ | refine kA_ ?_ _)); refine blk_far ?_ NB661_673.out _; (with_reducible repeat (first | refine kN_ ?_ _ | refine kD_ ?_ | refine kA_ ?_ _)); exact BK661.out) hb); replace BK666 := aS_ (blk_below (g := gb666) (o := .cells #[.slice Ao189 t662.length co189] 26 (0, 0)) (by (with_reducible repeat (first | refine kN_ ?_ _ | refine kD_ ?_ | refine kA_ ?_ _)); refine blk_far ?_ NB666_673.out _; (with_reducible repeat (first | refine kN_ ?_ _ | refine kD_ ?_ | refine kA_ ?_ _)); exact BK666.out) hb); replace BK673 := aS_ (blk_below (g := gb673) (o := .cells #[.slice Ao213 t669.length co213] 26 (0, 0)) (by (with_reducible repeat (first | refine kN_ ?_ _ | refine kD_ ?_ | refine kA_ ?_ _)); refine blk_put (cs := #[.slice none 0 0]) ?_ 0 _ rfl; (with_reducible repeat (first | refine kN_ ?_ _ | refine kD_ ?_ | refine kA_ ?_ _)); exact BK673.out) hb); replace HB := bE_ HB hb; (try clear hb); (try clear hk); (try clear ho0)) | ((with_reducible refine gate_dst (N := 44) rfl ?_); (try (refine gate_guard (by rfl) ?_; dsimp only)); refine box_event ?hg (N := 44) ?hd (cs := #[.slice none 0 0]) (t := 26) ?hr ?_; (case hd => rfl); (case hg => rfl); (case hr => first | (go_simp; done) | (go_simp; rfl)); intro gb678 hg w220 hbox hb; replace HO_602000 := aS_ (Kd.R_below (rr_ HO_602000) hb); replace HO_646000 := aS_ (Kd.R_below (rr_ HO_646000) hb); replace HO_662000 := aS_ (Kd.R_below (rr_ HO_662000) hb); replace HO_667000 := aS_ (Kd.R_below (rr_ HO_667000) hb); replace HO671 := aS_ (Kd.R_below (rr_ HO671) hb); replace HO676 := aS_ (Kd.R_below (rr_ HO676) hb); have BK678 := aS_ (hbox); have GW678 := gE_ HB hg; have GE678 := gE_ HB hg; replace HB := bE_ HB hb; have NB601_678 := nL_ BK601 hg; have NB678_601 := nG_ BK601 hg; replace BK601 := kO_ BK601 hb; have NB645_678 := nL_ BK645 hg; have NB678_645 := nG_ BK645 hg; replace BK645 := kO_ BK645 hb; have NB661_678 := nL_ BK661 hg; have NB678_661 := nG_ BK661 hg; replace BK661 := kO_ BK661 hb; have NB666_678 := nL_ BK666 hg; have NB678_666 := nG_ BK666 hg; replace BK666 := kO_ BK666 hb; have NB673_678 := nL_ BK673 hg; have NB678_673 := nG_ BK673 hg; replace BK673 := kO_ BK673 hb; clear hb hbox hg; obtain ⟨Ao221, co221, eo221⟩ := Kd.R_slice HO676.out; subst eo221; have hnb222 := NB678_601.out; have hnc222 := NB601_678.out; have hnb223 := NB678_645.out; have hnc223 := NB645_678.out; have hnb224 := NB678_661.out; have hnc224 := NB661_678.out; have hnb225 := NB678_666.out; have hnc225 := NB666_678.out; have hnb226 := NB678_673.out; have hnc226 := NB673_678.out; obtain ⟨hcz227_0, hfz227_0⟩ := c10_ BK678; obtain ⟨hcz228_0, hfz228_0⟩ := c10_ BK673) | (go_at_call 15; (with_reducible refine (laws_jTable.calls _ _ _ _ _ _ _ _ _ ?side1 ?side2 ?side3 ?side4 A209.out).mono ?_); (case side1 => refine (Kd.R_reads' (e := 3) (base := w.heap.size) (ok := fun k_ => (((((True ∧ some k_ ≠ (.slice Ao15 t598.length co15 : Value).ownBlock) ∧ some k_ ≠ (.slice Ao138 t642.length co138 : Value).ownBlock) ∧ some k_ ≠ (.slice Ao183 t657.length co183 : Value).ownBlock) ∧ some k_ ≠ (.slice Ao189 t662.length co189 : Value).ownBlock) ∧ some k_ ≠ (.slice Ao221 t674.length co221 : Value).ownBlock)) (n := t669.length) (c := co213) ?_).2.2; exact (by (with_reducible repeat (first | apply rA_ | apply rN_ | apply rD_)); exact (Kd.R_mono (Kd.R_far (p := ⟨gb678, 0, none⟩) (Kd.R_types HO671.out BK678.out (by decide)) (fun _ hk => hk.2) (.slice Ao221 t674.length co221)) (fun _ h_ => h_.1)))); (case side2 => exact (Kd.R_reads' HO671.out).2.1); (case side3 => refine (Kd.R_reads' (e := 3) (base := w.heap.size) (ok := fun k_ => (((((True ∧ some k_ ≠ (.slice Ao15 t598.length co15 : Value).ownBlock) ∧ some k_ ≠ (.slice Ao138 t642.length co138 : Value).ownBlock) ∧ some k_ ≠ (.slice Ao183 t657.length co183 : Value).ownBlock) ∧ some k_ ≠ (.slice Ao189 t662.length co189 : Value).ownBlock) ∧ some k_ ≠ (.slice Ao213 t669.length co213 : Value).ownBlock)) (n := t674.length) (c := co221) ?_).2.2; exact (by (with_reducible repeat (first | apply rA_ | apply rN_ | apply rD_)); exact (Kd.R_mono (Kd.R_far (p := ⟨gb678, 0, none⟩) (Kd.R_types HO676.out BK678.out (by decide)) (fun _ hk => hk.2) (.slice Ao221 t674.length co221)) (fun _ h_ => h_.1)))); (case side4 => exact (Kd.R_reads' HO676.out).2.1); rintro e w229 ⟨rfl, hb⟩; replace HO_602000 := aS_ (Kd.R_below (by (with_reducible repeat (first | apply rA_ | apply rN_ | apply rD_)); exact (Kd.R_mono (Kd.R_far (p := ⟨gb678, 0, none⟩) (Kd.R_types HO_602000.out BK678.out (by decide)) (fun _ hk => hk.2) (.slice Ao221 t674.length co221)) (fun _ h_ => h_.1))) hb); replace HO_646000 := aS_ (Kd.R_below (by (with_reducible repeat (first | apply rA_ | apply rN_ | apply rD_)); exact (Kd.R_mono (Kd.R_far (p := ⟨gb678, 0, none⟩) (Kd.R_types HO_646000.out BK678.out (by decide)) (fun _ hk => hk.2) (.slice Ao221 t674.length co221)) (fun _ h_ => h_.1))) hb); replace HO_662000 := aS_ (Kd.R_below (by (with_reducible repeat (first | apply rA_ | apply rN_ | apply rD_)); exact (Kd.R_mono (Kd.R_far (p := ⟨gb678, 0, none⟩) (Kd.R_types HO_662000.out BK678.out (by decide)) (fun _ hk => hk.2) (.slice Ao221 t674.length co221)) (fun _ h_ => h_.1))) hb); replace HO_667000 := aS_ (Kd.R_below (by (with_reducible repeat (first | apply rA_ | apply rN_ | apply rD_)); exact (Kd.R_mono (Kd.R_far (p := ⟨gb678, 0, none⟩) (Kd.R_types HO_667000.out BK678.out (by decide)) (fun _ hk => hk.2) (.slice Ao221 t674.length co221)) (fun _ h_ => h_.1))) hb); replace HO671 := aS_ (Kd.R_below (by (with_reducible repeat (first | apply rA_ | apply rN_ | apply rD_)); exact (Kd.R_mono (Kd.R_far (p := ⟨gb678, 0, none⟩) (Kd.R_types HO671.out BK678.out (by decide)) (fun _ hk => hk.2) (.slice Ao221 t674.length co221)) (fun _ h_ => h_.1))) hb); replace HO676 := aS_ (Kd.R_below (by (with_reducible repeat (first | apply rA_ | apply rN_ | apply rD_)); exact (Kd.R_mono (Kd.R_far (p := ⟨gb678, 0, none⟩) (Kd.R_types HO676.out BK678.out (by decide)) (fun _ hk => hk.2) (.slice Ao221 t674.length co221)) (fun _ h_ => h_.1))) hb); replace BK601 := aS_ (blk_below (g := gb601) (o := .cells #[.slice Ao15 t598.length co15] 26 (0, 0)) (by (with_reducible repeat (first | refine kN_ ?_ _ | refine kD_ ?_ | refine kA_ ?_ _)); refine blk_far ?_ NB601_678.out _; (with_reducible repeat (first | refine kN_ ?_ _ | refine kD_ ?_ | refine kA_ ?_ _)); exact BK601.out) hb); replace BK645 := aS_ (blk_below (g := gb645) (o := .cells #[.slice Ao138 t642.length co138] 26 (0, 0)) (by (with_reducible repeat (first | refine kN_ ?_ _ | refine kD_ ?_ | refine kA_ ?_ _)); refine blk_far ?_ NB645_678.out _; (with_reducible repeat (first | refine kN_ ?_ _ | refine kD_ ?_ | refine kA_ ?_ _)); exact BK645.out) hb); replace BK661 := aS_ (blk_below (g := gb661) (o := .cells #[.slice Ao183 t657.length co183] 26 (0, 0)) (by (with_reducible repeat (first | refine kN_ ?_ _ | refine kD_ ?_ | refine kA_ ?_ _)); refine blk_far ?_ NB661_678.out _; (with_reducible repeat (first | refine kN_ ?_ _ | refine kD_ ?_ | refine kA_ ?_ _)); exact BK661.out) hb); replace BK666 := aS_ (blk_below (g := gb666) (o := .cells #[.slice Ao189 t662.length co189] 26 (0, 0)) (by (with_reducible repeat (first | refine kN_ ?_ _ | refine kD_ ?_ | refine kA_ ?_ _)); refine blk_far ?_ NB666_678.out _; (with_reducible repeat (first | refine kN_ ?_ _ | refine kD_ ?_ | refine kA_ ?_ _)); exact BK666.out) hb); replace BK673 := aS_ (blk_below (g := gb673) (o := .cells #[.slice Ao213 t669.length co213] 26 (0, 0)) (by (with_reducible repeat (first | refine kN_ ?_ _ | refine kD_ ?_ | refine kA_ ?_ _)); refine blk_far ?_ NB673_678.out _; (with_reducible repeat (first | refine kN_ ?_ _ | refine kD_ ?_ | refine kA_ ?_ _)); exact BK673.out) hb); replace BK678 := aS_ (blk_below (g := gb678) (o := .cells #[.slice Ao221 t674.length co221] 26 (0, 0)) (by (with_reducible repeat (first | refine kN_ ?_ _ | refine kD_ ?_ | refine kA_ ?_ _)); refine blk_put (cs := #[.slice none 0 0]) ?_ 0 _ rfl; (with_reducible repeat (first | refine kN_ ?_ _ | refine kD_ ?_ | refine kA_ ?_ _)); exact BK678.out) hb); replace HB := bE_ HB hb; (try clear hb); (try clear hk)))
 go_ret
 exact ⟨eR_, bb_ HB⟩

/-- THE ONE PURE STATEMENT of laws_FnInsertionOrders: yours. -/
def laws_FnInsertionOrders.Pure : Prop := ∀ (l0 : List Int) (l1 : List Int), l0.length ≤ maxLen → l0.length * 1 ≤ 140737488351232 → (∀ x ∈ l0, (Lit.int .u8 x).wf = true) → l1.length ≤ maxLen → l1.length * 1 ≤ 140737488351232 → (∀ x ∈ l1, (Lit.int .u8 x).wf = true) → ∃ k, laws_FnInsertionOrders.f k l0 l1 = some true
end Go.Proofs.YteakjjimkagmkaaGreatDoor.G
namespace Go.Proofs.YteakjjimkagmkaaGreatDoor.G
open Go.RowKit Go.Proofs.YteakjjimkagmkaaGreatDoorW.PrintWords Go.Proofs.YteakjjimkagmkaaGreatDoorW.PrintLast Go.Proofs.YteakjjimkagmkaaGreatDoorW.PrintMore
theorem wrap_id {x : Int} (h1 : -9223372036854775808 ≤ x) (h2 : x ≤ 9223372036854775807) : wrap64 x = x := by unfold wrap64; omega
theorem wrap_next {i n : Nat} (h : i < n) (hn : n ≤ 4611686018427387904) : wrap64 ((i : Int) + 1) = ((i + 1 : Nat) : Int) := by rw [wrap_id (by omega) (by omega)]; rfl
theorem succ_of {d k : Nat} (h : d < k) : ∃ m, k = m + 1 := ⟨k - 1, by omega⟩
theorem rd_nat (l : List Int) (i : Nat) : rd l (i : Int) = l.getD i 0 := by unfold rd; rw [Int.toNat_natCast]
end Go.Proofs.YteakjjimkagmkaaGreatDoor.G
